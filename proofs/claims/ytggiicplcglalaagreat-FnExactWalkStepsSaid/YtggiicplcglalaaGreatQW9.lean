/- Part of the proof that FnExactWalkSteps answers true. -/
import Derived.Test.YtggiicplcglalaaGreatQW8
section
namespace Go.Proofs.YtggiicplcglalaaGreat.All
open Go.RowKit YtggiicplcglalaaGreatW.PrintWords YtggiicplcglalaaGreatW.PrintLast YtggiicplcglalaaGreatW.PrintMore
attribute [local go_sem] max2_int min2_int max_two min_two max_three min_three max_four min_four
set_option linter.unusedVariables false
set_option linter.unusedSimpArgs false
set_option maxHeartbeats 8000000
set_option maxRecDepth 100000
def agc : Go.Shelf.Ren := ⟨fun | 6 => 134 | 14 => 160 | 15 => 139 | 20 => 179 | 21 => 180 | 22 => 181 | 23 => 182 | 24 => 183 | 25 => 184 | 26 => 185 | 27 => 186 | 28 => 171 | 29 => 172 | 46 => 193 | 47 => 189 | 48 => 190 | 49 => 194 | 50 => 195 | 57 => 197 | n => n, fun | 0 => 0 | 3 => 3 | 4 => 4 | 5 => 5 | 9 => 9 | 22 => 22 | 24 => 40 | 25 => 106 | 39 => 123 | 45 => 138 | 46 => 139 | 50 => 57 | 53 => 145 | 55 => 86 | 66 => 155 | 70 => 159 | 76 => 163 | 77 => 96 | n => n, fun | n => n⟩
theorem agd : SlLaysF.n6 Tryz.prog agc := {
 mixed := by kernel_rfl
 f6 := ⟨Tryz.f134.name, by decide, Tryz.func134.trans (congrArg some (by kernel_rfl))⟩
 f14 := ⟨Tryz.f160.name, by decide, Tryz.func160.trans (congrArg some (by kernel_rfl))⟩
 f15 := Tryz.func139.trans (congrArg some (by kernel_rfl))
 f20 := ⟨Tryz.f179.name, by decide, Tryz.func179.trans (congrArg some (by kernel_rfl))⟩
 f21 := ⟨Tryz.f180.name, by decide, Tryz.func180.trans (congrArg some (by kernel_rfl))⟩
 f22 := ⟨Tryz.f181.name, by decide, Tryz.func181.trans (congrArg some (by kernel_rfl))⟩
 f23 := ⟨Tryz.f182.name, by decide, Tryz.func182.trans (congrArg some (by kernel_rfl))⟩
 f24 := ⟨Tryz.f183.name, by decide, Tryz.func183.trans (congrArg some (by kernel_rfl))⟩
 f25 := ⟨Tryz.f184.name, by decide, Tryz.func184.trans (congrArg some (by kernel_rfl))⟩
 f26 := ⟨Tryz.f185.name, by decide, Tryz.func185.trans (congrArg some (by kernel_rfl))⟩
 f27 := ⟨Tryz.f186.name, by decide, Tryz.func186.trans (congrArg some (by kernel_rfl))⟩
 f28 := Tryz.func171.trans (congrArg some (by kernel_rfl))
 f29 := Tryz.func172.trans (congrArg some (by kernel_rfl))
 f46 := ⟨Tryz.f193.name, by decide, Tryz.func193.trans (congrArg some (by kernel_rfl))⟩
 f47 := Tryz.func189.trans (congrArg some (by kernel_rfl))
 f48 := Tryz.func190.trans (congrArg some (by kernel_rfl))
 f49 := ⟨Tryz.f194.name, by decide, Tryz.func194.trans (congrArg some (by kernel_rfl))⟩
 f50 := ⟨Tryz.f195.name, by decide, Tryz.func195.trans (congrArg some (by kernel_rfl))⟩
 f57 := ⟨Tryz.f197.name, by decide, Tryz.func197.trans (congrArg some (by kernel_rfl))⟩
 t0 := Tryz.underlying0
 a0 := Tryz.isAgg0
 z0 := Tryz.sizeOf0
 v0 := Tryz.zeroValue0
 t3 := Tryz.underlying3
 a3 := Tryz.isAgg3
 z3 := Tryz.sizeOf3
 v3 := Tryz.zeroValue3
 t4 := Tryz.underlying4
 a4 := Tryz.isAgg4
 z4 := Tryz.sizeOf4
 v4 := Tryz.zeroValue4
 t5 := Tryz.underlying5
 a5 := Tryz.isAgg5
 z5 := Tryz.sizeOf5
 v5 := Tryz.zeroValue5
 t9 := Tryz.underlying9
 a9 := Tryz.isAgg9
 z9 := Tryz.sizeOf9
 v9 := Tryz.zeroValue9
 t22 := Tryz.underlying22
 a22 := Tryz.isAgg22
 z22 := Tryz.sizeOf22
 v22 := Tryz.zeroValue22
 a24 := Tryz.isAgg40
 z24 := Tryz.sizeOf40
 t25 := Tryz.underlying106
 a25 := Tryz.isAgg106
 z25 := Tryz.sizeOf106
 v25 := Tryz.zeroValue106
 t39 := Tryz.underlying123
 a39 := Tryz.isAgg123
 z39 := Tryz.sizeOf123
 v39 := Tryz.zeroValue123
 t45 := Tryz.underlying138
 a45 := Tryz.isAgg138
 z45 := Tryz.sizeOf138
 v45 := Tryz.zeroValue138
 t46 := Tryz.underlying139
 a46 := Tryz.isAgg139
 z46 := Tryz.sizeOf139
 v46 := Tryz.zeroValue139
 t50 := Tryz.underlying57
 a50 := Tryz.isAgg57
 z50 := Tryz.sizeOf57
 v50 := Tryz.zeroValue57
 t53 := Tryz.underlying145
 a53 := Tryz.isAgg145
 z53 := Tryz.sizeOf145
 v53 := Tryz.zeroValue145
 t55 := Tryz.underlying86
 a55 := Tryz.isAgg86
 z55 := Tryz.sizeOf86
 v55 := Tryz.zeroValue86
 t66 := Tryz.underlying155
 a66 := Tryz.isAgg155
 z66 := Tryz.sizeOf155
 v66 := Tryz.zeroValue155
 t70 := Tryz.underlying159
 a70 := Tryz.isAgg159
 z70 := Tryz.sizeOf159
 v70 := Tryz.zeroValue159
 t76 := Tryz.underlying163
 a76 := Tryz.isAgg163
 z76 := Tryz.sizeOf163
 v76 := Tryz.zeroValue163
 t77 := Tryz.underlying96
 a77 := Tryz.isAgg96
 z77 := Tryz.sizeOf96
 v77 := Tryz.zeroValue96 }
section
variable {α : Type} [Inhabited α]
open Go.Sort in
theorem HI (enc : α → Value) {w : World} {g n : Nat} {os : Array Obj} {cur : Array Value} {e : TypeId} {fr : Nat × Nat} (d : Array α) (hb : w.heap[g]? = some (.cells cur e fr)) :
  (Go.Sort.grow (putRow enc (Sort.ahead w n) g 0 d) os).heap[g]? = some (.cells (putCells enc 0 d cur) e fr) := by
 have hg : g < w.heap.size := (Array.getElem?_eq_some_iff.1 hb).1
 rw [heap_grow_old _ _ (by simpa using hg)]
 simp [putRow, mapBlock, Sort.ahead, Array.getElem?_modify, hb, onCells]
open Go.Sort in
theorem sS (enc : α → Value) {w : World} {g n : Nat} {os : Array Obj} (d : Array α) : w.grownBy (Go.Sort.grow (putRow enc (Sort.ahead w n) g 0 d) os) (some g) := by
 refine ⟨rfl, rfl, rfl, by simp, fun k hk fv => ?_⟩
 rw [heap_grow_old _ _ (by simpa using hk)]
 have : g ≠ k := fun e => fv (by rw [e])
 simp [putRow, mapBlock, Sort.ahead, Array.getElem?_modify, this]
open Go.Sort in
theorem HJ (enc : α → Value) (cur : Array Value) (ts : List α) (h : ts.length ≤ cur.size) : (putCells enc 0 ts.toArray cur).toList.take ts.length = ts.map enc := by
 apply List.ext_getElem?
 intro j
 by_cases hj : j < ts.length
 rotate_left
 ·rw [List.getElem?_take_eq_none (by omega), List.getElem?_eq_none (by simp; omega)]
 rw [List.getElem?_take_of_lt hj, Array.getElem?_toList]
 simp [putCells, hj, show j < cur.size by omega]
open Go.Sort in
theorem xU (enc : α → Value) {w : World} {g : Nat} {cur : Array Value} {e : TypeId} {ss : List α} (hb : w.heap[g]? = some (.cells cur e (0, 0))) (ht : cur.toList.take ss.length = ss.map enc) : Holds enc w g 0 ss.toArray := by
 intro j hj
 have tg : j < ss.length := by simpa using hj
 refine ⟨?_, by simp [World.frozen?, hb]⟩
 have h1 : (cur.toList.take ss.length)[j]? = (ss.map enc)[j]? := by rw [ht]
 rw [List.getElem?_take_of_lt tg] at h1
 simp only [World.cell?, hb, Nat.zero_add]
 simp only [Option.isSome_none, Bool.false_eq_true, if_false]
 rw [← Array.getElem?_toList, h1]
 simp [tg]
end
structure jl (w : World) (base : Nat) (ok : Nat → Prop) (f : Nat → Nat) where
 v : Value
 l : List Int
 i : Nat
 m : (Kd.slice 3 (Kd.int .i64)).M w base (fun k => ok k ∧ f k = i) l [v]
section
variable {w : World} {base : Nat} {ok : Nat → Prop} {f : Nat → Nat}
instance : Inhabited (jl w base ok f) := ⟨⟨.slice none 0 0, [], 0, ⟨_, rfl, Kd.mV _ _ _ _ _⟩⟩⟩
theorem jl.one (x : jl w base ok f) : x.v.oneCell' = true := (Kd.slice 3 (Kd.int .i64)).iU ((Kd.slice 3 (Kd.int .i64)).ep x.m) x.v (by simp)
theorem jl.reads (x : jl w base ok f) {W : World} (hW : ∀ k, ok k → k < w.heap.size → W.heap[k]? = w.heap[k]?) : ∃ A c, x.v = .slice A x.l.length c ∧ x.l.length ≤ c ∧ Kd.C (Kd.int .i64) W A x.l.length x.l := by
 obtain ⟨A, c, e, hl, hr⟩ := (Kd.slice 3 (Kd.int .i64)).ep (Kd.yo x.m (fun k hk gS => hW k hk.1 gS))
 injection e with e _
 exact ⟨A, c, e, hl, hr⟩
theorem TX {e : Nat} {v : Value} {xs : List (List Int)} (h : Kd.S (Kd.slice 3 (Kd.int .i64)) e w base ok v xs) (fv : xs ≠ []) :
  ∃ (f : Nat → Nat) (g cap : Nat) (cur : Array Value) (d : List (jl w base (fun k => ok k ∧ k ≠ g) f)), v = .slice (some ⟨g, 0, none⟩) xs.length cap ∧ base ≤ g ∧ ok g ∧ w.heap[g]? = some (.cells cur e (0, 0)) ∧ xs.length ≤ cap ∧ cap ≤ maxLen ∧ cur.size = cap * 1 ∧ cur.toList.take xs.length = d.map (·.v) ∧ d.map (·.l) = xs ∧ d.map (·.i) = List.range xs.length := by
 obtain ⟨f, h0, inner, ho, hr⟩ := h
 rw [List.length_zipIdx] at ho
 have xm : 0 < xs.length := List.length_pos_iff.mpr fv
 rcases ho.2 with ⟨_, hn⟩ | ⟨g, cap, cur, rfl, cP, lT, h1, h2, h3, h4⟩
 ·omega
 have hlen : inner.length = xs.length := by rw [ho.1]; exact Nat.mul_one _
 have hM : ∀ j (hj : j < xs.length), (Kd.slice 3 (Kd.int .i64)).M w base (fun k => (ok k ∧ k ≠ g) ∧ f k = j) xs[j] [inner[j]'(by omega)] := by
  intro j hj
  have hz : xs.zipIdx[j]? = some (xs[j], j) := Kd.oe (List.getElem?_eq_getElem hj)
  have hm := hr.2 j _ hz
  have e1 : (inner.drop (j * 1)).take 1 = [inner[j]'(by omega)] := by
   rw [Nat.mul_one, List.drop_eq_getElem_cons (by omega), List.take_succ_cons, List.take_zero]
  have e2 : ((inner.drop (j * (Kd.tag f (Kd.slice 3 (Kd.int .i64))).sz)).take (Kd.tag f (Kd.slice 3 (Kd.int .i64))).sz) = [inner[j]'(by omega)] := e1
  rw [e2] at hm
  exact (Kd.slice 3 (Kd.int .i64)).dt (fun k hk => ⟨⟨hk.1.1, fun e_ => hk.1.2 (by rw [e_]; rfl)⟩, hk.2⟩) hm
 refine ⟨f, g, cap, cur, List.ofFn (fun j : Fin xs.length => ⟨inner[j.1]'(by omega), xs[j.1], j.1, hM j.1 j.2⟩), rfl, cP, h0 g rfl, lT, h1, h2, h3, ?_, ?_, ?_⟩
 ·have h4' : cur.toList.take xs.length = inner := by have := h4; rwa [show xs.length * (Kd.tag f (Kd.slice 3 (Kd.int .i64))).sz = xs.length from Nat.mul_one _] at this
  rw [h4']
  apply List.ext_getElem (by simp [hlen])
  intro j h5 h6
  simp
 ·apply List.ext_getElem (by simp)
  intro j h5 h6
  simp
 ·apply List.ext_getElem (by simp)
  intro j h5 h6
  simp
theorem NF {e g cap : Nat} {w' : World} {tk : Array Value} (d' : List (jl w base (fun k => ok k ∧ k ≠ g) f)) (hn : (d'.map (·.i)).Nodup) (gr : ok g) (cP : base ≤ g) (lT : w'.heap[g]? = some (.cells tk e (0, 0))) (h1 : d'.length ≤ cap) (h2 : cap ≤ maxLen) (h3 : tk.size = cap * 1) (h4 : tk.toList.take d'.length = d'.map (·.v)) (hm : ∀ k, k ≠ g → k < w.heap.size → w'.heap[k]? = w.heap[k]?) :
  Kd.S (Kd.slice 3 (Kd.int .i64)) e w' base ok (.slice (some ⟨g, 0, none⟩) d'.length cap) (d'.map (·.l)) := by
 refine ⟨fun k => (d'.map (·.i)).idxOf (f k), fun k hk => ?_, d'.map (·.v), ?_, ?_⟩
 ·have : g = k := by simpa [Value.ownBlock] using hk
  subst this; exact gr
 ·rw [List.length_zipIdx, List.length_map]
  exact ⟨by rw [List.length_map]; exact (Nat.mul_one _).symm, .inr ⟨g, cap, tk, rfl, cP, lT, h1, h2, h3, by rw [show d'.length * (Kd.tag (fun k => (d'.map (·.i)).idxOf (f k)) (Kd.slice 3 (Kd.int .i64))).sz = d'.length from Nat.mul_one _]; exact h4⟩⟩
 ·refine ⟨by rw [List.length_map, List.length_zipIdx, List.length_map]; exact (Nat.mul_one _).symm, fun j p hp => ?_⟩
  have hj : j < d'.length := by
   have := (List.getElem?_eq_some_iff.mp hp).1
   simpa using this
  have Tl : p = ((d'[j]).l, j) := by
   rw [Kd.oe (List.getElem?_eq_getElem (by simpa using hj))] at hp
   injection hp with hp
   rw [← hp]; simp
  subst Tl
  have e2 : (((d'.map (·.v)).drop (j * (Kd.tag (fun k => (d'.map (·.i)).idxOf (f k)) (Kd.slice 3 (Kd.int .i64))).sz)).take (Kd.tag (fun k => (d'.map (·.i)).idxOf (f k)) (Kd.slice 3 (Kd.int .i64))).sz) = [(d'[j]).v] := by
   show ((d'.map (·.v)).drop (j * 1)).take 1 = _
   rw [Nat.mul_one, List.drop_eq_getElem_cons (by simpa using hj), List.take_succ_cons, List.take_zero]
   simp
  rw [e2]
  have hmv := Kd.yo (w1 := w') (d'[j]).m (fun k hk gS => hm k hk.1.2 gS)
  show (Kd.slice 3 (Kd.int .i64)).M w' base (fun k => (ok k ∧ some k ≠ (Value.slice (some ⟨g, 0, none⟩) d'.length cap).ownBlock) ∧ (d'.map (·.i)).idxOf (f k) = j) (d'[j]).l [(d'[j]).v]
  refine (Kd.slice 3 (Kd.int .i64)).dt (fun k hk => ⟨⟨hk.1.1, fun e_ => hk.1.2 (Option.some.inj e_)⟩, ?_⟩) hmv
  show (d'.map (·.i)).idxOf (f k) = j
  rw [hk.2]
  have : (d'[j]).i = (d'.map (·.i))[j]'(by simpa using hj) := by simp
  rw [this]
  exact List.Nodup.idxOf_getElem hn j (by simpa using hj)
end
def gm : List Int → List Int → Int
 | [], [] => 0
 | [], _ :: _ => -1
 | _ :: _, [] => 1
 | a :: l, b :: m => if a < b then -1 else if b < a then 1 else gm l m
theorem Xk (a b : Int) : gB.f a b = some (if a < b then -1 else if b < a then 1 else 0) := by
 simp only [gB.f, cmp_isNaN_int.f, Option.bind_some]
 simp
 split <;> simp_all
 split <;> simp_all
theorem sT (x : List Int) (i : Nat) (h : i < x.length) : x.drop i = rd x i :: x.drop (i + 1) := by
 rw [List.drop_eq_getElem_cons h]
 simp [rd, h]
theorem Ju (x y : List Int) (hx : x.length ≤ 9223372036854775807) : ∀ (d i : Nat), x.length - i ≤ d → i ≤ x.length → i ≤ y.length → an.l0 (d + 1) x y x (x.length : Int) (i : Int) = some (gm (x.drop i) (y.drop i)) := by
 intro d
 induction d with
 | zero =>
  intro i h1 h2 h3
  have e : i = x.length := by omega
  subst e
  simp only [an.l0]
  rw [if_neg (by omega), List.drop_length]
  by_cases c : (x.length : Int) < (y.length : Int)
  ·rw [if_pos c, sT y x.length (by omega)]; rfl
  rw [if_neg c, List.drop_eq_nil_of_le (by omega)]; rfl
 | succ d ih =>
  intro i h1 h2 h3
  by_cases c : i < x.length
  rotate_left
  ·have e : i = x.length := by omega
   subst e
   simp only [an.l0]
   rw [if_neg (by omega), List.drop_length]
   by_cases c : (x.length : Int) < (y.length : Int)
   ·rw [if_pos c, sT y x.length (by omega)]; rfl
   rw [if_neg c, List.drop_eq_nil_of_le (by omega)]; rfl
  simp only [an.l0]
  rw [if_pos (by omega), if_pos (by omega), if_pos (by omega), sT x i c]
  by_cases c2 : i < y.length
  rotate_left
  ·rw [if_pos (by omega), show y.drop i = [] from List.drop_eq_nil_of_le (by omega)]; rfl
  rw [if_neg (by omega), if_pos (by omega), sT y i c2, Xk]
  simp only [Option.bind_some, gm]
  by_cases c3 : rd x i < rd y i
  ·simp [c3]
  by_cases c4 : rd y i < rd x i
  ·simp [c3, c4]
  simp only [c3, c4, if_false]
  have hw : wrap64 ((i : Int) + 1) = ((i + 1 : Nat) : Int) := by unfold wrap64; omega
  rw [hw]
  exact ih (i + 1) (by omega) (by omega) (by omega)
theorem Jv (x y : List Int) (hx : x.length ≤ 9223372036854775807) : an.f (x.length + 1) x y = some (gm x y) := by
 have := Ju x y hx x.length 0 (by omega) (by omega) (by omega)
 simpa [an.f] using this
theorem fx : ∀ x : List Int, ¬ gm x x < 0
 | [] => by simp [gm]
 | a :: x => by simp only [gm, Int.lt_irrefl, if_false]; exact fx x
theorem iK : ∀ {x y z : List Int}, gm x y < 0 → gm y z < 0 → gm x z < 0
 | [], [], _, h, _ => by simp [gm] at h
 | [], _ :: _, [], _, h => by simp [gm] at h
 | [], _ :: _, _ :: _, _, _ => by simp [gm]
 | _ :: _, [], _, h, _ => by simp [gm] at h
 | _ :: _, _ :: _, [], _, h => by simp [gm] at h
 | a :: x, b :: y, c :: z, h1, h2 => by
  simp only [gm] at *
  by_cases e1 : a < b
  ·by_cases e2 : b < c
   ·rw [if_pos (by omega)]; omega
   rw [if_neg e2] at h2
   by_cases e3 : c < b
   ·rw [if_pos e3] at h2; omega
   rw [if_pos (by omega)]; omega
  rw [if_neg e1] at h1
  by_cases e2 : b < a
  ·rw [if_pos e2] at h1; omega
  rw [if_neg e2] at h1
  by_cases e3 : b < c
  ·rw [if_pos (by omega)]; omega
  rw [if_neg e3] at h2
  by_cases e4 : c < b
  ·rw [if_pos e4] at h2; omega
  rw [if_neg e4] at h2
  rw [if_neg (by omega), if_neg (by omega)]
  exact iK h1 h2
theorem vY : ∀ {x y : List Int}, ¬ gm x y < 0 → ¬ gm y x < 0 → x = y
 | [], [], _, _ => rfl
 | [], _ :: _, h, _ => by simp [gm] at h
 | _ :: _, [], _, h => by simp [gm] at h
 | a :: x, b :: y, h1, h2 => by
  simp only [gm] at h1 h2
  by_cases e1 : a < b
  ·rw [if_pos e1] at h1; omega
  by_cases e2 : b < a
  ·rw [if_pos e2] at h2; omega
  rw [if_neg e1, if_neg e2] at h1
  rw [if_neg e2, if_neg e1] at h2
  have : a = b := by omega
  subst this
  rw [vY h1 h2]
open Go.Sort in
theorem TY {α : Type} (t : α → List Int) : SWO (ltOf fun x y : α => gm (t x) (t y)) where
 irrefl x := decide_eq_false (fx _)
 trans x y z h1 h2 := decide_eq_true (iK (of_decide_eq_true h1) (of_decide_eq_true h2))
 ntrans x y z h1 h2 := by
  have a := of_decide_eq_false h1
  have b := of_decide_eq_false h2
  refine decide_eq_false (fun c => ?_)
  by_cases e : gm (t y) (t x) < 0
  ·exact b (iK e c)
  have c' : gm (t x) (t z) < 0 := c
  rw [vY a e] at c'
  exact b c'
open Go.Sort in
theorem NM {v : Value} {xs : List (List Int)} {w0 w : World} {ok : Nat → Prop} (hB : Go.RowKit.Below w0.heap.size w0 w) (ho : Kd.S (Kd.slice 3 (Kd.int .i64)) 40 w w0.heap.size ok v xs) (fv : xs ≠ []) (hlm : xs.length < 4611686018427387904) :
  Calls Tryz.prog 134 #[v, .func (.func 135) #[] #[]] w fun e w' => e = .returned (.tuple #[]) ∧ ∃ ys : List (List Int), ys.Perm xs ∧ ys.Pairwise (fun a b => ¬ gm b a < 0) ∧ Kd.S (Kd.slice 3 (Kd.int .i64)) 40 w' w0.heap.size ok v ys ∧ Go.RowKit.Below w0.heap.size w0 w' := by
 obtain ⟨f, g, cap, cur, d, rfl, cP, gr, lT, h1, h2, h3, h4, h5, h6⟩ := TX ho fv
 have O6 : d.length = xs.length := by have := congrArg List.length h5; simpa using this
 have gS : g < w.heap.size := (Array.getElem?_eq_some_iff.1 lT).1
 have hH : Holds (fun x : jl w w0.heap.size (fun k => ok k ∧ k ≠ g) f => x.v) w g 0 d.toArray := xU _ lT (by rw [O6]; exact h4)
 have TZ : ∀ x : jl w w0.heap.size (fun k => ok k ∧ k ≠ g) f, x.l.length ≤ 9223372036854775807 := fun x => by
  obtain ⟨A, c, _, _, hr⟩ := x.reads (W := w) (fun _ _ _ => rfl)
  exact hr.2.1
 have lP := Any.slices_SortFunc agd (fun x : jl w w0.heap.size (fun k => ok k ∧ k ≠ g) f => x.v) (fun x => x.one) (fun x y => gm x.l y.l) (TY _) 135 #[] g 0 cap d.toArray w
  (enters_of Tryz.func135 (by kernel_rfl) rfl)
  (fun m os dk hs x y => by
   have hW : ∀ k, (ok k ∧ k ≠ g) → k < w.heap.size → (sortWorld (fun x : jl w w0.heap.size (fun k => ok k ∧ k ≠ g) f => x.v) w g 0 m dk os).heap[k]? = w.heap[k]? := fun k hk hl => (sS (fun x : jl w w0.heap.size (fun k => ok k ∧ k ≠ g) f => x.v) dk).block k hl (fun e_ => hk.2 (by injection e_))
   obtain ⟨A, c, e1, l1, r1⟩ := x.reads hW
   obtain ⟨A', c', e2, l2, r2⟩ := y.reads hW
   have hc := an.calls _ A c x.l A' c' y.l _ _ r1 l1 r2 l2 (Jv x.l y.l (TZ x))
   simp only [e1, e2]
   refine Calls.mono hc ?_
   rintro e w' ⟨he, ⟨nd, hw⟩⟩
   exact ⟨he, nd, #[], by rw [grow_empty]; exact hw⟩)
  hH gS (by simp only [List.size_toArray]; omega)
 change Calls Tryz.prog 134 _ _ _ at lP
 simp only [List.size_toArray, O6] at lP
 refine lP.mono ?_
 rintro e w' ⟨rfl, d', n, os, hp, hs, rfl⟩
 have H4 : d'.size = xs.length := by rw [hp.1]; simpa using O6
 have aal : d'.toList.Perm d := by
  have := hp.2.2
  rw [show d'.extract 0 xs.length = d' by rw [← H4]; simp, show d.toArray.extract 0 xs.length = d.toArray by rw [← O6]; simp] at this
  simpa using this
 have hg := sS (fun x : jl w w0.heap.size (fun k => ok k ∧ k ≠ g) f => x.v) (w := w) (g := g) (n := n) (os := os) d'
 refine ⟨rfl, d'.toList.map (·.l), ?_, ?_, ?_, hB.grown hg hB.size (fun k hk => by cases hk; exact cP)⟩
 ·rw [← h5]; exact aal.map _
 ·rw [List.pairwise_map, List.pairwise_iff_getElem]
  intro i j hi hj Vx
  have K7 : i < d'.size := by simpa using hi
  have tg : j < d'.size := by simpa using hj
  have := hs i j (Nat.zero_le _) Vx (by omega)
  rw [getElem!_pos d' i K7, getElem!_pos d' j tg] at this
  exact of_decide_eq_false this
 ·have hl : d'.toList.length = xs.length := by simpa using H4
  rw [← hl]
  refine NF d'.toList ?_ gr cP (HI _ d' lT) (by omega) h2 (by simp [putCells, h3]) ?_ (fun k hk gS => hg.block k gS (fun e_ => hk (by injection e_)))
  ·have hn : (d.map (·.i)).Nodup := by rw [h6]; exact List.nodup_range
   exact ((aal.map (·.i)).nodup_iff).mpr hn
  ·have := HJ (fun x : jl w w0.heap.size (fun k => ok k ∧ k ≠ g) f => x.v) cur d'.toList (by rw [hl, h3]; omega)
   simpa using this
end Go.Proofs.YtggiicplcglalaaGreat.All
end
section
namespace Go.Proofs.YtggiicplcglalaaGreat.All
open Go.RowKit YtggiicplcglalaaGreatW.PrintWords YtggiicplcglalaaGreatW.PrintLast YtggiicplcglalaaGreatW.PrintMore
attribute [local go_sem] max2_int min2_int max_two min_two max_three min_three max_four min_four
set_option linter.unusedVariables false
set_option linter.unusedSimpArgs false
section
variable {α : Type} [Inhabited α]
set_option maxHeartbeats 8000000
set_option maxRecDepth 100000
def fE (d : Array α) (p : Nat → Bool) (m : Nat) : List α := ((List.range m).filter p).map (d[·]!)
theorem jm (d : Array α) (p : Nat → Bool) (m : Nat) : fE d p (m + 1) = fE d p m ++ (if p m then [d[m]!] else []) := by
 unfold fE
 rw [List.range_succ, List.filter_append, List.map_append]
 congr 1
 by_cases h : p m <;> simp [h]
theorem tZ (d : Array α) (p : Nat → Bool) (m : Nat) (h : ∀ j, j < m → p j = true) : fE d p m = (List.range m).map (d[·]!) := by
 unfold fE
 rw [List.filter_eq_self.2 (fun j hj => h j (List.mem_range.1 hj))]
structure xu (d : Array α) (p : Nat → Bool) (m k : Nat) (dk : Array α) : Prop where
 size : dk.size = d.size
 len : (fE d p m).length = k
 lt : k < m
 low : ∀ j, j < k → (fE d p m)[j]? = some dk[j]!
 high : ∀ j, k ≤ j → dk[j]! = d[j]!
open Go.Sort in
theorem xu.start {d : Array α} {p : Nat → Bool} {k0 : Nat} (hX : ∀ j, j < k0 → p j = true) (anG : p k0 = false) : xu d p (k0 + 1) k0 d where
 size := rfl
 len := by rw [jm, anG, tZ d p k0 hX]; simp
 lt := Nat.lt_succ_self _
 low := fun j hj => by rw [jm, anG, tZ d p k0 hX]; simp [hj]
 high := fun _ _ => rfl
open Go.Sort in
theorem xu.keep {d dk : Array α} {p : Nat → Bool} {m k : Nat} (h : xu d p m k dk) (hm : m < d.size) (hk : p m = true) : xu d p (m + 1) (k + 1) (dk.setIfInBounds k d[m]!) where
 size := by simp [h.size]
 len := by rw [jm, hk]; simp [h.len]
 lt := by have := h.lt; omega
 low := fun j hj => by
  rw [jm, hk, if_pos rfl]
  by_cases e : j = k
  rotate_left
  ·rw [List.getElem?_append_left (by rw [h.len]; omega), h.low j (by omega), getElem!_set_other dk k j _ e]
  subst e
  rw [List.getElem?_append_right (by rw [h.len]; exact Nat.le_refl _), h.len, Nat.sub_self, getElem!_set_same dk j _ (by have := h.lt; have := h.size; omega)]
  rfl
 high := fun j hj => by rw [getElem!_set_other dk k j _ (by omega), h.high j (by omega)]
theorem xu.skip {d dk : Array α} {p : Nat → Bool} {m k : Nat} (h : xu d p m k dk) (hk : p m = false) : xu d p (m + 1) k dk where
 size := h.size
 len := by rw [jm, hk]; simpa using h.len
 lt := by have := h.lt; omega
 low := fun j hj => by rw [jm, hk]; simpa using h.low j hj
 high := h.high
open Go.Sort Go.Lib in
theorem xu.done {d dk : Array α} {p : Nat → Bool} {k : Nat} (h : xu d p d.size k dk) (z : α) :
  lay dk k (List.replicate (d.size - k) z) = (fE d p d.size ++ List.replicate (d.size - k) z).toArray := by
 have hk := h.lt
 have hs := h.size
 apply Array.ext_getElem?
 intro j
 rw [lay_get? _ _ _ _ (by simp; omega), show (fE d p d.size ++ List.replicate (d.size - k) z).toArray[j]? = (fE d p d.size ++ List.replicate (d.size - k) z)[j]? from List.getElem?_toArray]
 simp only [List.length_replicate]
 by_cases c : j < k
 ·rw [if_neg (by omega), List.getElem?_append_left (by rw [h.len]; exact c), h.low j c, getElem!_pos dk j (by omega), Array.getElem?_eq_getElem]
 rw [List.getElem?_append_right (by rw [h.len]; omega), h.len]
 by_cases c2 : j < d.size
 ·rw [if_pos (by omega)]
 rw [if_neg (by omega), Array.getElem?_eq_none (by omega), List.getElem?_eq_none (by simp; omega)]
open Go.Sort Go.Lib in
set_option maxHeartbeats 8000000 in
set_option maxRecDepth 1000000 in
theorem EY (enc : α → Value) (hO : OneCell enc) (g : Nat) (cb : Array Value) (eg : ∀ args w, (callFunc g args).run Tryz.prog w = .ok (.enter g args) w) (p : Nat → Bool) (zr : α) (hzr : enc zr = .slice none 0 0) (q : α → α → Bool) (vk off cap : Nat) (d : Array α) (w : World)
  (hp0 : p 0 = true) (hp : ∀ j, 1 ≤ j → j < d.size → p j = !q d[j]! d[j - 1]!)
  (hq : ∀ (m : Nat) (dk : Array α), dk.size = d.size → ∀ x y : α, Calls Tryz.prog g (#[enc x, enc y] ++ cb) (putRow enc (Sort.ahead w m) vk off dk) fun e w' => e = .returned (.bool (q x y)) ∧ ∃ nd, w' = (putRow enc (Sort.ahead w m) vk off dk).drewN nd)
  (hH : Holds enc w vk off d) (H4 : d.size ≤ 9223372036854775807) (akK : d.size ≤ cap) :
  Calls Tryz.prog 136 #[.slice (some ⟨vk, off, none⟩) d.size cap, .func (.func g) #[] cb] w fun e w' => e = .returned (.slice (some ⟨vk, off, none⟩) (fE d p d.size).length cap) ∧ ∃ n, w' = putRow enc (Sort.ahead w n) vk off (fE d p d.size ++ List.replicate (d.size - (fE d p d.size).length) zr).toArray := by
 have aty := hO.cells
 simp only [Value.cells] at aty
 have MB := hO.store Tryz.prog
 have t22 := Tryz.underlying22
 have v23 : ∀ w, (zeroValue 40).run Tryz.prog w = .ok (enc zr) w := fun w => by rw [hzr]; exact Tryz.zeroValue40 w
 have same : ∀ n wr, wr = putRow enc (Sort.ahead w n) vk off d → (∀ j, j < d.size → p j = true) → (fE d p d.size).length = d.size ∧ wr = putRow enc (Sort.ahead w n) vk off (fE d p d.size ++ List.replicate (d.size - (fE d p d.size).length) zr).toArray := by
  intro n wr hw hX
  have e : fE d p d.size = d.toList := by rw [tZ d p _ hX, range_map_get]
  rw [e]
  refine ⟨by simp, ?_⟩
  rw [hw]
  simp
 have HS := Aside0.mk same
 have HQ := Aside0.mk hq
 have HP := Aside0.mk hp
 have HH := Aside0.mk hH
 have T0 := Aside0.mk (show w = putRow enc (Sort.ahead w 0) vk off d from (putRow_self enc (Sort.ahead w 0) vk off d (holds_ahead enc w 0 vk off d hH)).symm)
 clear same hq hp hH
 by_cases h2 : d.size < 2
 ·have hX : ∀ j, j < d.size → p j = true := fun j hj => by
   have : j = 0 := by omega
   subst this; exact hp0
  go_enter Tryz.func136, Tryz.ntmps136
  go_wp2
  go_ret
  obtain ⟨e1, e2⟩ := HS.out 0 w T0.out hX
  exact ⟨by rw [e1]; rfl, 0, e2⟩
 go_enter Tryz.func136, Tryz.ntmps136
 go_wp2
 go_loopg [5] d.size (fun gg s3 wr => ∃ k n : Nat, 1 ≤ k ∧ k ≤ d.size ∧ d.size - k ≤ gg ∧ s3 = .int .i64 k ∧ Aside0 (wr = putRow enc (Sort.ahead w n) vk off d) ∧ Aside0 (∀ j, j < k → p j = true))
 case atStart => exact ⟨1, 0, Nat.le_refl _, by omega, by omega, rfl, T0, ⟨fun j hj => (by omega : (0 : Nat) = j) ▸ hp0⟩⟩
 case round =>
  obtain ⟨k, n, hk1, hk, hg, rfl, W1, A1⟩ := hrel
  by_cases gS : k < d.size
  rotate_left
  ·have : k = d.size := by omega
   subst this
   go_wp2
   go_ret
   obtain ⟨e1, e2⟩ := HS.out n wr W1.out A1.out
   exact ⟨by rw [e1]; rfl, n, e2⟩
  have hHr : Holds enc wr vk off d := by rw [W1.out]; exact holds_putRow enc _ vk off d d (holds_ahead enc w n vk off d HH.out) rfl
  obtain ⟨c1, f1⟩ := hHr k gS
  obtain ⟨c0, f0⟩ := hHr (k - 1) (by omega)
  have Bp := HP.out k hk1 gS
  have ii : ∀ nq, Calls Tryz.prog g (#[enc d[k]!, enc d[k - 1]!] ++ cb) (wr.drewN nq) fun e w' => e = .returned (.bool (q d[k]! d[k - 1]!)) ∧ ∃ m, w' = (wr.drewN nq).drewN m := fun nq => by
   rw [W1.out, putRow_drewN]
   exact HQ.out (n + nq) d rfl _ _
  clear hHr
  generalize hx : d[k]! = x at c1 ii Bp
  generalize hy : d[k - 1]! = y at c0 ii Bp
  clear hx hy
  have HC := Aside0.mk ii
  clear ii
  cases Xl : q x y with
  | true =>
   rw [Xl] at HC Bp
   have PK := Aside0.mk Bp
   clear Bp Xl
   go_wp2_with fail
   go_quiet ((go_at_fn g; exact Calls.quiet_of (HC.out _)))
   go_wp2
   have W2 := Aside0.mk (show wr.drewN nq = putRow enc (Sort.ahead w (n + nq)) vk off d by rw [W1.out, putRow_drewN])
   clear c0 c1 f0 f1 W1 HC
   generalize wr.drewN nq = wr2 at W2 ⊢
   go_loopg [5, 7] d.size (fun gg s3 s5 wr => ∃ (kk k2 q2 : Nat) (dk : Array α), s3 = .int .i64 kk ∧ s5 = .int .i64 k2 ∧ 1 ≤ k2 ∧ k + k2 ≤ d.size ∧ d.size - (k + k2) ≤ gg ∧ Aside0 (wr = putRow enc (Sort.ahead w q2) vk off dk) ∧ Aside0 (xu d p (k + k2) kk dk))
   case atStart => exact ⟨k, 1, n + nq, d, rfl, rfl, Nat.le_refl _, by omega, by omega, W2, ⟨xu.start A1.out PK.out⟩⟩
   case round =>
    clear W2
    obtain ⟨kk, k2, q2, dk, rfl, rfl, h1, hle, hg2, W3, I2⟩ := hrel
    have hkk := I2.out.lt
    have hds := I2.out.size
    have hHk : Holds enc wr vk off dk := by rw [W3.out]; exact holds_putRow enc _ vk off d dk (holds_ahead enc w q2 vk off d HH.out) hds
    by_cases anH : k + k2 < d.size
    rotate_left
    ·have n9 : k + k2 = d.size := by omega
     have t_ : ∀ ty, (Builtin.clear_ #[22] ty #[.slice (some ⟨vk, off + kk, none⟩) (d.size - kk) (cap - kk)]).run Tryz.prog wr = .ok (.tuple #[]) (wr.setCells vk (off + kk) (List.replicate (d.size - kk) (enc zr))) :=
      fun ty => Lib.run_clear_slice wr _ _ ty _ t22 v23 (hO.cells zr) (hO zr) vk (off + kk) _ _ (by omega) (fun j hj => by rw [show off + kk + j = off + (kk + j) by omega, (hHk (kk + j) (by omega)).1]; rfl) (fun j hj => by rw [show off + kk + j = off + (kk + j) by omega]; exact (hHk (kk + j) (by omega)).2)
     clear hHk
     go_wp2
     go_ret
     have hI := I2.out
     rw [n9] at hI
     refine ⟨by rw [hI.len]; rfl, q2, ?_⟩
     rw [hI.len, ← hI.done zr, ← putRow_setCells enc _ vk off _ dk kk (by simp; omega), ← W3.out, List.map_replicate, hzr]
    obtain ⟨cm, _⟩ := hHk (k + k2) (by omega)
    obtain ⟨cp, _⟩ := hHk (k + k2 - 1) (by omega)
    obtain ⟨ck, fk⟩ := hHk kk (by omega)
    rw [I2.out.high (k + k2) (by omega), show off + (k + k2) = off + k + k2 by omega] at cm
    rw [I2.out.high (k + k2 - 1) (by omega), show off + (k + k2 - 1) = off + k + (k2 - 1) by omega] at cp
    have Bp := HP.out (k + k2) (by omega) anH
    have ii : ∀ nq, Calls Tryz.prog g (#[enc d[k + k2]!, enc d[k + k2 - 1]!] ++ cb) (wr.drewN nq) fun e w' => e = .returned (.bool (q d[k + k2]! d[k + k2 - 1]!)) ∧ ∃ m, w' = (wr.drewN nq).drewN m := fun nq => by
     rw [W3.out, putRow_drewN]
     exact HQ.out (q2 + nq) dk hds _ _
    clear hHk
    generalize hu : d[k + k2]! = u at cm ii Bp
    generalize hv : d[k + k2 - 1]! = v at cp ii Bp
    generalize dk[kk]! = Ry at ck
    have C := Aside0.mk hu
    clear hu hv
    have HC := Aside0.mk ii
    clear ii
    cases Xl : q u v with
    | true =>
     rw [Xl] at HC Bp
     have PK2 := Aside0.mk Bp
     clear Bp Xl
     go_wp2_with fail
     go_quiet ((go_at_fn g; exact Calls.quiet_of (HC.out _)))
     go_wp2
     go_roundg (d.size - (k + (k2 + 1)))
     case measure => omega
     case rel => exact ⟨kk, k2 + 1, q2 + nq, dk, rfl, by go_num, by omega, by omega, Nat.le_refl _, ⟨by rw [W3.out, putRow_drewN]⟩, ⟨I2.out.skip PK2.out⟩⟩
    | false =>
     rw [Xl] at HC Bp
     have PK2 := Aside0.mk Bp
     clear Bp Xl
     go_wp2_with fail
     go_quiet ((go_at_fn g; exact Calls.quiet_of (HC.out _)))
     go_wp2
     go_roundg (d.size - (k + (k2 + 1)))
     case measure => omega
     case rel => exact ⟨kk + 1, k2 + 1, q2 + nq, dk.setIfInBounds kk u, by go_num, by go_num, by omega, by omega, Nat.le_refl _, ⟨by rw [W3.out, putRow_drewN, putRow_set enc _ vk off dk kk u (by omega)]⟩, ⟨by have := I2.out.keep anH PK2.out; rwa [C.out] at this⟩⟩
  | false =>
   rw [Xl] at HC Bp
   have PK := Aside0.mk Bp
   clear Bp Xl
   go_wp2_with fail
   go_quiet ((go_at_fn g; exact Calls.quiet_of (HC.out _)))
   go_wp2
   go_roundg (d.size - (k + 1))
   case measure => omega
   case rel =>
    refine ⟨k + 1, n + nq, by omega, by omega, Nat.le_refl _, by go_num, ⟨by rw [W1.out, putRow_drewN]⟩, ⟨fun j hj => ?_⟩⟩
    by_cases e : j = k
    ·subst e; exact PK.out
    exact A1.out j (by omega)
end
theorem T4 (x y : List Int) (hx : x.length ≤ 9223372036854775807) (hl : x.length = y.length) : ∀ (d i : Nat), x.length - i ≤ d → i ≤ x.length → a7.l0 (d + 1) x y (x.length : Int) (i : Int) = some (decide (x.drop i = y.drop i)) := by
 intro d
 induction d with
 | zero =>
  intro i h1 h2
  have e : i = x.length := by omega
  simp only [a7.l0]
  rw [if_neg (by omega), List.drop_eq_nil_of_le (by omega), List.drop_eq_nil_of_le (by omega)]
  simp
 | succ d ih =>
  intro i h1 h2
  by_cases c : i < x.length
  rotate_left
  ·have e : i = x.length := by omega
   simp only [a7.l0]
   rw [if_neg (by omega), List.drop_eq_nil_of_le (by omega), List.drop_eq_nil_of_le (by omega)]
   simp
  rw [a7.l0]
  have hw : wrap64 ((i : Int) + 1) = ((i + 1 : Nat) : Int) := by unfold wrap64; omega
  rw [if_pos (by omega), if_pos (by omega), if_pos (by omega), if_pos (by omega), hw, ih (i + 1) (by omega) (by omega), sT x i c, sT y i (by omega)]
  by_cases c3 : rd x i = rd y i
  ·rw [if_pos c3]; simp [c3]
  rw [if_neg c3]; simp [c3]
theorem G4 (x y : List Int) (hx : x.length ≤ 9223372036854775807) : a7.f (x.length + 1) x y = some (decide (x = y)) := by
 unfold a7.f
 by_cases c : x.length = y.length
 rotate_left
 ·rw [if_neg (by omega)]
  have : x ≠ y := fun e => c (by rw [e])
  simp [this]
 rw [if_pos (by omega)]
 have := T4 x y hx c x.length 0 (by omega) (by omega)
 simpa using this
theorem Xm (d : Array (List Int)) (p : Nat → Bool) (hp0 : p 0 = true) (hp : ∀ j, 1 ≤ j → j < d.size → p j = !decide (d[j]! = d[j - 1]!)) (hs : ∀ j, 1 ≤ j → j < d.size → ¬ gm d[j]! d[j - 1]! < 0) :
  ∀ m, m ≤ d.size → (fE d p m).Pairwise (fun a b => gm a b < 0) ∧ (1 ≤ m → ∀ z, z ∈ fE d p m → ¬ gm d[m - 1]! z < 0) ∧ (∀ j, j < m → d[j]! ∈ fE d p m) := by
 intro m
 induction m with
 | zero => intro _; exact ⟨by simp [fE], by omega, by omega⟩
 | succ m ih =>
  intro hm
  obtain ⟨i1, i2, i3⟩ := ih (by omega)
  rw [jm]
  by_cases m0 : m = 0
  ·subst m0
   rw [hp0]
   refine ⟨by simp [fE], fun _ z hz => ?_, fun j hj => ?_⟩
   ·have : z = d[0]! := by simpa [fE] using hz
    rw [this]; exact fx _
   ·obtain rfl : j = 0 := by omega
    simp
  have hpm := hp m (by omega) (by omega)
  have hsm := hs m (by omega) (by omega)
  by_cases e : d[m]! = d[m - 1]!
  ·rw [hpm, decide_eq_true e]
   simp only [Bool.not_true, Bool.false_eq_true, if_false, List.append_nil, Nat.add_sub_cancel]
   refine ⟨i1, fun _ z hz => by rw [e]; exact i2 (by omega) z hz, fun j hj => ?_⟩
   by_cases ej : j = m
   rotate_left
   ·exact i3 j (by omega)
   subst ej; rw [e]; exact i3 (j - 1) (by omega)
  rw [hpm, decide_eq_false e]
  simp only [Bool.not_false, if_true, Nat.add_sub_cancel]
  have gS : gm d[m - 1]! d[m]! < 0 := by
   by_cases c : gm d[m - 1]! d[m]! < 0
   ·exact c
   exact absurd (vY hsm c) e
  have hz' : ∀ z, z ∈ fE d p m → gm z d[m]! < 0 := by
   intro z hz
   by_cases c : gm z d[m - 1]! < 0
   ·exact iK c gS
   have : z = d[m - 1]! := vY c (i2 (by omega) z hz)
   rw [this]; exact gS
  refine ⟨?_, fun _ z hz => ?_, fun j hj => ?_⟩
  ·rw [List.pairwise_append]
   refine ⟨i1, by simp, fun a ha b hb => ?_⟩
   obtain rfl : b = d[m]! := by simpa using hb
   exact hz' a ha
  ·rw [List.mem_append] at hz
   rcases hz with hz | hz
   ·intro c; exact fx _ (iK (hz' z hz) c)
   ·obtain rfl : z = d[m]! := by simpa using hz
    exact fx _
  ·rw [List.mem_append]
   by_cases ej : j = m
   rotate_left
   ·exact .inl (i3 j (by omega))
   subst ej; exact .inr (by simp)
theorem Jw {α : Type} [Inhabited α] (d : Array α) (t : α → List Int) (p : Nat → Bool) : (fE d p d.size).map t = fE (d.map t) p (d.map t).size := by
 unfold fE
 rw [List.map_map, Array.size_map]
 apply List.map_congr_left
 intro j hj
 have tg : j < d.size := by
  have := (List.mem_filter.1 hj).1
  exact List.mem_range.1 this
 show t d[j]! = (d.map t)[j]!
 rw [getElem!_pos d j tg, getElem!_pos (d.map t) j (by simpa using tg)]
 simp
open Go.Sort Go.Lib in
theorem Jx {α : Type} [Inhabited α] (d : Array α) (p : Nat → Bool) : (fE d p d.size).Sublist d.toList := by
 unfold fE
 have e : (List.range d.size).map (d[·]!) = d.toList := range_map_get d
 exact e ▸ (List.filter_sublist (p := p) (l := List.range d.size)).map (d[·]!)
open Go.Sort in
theorem C4 {v : Value} {xs : List (List Int)} {w0 w : World} {ok : Nat → Prop} (hB : Go.RowKit.Below w0.heap.size w0 w) (ho : Kd.S (Kd.slice 3 (Kd.int .i64)) 40 w w0.heap.size ok v xs) (fv : xs ≠ []) (hlm : xs.length < 4611686018427387904) (hso : xs.Pairwise (fun a b => ¬ gm b a < 0)) :
    Calls Tryz.prog 136 #[v, .func (.func 88) #[] #[]] w fun e w' => ∃ (v' : Value) (zs : List (List Int)), e = .returned v' ∧ zs.Pairwise (fun a b => gm a b < 0) ∧ (∀ z, z ∈ zs ↔ z ∈ xs) ∧ Kd.S (Kd.slice 3 (Kd.int .i64)) 40 w' w0.heap.size ok v' zs ∧ Go.RowKit.Below w0.heap.size w0 w' := by
  obtain ⟨f, g, cap, cur, d, rfl, cP, gr, lT, h1, h2, h3, h4, h5, h6⟩ := TX ho fv
  have O6 : d.length = xs.length := by have := congrArg List.length h5; simpa using this
  have gS : g < w.heap.size := (Array.getElem?_eq_some_iff.1 lT).1
  have hH : Holds (fun x : jl w w0.heap.size (fun k => ok k ∧ k ≠ g) f => x.v) w g 0 d.toArray := xU _ lT (by rw [O6]; exact h4)
  have TZ : ∀ x : jl w w0.heap.size (fun k => ok k ∧ k ≠ g) f, x.l.length ≤ 9223372036854775807 := fun x => by
    obtain ⟨A, c, _, _, hr⟩ := x.reads (W := w) (fun _ _ _ => rfl)
    exact hr.2.1
  have lP := EY (fun x : jl w w0.heap.size (fun k => ok k ∧ k ≠ g) f => x.v) (fun x => x.one) 88 #[] (enters_of Tryz.func88 (by kernel_rfl) rfl)
    (fun j => decide (j = 0) || !decide ((d.toArray[j]!).l = (d.toArray[j - 1]!).l)) default rfl (fun x y => decide (x.l = y.l)) g 0 cap d.toArray w (by simp)
    (fun j hj _ => by have : j ≠ 0 := by omega
                      simp [this])
    (fun m dk hs x y => by
      have hW : ∀ k, (ok k ∧ k ≠ g) → k < w.heap.size → (putRow (fun x : jl w w0.heap.size (fun k => ok k ∧ k ≠ g) f => x.v) (Sort.ahead w m) g 0 dk).heap[k]? = w.heap[k]? := fun k hk hl => by
        have := (sS (fun x : jl w w0.heap.size (fun k => ok k ∧ k ≠ g) f => x.v) (w := w) (g := g) (n := m) (os := #[]) dk).block k hl (fun e_ => hk.2 (by injection e_))
        rwa [grow_empty] at this
      obtain ⟨A, c, e1, l1, r1⟩ := x.reads hW
      obtain ⟨A', c', e2, l2, r2⟩ := y.reads hW
      have hc := a7.calls _ A c x.l A' c' y.l _ _ r1 l1 r2 l2 (G4 x.l y.l (TZ x))
      simp only [e1, e2]
      refine Calls.mono hc ?_
      rintro e w' ⟨he, ⟨nd, hw⟩⟩
      exact ⟨he, nd, hw⟩)
    hH (by simp only [List.size_toArray]; omega) (by simp only [List.size_toArray]; omega)
  simp only [List.size_toArray, O6] at lP
  refine lP.mono ?_
  rintro e w' ⟨rfl, n, rfl⟩
  generalize hpp : (fun j => decide (j = 0) || !decide ((d.toArray[j]!).l = (d.toArray[j - 1]!).l)) = p at *
  have BG : (fE d.toArray p xs.length).Sublist d := by have := Jx d.toArray p; simpa [O6] using this
  generalize hkt : fE d.toArray p xs.length = ks at *
  have hkl : ks.length ≤ xs.length := by rw [← O6]; exact BG.length_le
  have anI : ks.map (·.l) = fE xs.toArray p xs.toArray.size := by
    have := Jw d.toArray (·.l) p
    rw [show d.toArray.map (·.l) = xs.toArray by rw [← h5]; simp, show d.toArray.size = xs.length by simpa using O6, hkt] at this
    exact this
  have E7 : ∀ j, j < xs.length → (d.toArray[j]!).l = xs.toArray[j]! := fun j hj => by
    rw [getElem!_pos d.toArray j (by simpa [O6] using hj), getElem!_pos xs.toArray j (by simpa using hj)]
    simp [← h5]
  have anJ := Xm xs.toArray p (by rw [← hpp]; simp) (fun j hj hl => by
      have h0 : j ≠ 0 := by omega
      have E1 : j < xs.length := by simpa using hl
      rw [← hpp]
      simp only [decide_eq_false h0, Bool.false_or]
      rw [E7 j E1, E7 (j - 1) (by omega)]) (fun j hj hl => by
      have E1 : j < xs.length := by simpa using hl
      rw [getElem!_pos xs.toArray j hl, getElem!_pos xs.toArray (j - 1) (by omega)]
      exact List.pairwise_iff_getElem.1 hso (j - 1) j (by omega) E1 (by omega)) xs.toArray.size (Nat.le_refl _)
  have WG := sS (fun x : jl w w0.heap.size (fun k => ok k ∧ k ≠ g) f => x.v) (w := w) (g := g) (n := n) (os := #[]) (ks ++ List.replicate (xs.length - ks.length) default).toArray
  have hhp := HI (fun x : jl w w0.heap.size (fun k => ok k ∧ k ≠ g) f => x.v) (n := n) (os := #[]) (ks ++ List.replicate (xs.length - ks.length) default).toArray lT
  rw [grow_empty] at WG hhp
  refine ⟨_, ks.map (·.l), rfl, by rw [anI]; exact anJ.1, fun z => ⟨fun hz => ?_, fun hz => ?_⟩, ?_, hB.grown WG hB.size (fun k hk => by cases hk; exact cP)⟩
  · rw [← h5]
    obtain ⟨x, hx, rfl⟩ := List.mem_map.1 hz
    exact List.mem_map.2 ⟨x, BG.subset hx, rfl⟩
  · obtain ⟨j, hj, rfl⟩ := List.getElem_of_mem hz
    rw [anI]
    have := anJ.2.2 j (by simpa using hj)
    rwa [getElem!_pos xs.toArray j (by simpa using hj)] at this
  · refine NF ks ?_ gr cP hhp (by omega) h2 (by simp [putCells, h3]) ?_ (fun k hk gS => WG.block k gS (fun e_ => hk (by injection e_)))
    · have hn : (d.map (·.i)).Nodup := by rw [h6]; exact List.nodup_range
      exact (BG.map (·.i)).nodup hn
    · have hlen : (ks ++ List.replicate (xs.length - ks.length) (default : jl w w0.heap.size (fun k => ok k ∧ k ≠ g) f)).length = xs.length := by simp; omega
      have := HJ (fun x : jl w w0.heap.size (fun k => ok k ∧ k ≠ g) f => x.v) cur (ks ++ List.replicate (xs.length - ks.length) default) (by rw [hlen, h3]; omega)
      rw [hlen, List.map_append] at this
      have h2 := congrArg (List.take ks.length) this
      rw [List.take_take, Nat.min_eq_left hkl, List.take_left' (by simp)] at h2
      exact h2
def EZ (x : List Int) : List (List Int) → List (List Int)
 | [] => [x]
 | y :: l => if gm x y < 0 then x :: y :: l else if gm y x < 0 then y :: EZ x l else y :: l
def iV (xs : List (List Int)) : List (List Int) := xs.foldr EZ []
theorem Ad (x z : List Int) : ∀ l, z ∈ EZ x l ↔ z = x ∨ z ∈ l
 | [] => by simp [EZ]
 | y :: l => by
  simp only [EZ]
  split
  ·simp
  ·split
   ·simp only [List.mem_cons, Ad x z l]
    constructor
    ·rintro (h | h | h) <;> simp [h]
    ·rintro (h | h | h) <;> simp [h]
   ·have : x = y := vY (by assumption) (by assumption)
    subst this
    simp
theorem xV (x : List Int) : ∀ l, l.Pairwise (fun a b => gm a b < 0) → (EZ x l).Pairwise (fun a b => gm a b < 0)
 | [], _ => by simp [EZ]
 | y :: l, h => by
  simp only [EZ]
  rw [List.pairwise_cons] at h
  split
  ·rename_i c
   refine List.Pairwise.cons (fun z hz => ?_) (List.Pairwise.cons h.1 h.2)
   rcases List.mem_cons.1 hz with rfl | hz
   ·exact c
   ·exact iK c (h.1 z hz)
  ·split
   ·rename_i c
    refine List.Pairwise.cons (fun z hz => ?_) (xV x l h.2)
    rcases (Ad x z l).1 hz with rfl | hz
    ·exact c
    ·exact h.1 z hz
   ·exact List.Pairwise.cons h.1 h.2
theorem jw (z : List Int) : ∀ xs : List (List Int), z ∈ iV xs ↔ z ∈ xs
 | [] => by simp [iV]
 | x :: xs => by
  show z ∈ EZ x (iV xs) ↔ _
  rw [Ad, jw z xs, List.mem_cons]
theorem mS : ∀ xs : List (List Int), (iV xs).Pairwise (fun a b => gm a b < 0)
 | [] => by simp [iV]
 | x :: xs => xV x _ (mS xs)
theorem Ae : ∀ {a b : List (List Int)}, a.Pairwise (fun a b => gm a b < 0) → b.Pairwise (fun a b => gm a b < 0) → (∀ z, z ∈ a ↔ z ∈ b) → a = b
 | [], [], _, _, _ => rfl
 | [], y :: b, _, _, h => by have := (h y).2 (by simp); simp at this
 | x :: a, [], _, _, h => by have := (h x).1 (by simp); simp at this
 | x :: a, y :: b, ha, hb, h => by
  rw [List.pairwise_cons] at ha hb
  have e : x = y := by
   rcases List.mem_cons.1 ((h x).1 (by simp)) with e | e
   ·exact e
   ·rcases List.mem_cons.1 ((h y).2 (by simp)) with e2 | e2
    ·exact e2.symm
    ·exact absurd (iK (ha.1 y e2) (hb.1 x e)) (fx _)
  subst e
  rw [Ae ha.2 hb.2 (fun z => ?_)]
  have hz := h z
  simp only [List.mem_cons] at hz
  constructor
  ·intro c
   rcases hz.1 (.inr c) with e | e
   ·subst e; exact absurd (ha.1 _ c) (fx _)
   ·exact e
  ·intro c
   rcases hz.2 (.inr c) with e | e
   ·subst e; exact absurd (hb.1 _ c) (fx _)
   ·exact e
theorem Ec {xs ys zs : List (List Int)} (hp : ys.Perm xs) (hs : zs.Pairwise (fun a b => gm a b < 0)) (hm : ∀ z, z ∈ zs ↔ z ∈ ys) : zs = iV xs :=
 Ae hs (mS xs) (fun z => by rw [hm, jw, hp.mem_iff])
end Go.Proofs.YtggiicplcglalaaGreat.All
end
