/- Part of the proof that FnExactWalkSteps answers true. -/
import Derived.Test.YtggiicplcglalaaGreatProg
import Derived.Shelf.Abstract
import Derived.WalkSpells
import Derived.Shelf.SlicesE.DeleteFunc
import Derived.Sort.OwnSortedInts
import Derived.Shelf.SlLaysH
import Derived.Shelf.SlicesE.Delete
import Derived.Shelf.SlSortCmp.Whole1
import Derived.Shelf.SlicesE.Compact
import Derived.Test.YtggiicplcglalaaGreatQW3
section
namespace Go.Proofs.YtggiicplcglalaaGreat.All
open Go.RowKit YtggiicplcglalaaGreatW.PrintWords YtggiicplcglalaaGreatW.PrintLast YtggiicplcglalaaGreatW.PrintMore
attribute [local go_sem] max2_int min2_int max_two min_two max_three min_three max_four min_four
set_option linter.unusedVariables false
set_option linter.unusedSimpArgs false
theorem am {p : Prop} (h : p) : Aside0 p := ⟨h⟩
theorem szE {p : Prop} (h : p := by (try simp only [List.map_toArray, List.map_cons, List.map_nil]); first | done | rfl | (simp only [List.length_drop, List.length_take]; rfl)) : p := h
theorem jC {p : Prop} (h : p := by first | rfl | (simp [fp, fq] <;> rfl) | (simp [*, fp, fq] <;> rfl)) : p := h
theorem dM {p : Prop} (h : p := by first | rfl | (simp; done) | (simp [*]; done) | (simp [gn]; done)) : p := h
theorem Cr {p : Prop} (h : p := by first | exact Kd.mV _ _ _ _ _ | exact Kd.Bd _ _ _ _ _ | exact Kd.zI _ _ _ _ _ | exact Kd.BV _ _ _ _ _ | exact Kd.Bc _ _ _ _ _) : p := h
theorem bX {p : Prop} [Decidable p] (h : decide p = true := by first | (with_reducible assumption) | assumption) : p := of_decide_eq_true h
theorem ct {w w1 : World} {g : Nat} {o : Obj} (h : w.heap[g]? = some o) (m : w.heap[g]? = some o → w1.heap[g]? = some o := by intro h_; (with_reducible repeat (first | refine ba ?_ _ | refine az ?_ | refine b_ ?_ _)); exact h_) : w1.heap[g]? = some o := m h
theorem fy {α : Type} {d : Kd α} {A : Option Addr} {n : Nat} {xs : List α} {w w1 : World} (h : d.C w A n xs) (m : d.C w A n xs → d.C w1 A n xs := by intro h_; repeat (first | exact h_ | (with_reducible refine Kd.CW ?_ _) | (with_reducible refine Kd.xv ?_ _) | (with_reducible refine Kd.CX ?_))) : d.C w1 A n xs := m h
theorem ci {α : Type} {d : Kd α} {e base : Nat} {ok : Nat → Prop} {v : Value} {xs : List α} {w w1 : World} (h : d.R e w base ok v xs) (m : d.R e w base ok v xs → d.R e w1 base ok v xs := by intro h_; (with_reducible repeat (first | apply Kd.ff | apply Kd.fg | apply Kd.gu)); exact h_) : d.R e w1 base ok v xs := m h
theorem gP {α : Type} {d : Kd α} {e base : Nat} {ok : Nat → Prop} {v : Value} {xs : List α} {w w1 : World} (h : d.S e w base ok v xs) (m : d.S e w base ok v xs → d.S e w1 base ok v xs := by intro h_; (with_reducible repeat (first | apply Kd.iS | apply Kd.iT | apply Kd.gw)); exact h_) : d.S e w1 base ok v xs := m h
theorem dX {α : Type} {d : Kd α} {e base : Nat} {ok : Nat → Prop} {v : Value} {xs : List α} {w w1 : World} (h : d.N e w base ok v xs) (m : d.N e w base ok v xs → d.N e w1 base ok v xs := by intro h_; (with_reducible repeat (first | apply Kd.gJ | apply Kd.gK | apply Kd.iy)); exact h_) : d.N e w1 base ok v xs := m h
theorem c_ {α : Type} {d : Kd α} {e base : Nat} {ok : Nat → Prop} {v : Value} {xs : List α} {w w1 : World} (h : d.V e w base ok v xs) (m : d.V e w base ok v xs → d.V e w1 base ok v xs := by intro h_; (with_reducible repeat (first | apply Kd.iz | apply Kd.jA | apply Kd.ee)); exact h_) : d.V e w1 base ok v xs := m h
theorem mb {a : Nat} {w w0 w1 : World} (h : Below a w w0) (m : Below a w w0 → Below a w w1 := by intro h_; repeat (first | (with_reducible first | exact h_ | apply eV | apply dN | apply bd | refine dj ?_ (Aside0.out (by assumption))) | exact h_)) : Below a w w1 := m h
theorem FKR {α : Type} {d : Kd α} {e e' base n c : Nat} {w : World} {ok : Nat → Prop} {A : Option Addr} {xs : List α} (h : d.R e w base ok (.slice A n c) xs) : Kd.FK (Kd.slice e' d) w ok xs [.slice A n c] := by
 obtain ⟨h1, h2, _⟩ := Kd.aq h
 subst h1
 exact Kd.fP h2 (Kd.R_F h)
theorem bZ {α β : Type} {o : Option α} {f : α → Option β} {r : β} (h : o.bind f = some r) : ∃ t, Aside0 (o = some t) ∧ f t = some r := by
 obtain ⟨t, a, b⟩ := Option.bind_eq_some_iff.mp h
 exact ⟨t, ⟨a⟩, b⟩
theorem br {α : Type} (e : α) (P : α → Prop) (h : P e) : ∃ y, Aside0 (y = e) ∧ P y := ⟨e, ⟨rfl⟩, h⟩
theorem oo {α : Type} {p : Prop} [Decidable p] {a : Option α} {x : α} (h : (if p then a else none) = some x) : p ∧ a = some x := by
 by_cases c : p
 rotate_left
 ·rw [if_neg c] at h; cases h
 rw [if_pos c] at h; exact ⟨c, h⟩
theorem ifN {α : Type} {p : Prop} [Decidable p] {a : Option α} {x : α} (h : (if p then none else a) = some x) : ¬ p ∧ a = some x := by
 by_cases c : p
 ·rw [if_pos c] at h; cases h
 rw [if_neg c] at h; exact ⟨c, h⟩
theorem fW {α : Type} {p : Prop} [Decidable p] {a : Option α} {x : α} (h : (if p then a else none) = some x) : decide p = true ∧ a = some x := (oo h).imp_left decide_eq_true
theorem np {α : Type} {p : Prop} [Decidable p] {a : Option α} {x : α} (h : (if p then a else none) = some x) : Aside0 p ∧ a = some x := (oo h).imp_left Aside0.mk
theorem il {x y : Int} (h : x = y) : (x == y) = true := beq_iff_eq.mpr h
theorem im {x y : Int} (h : x = y) : (x != y) = false := bne_eq_false_iff_eq.mpr h
theorem iQ {x y : Int} (h : ¬ x = y) : (x == y) = false := beq_eq_false_iff_ne.mpr h
theorem iR {x y : Int} (h : ¬ x = y) : (x != y) = true := bne_iff_ne.mpr h
theorem Ih {α : Sort _} {x y : α} (h : x = y := by simp only [Act.put, List.setIfInBounds_toArray, List.set_cons_zero, List.set_cons_succ, gn, oG]; rfl) : x = y := h
section
variable {P : Program} {ops : Array Oper} {Q : Exit → Act → World → Prop} {md : Region.Mode} {S : World → Prop} {ds : List Nat} {T : Bool × List (List Nat × List Nat)} {B : List Nat}
theorem pY {oi : Oper} {v : Value} {dF : Nat} {l : Array Bool} {a a' : Act} {w : World} (i N : Nat) (hT : Aside0 (fh md ops = T)) (h : bb P md ops Q S ds dF (l.setIfInBounds i true) a' w) (hi : ops[i]? = some oi := by rfl) (hN : oi.dst = some N := by rfl) (hc : WA T l.toList (l.setIfInBounds i true).toList i = true := by kernel_rfl)
  (hQ : ∀ c a w, Q (.panic c) (a.put oi.dst v) w → Q (.panic c) a w := by exact fun _ _ _ h => h) (hg : Region.wanted oi (yielded ops a.tmps) = true := by rfl) (hy : ∀ w', (execOp a.eval oi).run P w' = .ok (.value v) w' := by intro w'; go_simp; with_reducible rfl) (ha : a.put (some N) v = a' := by simp only [Act.put, List.setIfInBounds_toArray, List.set_cons_zero, List.set_cons_succ, gn, oG]; rfl) : bb P md ops Q S ds (dF + 1) l a w :=
 Lj _ hi hN (Rm hT.out hc) hQ (Or.inl ⟨hg, hy⟩) ha h
theorem uY {oi : Oper} {dF : Nat} {l : Array Bool} {a a' : Act} {w : World} (i N : Nat) (hT : Aside0 (fh md ops = T)) (h : bb P md ops Q S ds dF (l.setIfInBounds i true) a' w) (hi : ops[i]? = some oi := by rfl) (hN : oi.dst = some N := by rfl) (hc : WA T l.toList (l.setIfInBounds i true).toList i = true := by kernel_rfl)
  (hQ : ∀ c a w, Q (.panic c) (a.put oi.dst undef) w → Q (.panic c) a w := by exact fun _ _ _ h => h) (hg : Region.wanted oi (yielded ops a.tmps) = false := by rfl) (ha : a.put (some N) undef = a' := by simp only [Act.put, List.setIfInBounds_toArray, List.set_cons_zero, List.set_cons_succ, gn, oG]; rfl) : bb P md ops Q S ds (dF + 1) l a w :=
 Lj _ hi hN (Rm hT.out hc) hQ (Or.inr ⟨hg, rfl⟩) ha h
theorem tY {oi : Oper} {v : Value} {dF : Nat} {l : Array Bool} {a a' : Act} {w : World} (i N : Nat) (hT : Aside0 (fh md ops = T)) (hW : Aside0 (fG T.2 B = true)) (hS : S w) (h : bb P md ops Q S ds dF (l.setIfInBounds i true) a' w) (hi : ops[i]? = some oi := by rfl) (hN : oi.dst = some N := by rfl) (hc : Ro T B ds l.toList (l.setIfInBounds i true).toList i = true := by kernel_rfl)
  (hQ : ∀ c a w, Q (.panic c) (a.put oi.dst v) w → Q (.panic c) a w := by exact fun _ _ _ h => h) (hg : Region.wanted oi (yielded ops a.tmps) = true := by rfl) (hy : ∀ w', S w' → (execOp a.eval oi).run P w' = .ok (.value v) w' := by intro w'; (try simp only [and_imp]); intros; go_simp; with_reducible rfl) (ha : a.put (some N) v = a' := by simp only [Act.put, List.setIfInBounds_toArray, List.set_cons_zero, List.set_cons_succ, gn, oG]; rfl) : bb P md ops Q S ds (dF + 1) l a w :=
 tf _ hi hN (F_ hT.out hW.out hc) hQ (Or.inl ⟨hg, hy⟩) hS ha h
theorem oY {oi : Oper} {dF : Nat} {l : Array Bool} {a : Act} {w : World} (i N : Nat) (hT : Aside0 (fh md ops = T))
  (h : ∀ K : Act → World → Prop, Shut (∀ a' w', S w' → (S w' → bb P md ops Q S ds dF (l.setIfInBounds i true) a' w') → K a' w') → if Region.wanted oi (yielded ops a.tmps) = true then Oper.wp P oi a w K Q else K (a.put (some N) undef) w) (hi : ops[i]? = some oi := by rfl) (hN : oi.dst = some N := by rfl) (hc : (od T.2 l.toList == [i] && l.toList.set i true == (l.setIfInBounds i true).toList) = true := by kernel_rfl) (hd : i ∉ ds := by decide) : bb P md ops Q S ds (dF + 1) l a w :=
 R0 _ hi hN (adJ hT.out hc) hd h
theorem dY {l : Array Bool} {a : Act} {w : World} {n : Nat} (hT : Aside0 (fh md ops = T)) (h : Q .normal a w) (hc : (od T.2 l.toList == []) = true := by kernel_rfl) : bb P md ops Q S ds n l a w := R3 (WC hT.out hc) h
theorem nY {dF : Nat} {l : Array Bool} {a a' : Act} {v : Value} {w : World} (N : Nat) (h : bb P md ops Q S ds dF l a' w) (ha : Act.put a (some N) v = a' := by simp only [Act.put, List.setIfInBounds_toArray, List.set_cons_zero, List.set_cons_succ, gn, oG]; rfl) : bb P md ops Q S ds dF l (Act.put a (some N) v) w := Li ha h
theorem gY {oi : Oper} {N : Option Tmp} {a : Act} {w : World} {K : Act → World → Prop} {f : FuncId} {fn : Func} {ag : Array Operand} {ts : Array TypeId} (hf : P.funcs[f]? = some fn) (args : Array Value)
  (h : Calls P f args w fun e w' => ∃ v, e = .returned v ∧ K (a.put N v) w') (uv : (fn.name == "runtime.NumGoroutine") = false := by kernel_rfl) (hb : fn.body.isSome = true := by rfl) (hw : Region.wanted oi (yielded ops a.tmps) = true := by rfl) (hN : oi.dst = N := by rfl) (hop : oi.op = .call { callee := .value (.func f), args := ag, argTypes := ts } := by rfl) (xH : ag.map a.eval = args := by (try simp only [List.map_toArray, List.map_cons, List.map_nil]); first | done | rfl | (simp only [List.length_drop, List.length_take]; rfl)) : if Region.wanted oi (yielded ops a.tmps) = true then Oper.wp P oi a w K Q else K (a.put N undef) w := B_ hf uv hb args hw hN hop xH h
end
section
variable {P : Program} {ops : Array Oper} {Q : Exit → Act → World → Prop} {o : Oper} {rest : List Oper} {a : Act} {W : World}
theorem gC (f : FuncId) {ag : Array Operand} {ts : Array TypeId} (_ho : o.op = .call { callee := .value (.func f), args := ag, argTypes := ts }) (h : wpList P ops Q (o :: rest) a W) : wpList P ops Q (o :: rest) a W := h
theorem gL (N : Nat) {f : FuncId} {fn : Func} {ag : Array Operand} {ts : Array TypeId} (hf : P.funcs[f]? = some fn) (args : Array Value) (h : Calls P f args W fun e w' => ∃ v, e = .returned v ∧ wpList P ops Q rest (a.put (some N) v) w') (hd : o.dst = some N := by rfl) (hg : o.guard = none := by rfl) (uv : (fn.name == "runtime.NumGoroutine") = false := by kernel_rfl) (hb : fn.body.isSome = true := by rfl)
  (hop : o.op = .call { callee := .value (.func f), args := ag, argTypes := ts } := by rfl) (xH : ag.map a.eval = args := by (try simp only [List.map_toArray, List.map_cons, List.map_nil]); first | done | rfl | (simp only [List.length_drop, List.length_take]; rfl)) : wpList P ops Q (o :: rest) a W := adI (some N) hd hg hf uv hb args hop xH h
theorem bE (N : Tmp) (cs : Array Value) (t : TypeId) (h : ∀ g, g = W.heap.size → ∀ w1, w1.heap[g]? = some (.cells cs t (0, 0)) → Below W.heap.size W w1 → wpList P ops Q rest (a.put o.dst (.pointer (some ⟨g, 0, none⟩))) w1) (sU : o.guard = none := by rfl) (hd : o.dst = some N := by rfl)
  (jP : (execOp a.eval o).run P W = .ok (.value (.pointer (some ⟨W.heap.size, 0, none⟩))) (W.alloc (.cells cs t (0, 0))) := by first | (go_simp; done) | (go_simp; rfl)) : wpList P ops Q (o :: rest) a W := NL sU hd jP h
end
theorem mL {p : Prop} (h : p := by first | rfl | (simp; done) | (simp [gn]; done) | (simp [*]; done)) : p := h
theorem mM {w w' : World} (h : bM w w' := by repeat (first | exact bM.refl _ | apply bM.step)) : bM w w' := h
theorem sY {α : Type} {a b x : Option α} (h : (if true = true then a else b) = x) : a = x := h
theorem sZ {α : Type} {a b x : Option α} (h : (if false = true then a else b) = x) : b = x := h
theorem cB {α : Type} {d : Kd α} {A : Option Addr} {n : Nat} {xs : List α} {w w0 W : World} (h : Aside0 (d.C w A n xs)) (hb : Aside0 (Below w.heap.size w w0)) (m : d.C w0 A n xs → d.C W A n xs := by intro h_; exact fy h_) : d.C W A n xs := m (Kd.bh h.out hb.out)
theorem gW {g : Nat} {w w0 W : World} (h : Aside0 (Below w.heap.size w w0)) (hg : g = W.heap.size) (m : Below w.heap.size w w0 → Below w.heap.size w W := by intro h_; exact mb h_) : Aside0 (w.heap.size ≤ g) := ⟨by rw [hg]; exact (m h.out).size⟩
theorem bS {w w0 W w1 : World} (h : Aside0 (Below w.heap.size w w0)) (hb : Below W.heap.size W w1) (m : Below w.heap.size w w0 → Below w.heap.size w W := by intro h_; exact mb h_) : Aside0 (Below w.heap.size w w1) := ⟨pq (m h.out) hb⟩
theorem kS {g : Nat} {o : Obj} {w0 W w1 : World} (h : Aside0 (w0.heap[g]? = some o)) (hb : Below W.heap.size W w1) (m : w0.heap[g]? = some o → W.heap[g]? = some o := by intro h_; exact ct h_) : Aside0 (w1.heap[g]? = some o) := ⟨bR (m h.out) hb⟩
theorem dD {p : Prop} (h : p := by first | exact ⟨rfl, _, World.drewN_drewN _ _ _⟩ | exact ⟨rfl, _, Eq.trans (World.drewN_drewN _ _ _) (congrArg (World.drewN _) (Nat.add_assoc _ _ _))⟩) : p := h
theorem cG {w : World} {g : Nat} {a : Value} {cs : List Value} {t : TypeId} (h : w.heap[g]? = some (.cells (a :: cs).toArray t (0, 0))) : w.cell? ⟨g, 0, none⟩ = some a := by rw [aQ h 0]; rfl
theorem cR {w : World} {g : Nat} {a b : Value} {cs : List Value} {t : TypeId} (h : w.heap[g]? = some (.cells (a :: b :: cs).toArray t (0, 0))) : w.cell? ⟨g, 1, none⟩ = some b := by rw [aQ h 1]; rfl
theorem rL {w : World} {g : Nat} {a b c : Value} {cs : List Value} {t : TypeId} (h : w.heap[g]? = some (.cells (a :: b :: c :: cs).toArray t (0, 0))) : w.cell? ⟨g, 2, none⟩ = some c := by rw [aQ h 2]; rfl
theorem ahG {w : World} {g : Nat} {a b c d : Value} {cs : List Value} {t : TypeId} (h : w.heap[g]? = some (.cells (a :: b :: c :: d :: cs).toArray t (0, 0))) : w.cell? ⟨g, 3, none⟩ = some d := by rw [aQ h 3]; rfl
def alq : Option Int → Value
 | none => .nilIface
 | some c => .iface 0 (.int .i64 c)
theorem fp : alq none = .nilIface := rfl
theorem fq (c : Int) : alq (some c) = .iface 0 (.int .i64 c) := rfl
def iB (q : Nat → Bool) : Nat → Nat → Int
 | 0, _ => -1
 | d + 1, i => if q i then (i : Int) else iB q d (i + 1)
theorem oV (q : Nat → Bool) (j : Nat) (hj : q j = true) : ∀ d i, i ≤ j → j < i + d → (∀ m, i ≤ m → m < j → q m = false) → iB q d i = j
 | 0, i, h1, h2, _ => by omega
 | d + 1, i, h1, h2, h3 => by
  unfold iB
  by_cases e : i = j
  ·subst e; rw [if_pos hj]
  rw [h3 i (Nat.le_refl _) (by omega)]
  exact oV q j hj d (i + 1) (by omega) (by omega) (fun m h h' => h3 m (by omega) h')
theorem nA (q : Nat → Bool) : ∀ d i, (∀ m, i ≤ m → m < i + d → q m = false) → iB q d i = -1
 | 0, _, _ => rfl
 | d + 1, i, h => by
  unfold iB
  rw [h i (Nat.le_refl _) (by omega)]
  exact nA q d (i + 1) (fun m h1 h2 => h m (by omega) (by omega))
def nG (g : Nat) (lb : Array Value) (v : Nat → Value) (q : Nat → Bool) (n : Nat) (w : World) : Prop :=
 ∀ j, j < n → ∀ W : World, Below w.heap.size w W → Calls Tryz.prog g (#[v j] ++ lb) W fun e w' => e = .returned (.bool (q j)) ∧ Below w.heap.size w w'
def oW (w : World) (A0 : Option Addr) (v : Nat → Value) (n : Nat) : Prop := ∀ j, j < n → ∃ ad, A0 = some ad ∧ w.cell? (ad.add j) = some (v j)
theorem B4 {A0 : Option Addr} {l : List Int} {w : World} (h : Kd.C (Kd.int .i64) w A0 l.length l) : oW w A0 (fun j => .int .i64 (l.getD j 0)) l.length := fun j hj => by
 obtain ⟨ad, e, hx⟩ := Kd.bi h (j : Int) (by omega) (by omega)
 exact ⟨ad, e, hx⟩
theorem clone_neqS (A : Option Addr) (n c : Nat) (w : World) : (binOp .neq 40 (.slice A n c) (.slice none 0 0)).run Tryz.prog w = .ok (.bool A.isSome) w := by
 have h : ∀ d : Nat, (Op.equalIn (d + 1) 40 (.slice A n c) (.slice none 0 0)).run Tryz.prog w = .ok A.isNone w := fun d => by
  cases A <;> simp [Op.equalIn, run_underlying Tryz.underlying40]
 simp only [binOp]
 cases A <;> simp [Op.equal, Op.maxDepth, h 9999]
theorem clone_eqlS (A : Option Addr) (n c : Nat) (w : World) : (binOp .eql 40 (.slice A n c) (.slice none 0 0)).run Tryz.prog w = .ok (.bool A.isNone) w := by
 have h : ∀ d : Nat, (Op.equalIn (d + 1) 40 (.slice A n c) (.slice none 0 0)).run Tryz.prog w = .ok A.isNone w := fun d => by
  cases A <;> simp [Op.equalIn, run_underlying Tryz.underlying40]
 simp only [binOp]
 simp [Op.equal, Op.maxDepth, h 9999]
def Wi (v : Value) (r : List Int) : Prop := ∀ A n c, v = .slice A n c → A.isNone = (r == []) ∧ A.isSome = (r != [])
theorem tH {ok : Nat → Prop} {base : Nat} {w : World} {v : Value} {xs : List Int} (h : xs = [] → v = .slice none 0 0) (ho : Kd.R (Kd.int .i64) 3 w base ok v xs) : Wi v xs := by
 intro A n c hv
 by_cases fv : xs = []
 ·rw [h fv] at hv
  injection hv with h1 _ _
  subst h1 fv
  exact ⟨rfl, rfl⟩
 obtain ⟨g, c', e, -⟩ := Kd.lZ ho (List.length_pos_iff.2 fv)
 rw [hv] at e
 injection e with e1 _ _
 subst e1
 have h1 : (xs == []) = false := beq_eq_false_iff_ne.mpr fv
 have h2 : (xs != []) = true := bne_iff_ne.mpr fv
 rw [h1, h2]
 exact ⟨rfl, rfl⟩
theorem eT : (Tryz.prog.info? 3).map (fun i => (i.zero, i.size, i.bytes)) = some (some (.int .i64 0), 1, 8) := by kernel_rfl
theorem gM : (Tryz.prog.info? 40).map (fun i => (i.zero, i.size, i.bytes)) = some (some (.slice none 0 0), 1, 24) := by kernel_rfl
theorem pr : (Tryz.prog.info? 113).map (fun i => (i.zero, i.size, i.bytes)) = some (some (.agg #[(.slice none 0 0), (.int .i64 0), (.bool false)]), 3, 40) := by kernel_rfl
def aJ (xs : List (List Int)) (i : Int) : (List Int) := xs.getD i.toNat ([] : List Int)
theorem eO {w : World} {A : Option Addr} {n : Nat} {xs : List (List Int)} (h : Kd.C (Kd.slice 3 (Kd.int .i64)) w A n xs) (i : Int) (h0 : 0 ≤ i) (h1 : i < n) : ∃ ad A0 c0, A = some ad ∧ w.cell? (ad.add i.toNat) = some (.slice A0 (aJ xs i).length c0) ∧ (aJ xs i).length ≤ c0 ∧ (Kd.int .i64).C w A0 (aJ xs i).length (aJ xs i) := by
 obtain ⟨ad, c, e, _, hK, hJ⟩ := Kd.wb h ([] : List Int) i h0 h1
 have hc : ∀ j u, c[j]? = some u → w.cell? (ad.add (i.toNat * 1 + j)) = some u := hJ
 obtain ⟨A0, c0, rfl, l0, g0⟩ := hK
 exact ⟨ad, A0, c0, e, by have hq := hc 0 _ rfl; rwa [Nat.mul_one, Nat.add_zero] at hq, l0, g0⟩
structure bm where
 f0 : (List Int)
 f1 : Int
 f2 : Bool
def Ha : bm := ⟨([] : List Int), (0 : Int), false⟩
def eB : Kd bm := Kd.iso (Kd.pair (Kd.slice 3 (Kd.int .i64)) (Kd.pair (Kd.int .i64) Kd.bool)) (fun x : bm => (x.f0, x.f1, x.f2))
theorem BY : Kd.Heap eB := Kd.SA _ (Kd.By (Kd.nV 3 (Kd.ku .i64)) (Kd.By (Kd.ku .i64) Kd.OQ))
theorem wW {w : World} {x : bm} {cs : List Value} (h : eB.K w x cs) : ∃ A0 c0, cs = [.slice A0 x.f0.length c0, .int .i64 x.f1, .bool x.f2] ∧ x.f0.length ≤ c0 ∧ (Kd.int .i64).C w A0 x.f0.length x.f0 := by
 obtain ⟨_, _, rfl, ⟨A0, c0, rfl, l0, g0⟩, ⟨_, _, rfl, rfl, rfl⟩⟩ := h
 exact ⟨A0, c0, rfl, l0, g0⟩
theorem Wj (w : World) (x : bm) {A0 : Option Addr} {c0 : Nat} (l0 : x.f0.length ≤ c0) (g0 : (Kd.int .i64).C w A0 x.f0.length x.f0) : eB.K w x [.slice A0 x.f0.length c0, .int .i64 x.f1, .bool x.f2] := ⟨[.slice A0 x.f0.length c0], [.int .i64 x.f1, .bool x.f2], rfl, ⟨A0, c0, rfl, l0, g0⟩, ⟨[.int .i64 x.f1], [.bool x.f2], rfl, rfl, rfl⟩⟩
theorem tG {W : World} {ok : Nat → Prop} {x : bm} {cs : List Value} (h : Kd.FK eB W ok x cs) : ∃ A0 c0, cs = [.slice A0 x.f0.length c0, .int .i64 x.f1, .bool x.f2] ∧ x.f0.length ≤ c0 ∧ Kd.F (Kd.int .i64) W ok A0 x.f0.length x.f0 := by
 obtain ⟨A0, c0, rfl, l0, _⟩ := wW (Kd.qe h)
 exact ⟨A0, c0, rfl, l0, (fun W' hW => by obtain ⟨A0_, c0_, he, l0_, g0_⟩ := wW (h W' hW); injection (Option.some.inj (show some (Value.slice A0 x.f0.length c0) = some (Value.slice A0_ x.f0.length c0_) from congrArg (fun l => l[0]?) he)) with ha_ _ _; rw [ha_]; exact g0_)⟩
theorem rJ (W : World) (ok : Nat → Prop) (x : bm) {A0 : Option Addr} {c0 : Nat} (l0 : x.f0.length ≤ c0) (g0 : Kd.F (Kd.int .i64) W ok A0 x.f0.length x.f0) : Kd.FK eB W ok x [.slice A0 x.f0.length c0, .int .i64 x.f1, .bool x.f2] := fun W2 hW => Wj W2 x l0 (g0 W2 hW)
def au (xs : List bm) (i : Int) : bm := xs.getD i.toNat Ha
theorem rq {w : World} {A : Option Addr} {n : Nat} {xs : List bm} (h : Kd.C eB w A n xs) (i : Int) (h0 : 0 ≤ i) (h1 : i < n) : ∃ ad A0 c0, A = some ad ∧ w.cell? (ad.add (i.toNat * 3)) = some (.slice A0 (au xs i).f0.length c0) ∧ w.cell? ⟨(ad.add (i.toNat * 3)).block, (ad.add (i.toNat * 3)).off + 1, none⟩ = some (.int .i64 (au xs i).f1) ∧ w.cell? ⟨(ad.add (i.toNat * 3)).block, (ad.add (i.toNat * 3)).off + 2, none⟩ = some (.bool (au xs i).f2) ∧ (au xs i).f0.length ≤ c0 ∧ (Kd.int .i64).C w A0 (au xs i).f0.length (au xs i).f0 := by
 obtain ⟨ad, c, e, _, hK, hJ⟩ := Kd.wb h Ha i h0 h1
 have hc : ∀ j u, c[j]? = some u → w.cell? (ad.add (i.toNat * 3 + j)) = some u := hJ
 obtain ⟨A0, c0, rfl, l0, g0⟩ := wW hK
 exact ⟨ad, A0, c0, e, hc 0 _ rfl, by rw [← BR _ _ 1 (by omega)]; exact hc 1 _ rfl, by rw [← BR _ _ 2 (by omega)]; exact hc 2 _ rfl, l0, g0⟩
def oT (xs : List (List bm)) (i : Int) : (List bm) := xs.getD i.toNat ([] : List bm)
theorem ZP {w : World} {A : Option Addr} {n : Nat} {xs : List (List bm)} (h : Kd.C (Kd.slice 113 eB) w A n xs) (i : Int) (h0 : 0 ≤ i) (h1 : i < n) : ∃ ad A0 c0, A = some ad ∧ w.cell? (ad.add i.toNat) = some (.slice A0 (oT xs i).length c0) ∧ (oT xs i).length ≤ c0 ∧ eB.C w A0 (oT xs i).length (oT xs i) := by
 obtain ⟨ad, c, e, _, hK, hJ⟩ := Kd.wb h ([] : List bm) i h0 h1
 have hc : ∀ j u, c[j]? = some u → w.cell? (ad.add (i.toNat * 1 + j)) = some u := hJ
 obtain ⟨A0, c0, rfl, l0, g0⟩ := hK
 exact ⟨ad, A0, c0, e, by have hq := hc 0 _ rfl; rwa [Nat.mul_one, Nat.add_zero] at hq, l0, g0⟩
structure S77 where
 f0 : Int
 f1 : (List bm)
def z77 : S77 := ⟨(0 : Int), ([] : List bm)⟩
end Go.Proofs.YtggiicplcglalaaGreat.All
end
section
namespace Go.Proofs.YtggiicplcglalaaGreat.All
open Go.RowKit YtggiicplcglalaaGreatW.PrintWords YtggiicplcglalaaGreatW.PrintLast YtggiicplcglalaaGreatW.PrintMore
attribute [local go_sem] max2_int min2_int max_two min_two max_three min_three max_four min_four
set_option linter.unusedVariables false
set_option linter.unusedSimpArgs false
set_option maxHeartbeats 8000000
set_option maxRecDepth 100000
def ke.f (l0 : List Int) (a1 : Int) : Option (Int) := if (wrap64 (a1 - (l0.length : Int))) < 0 then (some (-1)) else (some (wrap64 (a1 - (l0.length : Int))))
theorem ke.calls (A0 : Option Addr) (c0 : Nat) (l0 : List Int) (a1 : Int) (r : Int) (w : World) (gD : Kd.C (Kd.int .i64) w A0 l0.length l0) (hJ : l0.length ≤ c0) (h : ke.f l0 a1 = some r) :
  Calls Tryz.prog 112 #[.slice A0 l0.length c0, .int .i64 a1] w fun e w' => e = .returned (.int .i64 r) ∧ bM w w' := by
 have jt := Aside0.mk gD
 have wj := Aside0.mk hJ
 clear gD hJ
 have H : (if (wrap64 (a1 - (l0.length : Int))) < 0 then (some (-1)) else (some (wrap64 (a1 - (l0.length : Int))))) = some r := h
 clear h
 by_cases c3 : (wrap64 (a1 - (l0.length : Int))) < 0
 ·rw [if_pos c3] at H
  have gX := decide_eq_true c3
  clear c3
  obtain rfl := Option.some.inj H
  go_enter Tryz.func112, Tryz.ntmps112
  go_wp2
  go_ret
  exact ⟨mL, mM⟩
 rw [if_neg c3] at H
 have gX := decide_eq_false c3
 clear c3
 obtain rfl := Option.some.inj H
 go_enter Tryz.func112, Tryz.ntmps112
 go_wp2
 go_ret
 exact ⟨mL, mM⟩
def bU.l0 : Nat → List (List Int) → Int → Int → Option (Int)
 | 0, _, _, _ => none
 | k + 1, x0, x1, x5 => if x5 < (x0.length : Int) then (if 0 ≤ x5 then ((ke.f (aJ x0 x5) x1).bind fun t102 => (if t102 < 0 then (some (-1)) else (bU.l0 k x0 t102 (wrap64 (x5 + 1))))) else (none)) else (some x1)
def bU.f (k : Nat) (l0 : List (List Int)) (a1 : Int) : Option (Int) := if (wrap64 (a1 - (l0.length : Int))) < 0 then (some (-1)) else (bU.l0 k l0 (wrap64 (a1 - (l0.length : Int))) 0)
theorem bU.bG : ∀ k, (∀ y0 y1 y2, bB (bU.l0 k y0 y1 y2) (bU.l0 (k + 1) y0 y1 y2))
 | 0 => fun _ _ _ r h => by simp [bU.l0] at h
 | k + 1 => by
  have eQ := bU.bG k
  ·intro y0 y1 y2
   unfold bU.l0
   repeat' first
   | (with_reducible exact eQ ..)
   | (with_reducible exact bB.refl _)
   | (with_reducible exact bB.none _)
   | (with_reducible refine bB.ite ?_ ?_)
   | (with_reducible refine bB.bind ?_ (fun _ => ?_))
theorem bU.mono : ∀ a0 a1 k, bB (bU.f k a0 a1) (bU.f (k + 1) a0 a1) := by
 intro a0 a1 k
 have eQ := bU.bG k
 unfold bU.f
 repeat' first
   | (with_reducible exact eQ ..)
   | (with_reducible exact bB.refl _)
   | (with_reducible exact bB.none _)
   | (with_reducible refine bB.ite ?_ ?_)
   | (with_reducible refine bB.bind ?_ (fun _ => ?_))
theorem bU.calls (k : Nat) (A0 : Option Addr) (c0 : Nat) (l0 : List (List Int)) (a1 : Int) (r : Int) (w : World) (gD : Kd.C (Kd.slice 3 (Kd.int .i64)) w A0 l0.length l0) (hJ : l0.length ≤ c0) (h : bU.f k l0 a1 = some r) :
  Calls Tryz.prog 53 #[.slice A0 l0.length c0, .int .i64 a1] w fun e w' => e = .returned (.int .i64 r) ∧ bM w w' := by
 have jt := Aside0.mk gD
 have wj := Aside0.mk hJ
 clear gD hJ
 have H : (if (wrap64 (a1 - (l0.length : Int))) < 0 then (some (-1)) else (bU.l0 k l0 (wrap64 (a1 - (l0.length : Int))) 0)) = some r := h
 clear h
 by_cases c3 : (wrap64 (a1 - (l0.length : Int))) < 0
 ·rw [if_pos c3] at H
  have gX := decide_eq_true c3
  clear c3
  obtain rfl := Option.some.inj H
  go_enter Tryz.func53, Tryz.ntmps53
  go_wp2
  go_ret
  exact ⟨mL, mM⟩
 rw [if_neg c3] at H
 have gX := decide_eq_false c3
 clear c3
 have H' := Aside0.mk H
 clear H
 go_enter Tryz.func53, Tryz.ntmps53
 go_wp2
 go_loopg [1, 5] k (fun kq v1 v5 w' => ∃ (o_ : Int) (aj : Int), v1 = .int .i64 o_ ∧ v5 = .int .i64 aj ∧ Aside0 (bU.l0 kq l0 o_ aj = some r) ∧ Aside0 (kq ≤ k) ∧ bM w w')
 case atStart => exact ⟨(wrap64 (a1 - (l0.length : Int))), (0), dM, dM, H', ⟨Nat.le_refl _⟩, by repeat (first | exact bM.refl _ | apply bM.step)⟩
 case round =>
  clear H'
  obtain ⟨o_, aj, rfl, rfl, HA, dP, ⟨m1, rfl⟩⟩ := hrel
  cases gk with
  | zero => exact absurd HA.out (by simp [bU.l0])
  | succ k1 =>
   have H := HA.out
   clear HA
   simp only [bU.l0] at H
   by_cases c4 : aj < (l0.length : Int)
   rotate_left
   ·rw [if_neg c4] at H
    have iI := decide_eq_false c4
    clear c4
    obtain rfl := Option.some.inj H
    go_wp2
    go_ret
    exact ⟨mL, mM⟩
   rw [if_pos c4] at H
   have iI := decide_eq_true c4
   clear c4
   replace H := fW H; obtain ⟨jR, H⟩ := H
   replace H := bZ H; obtain ⟨t102, A6, H⟩ := H
   by_cases c7 : t102 < 0
   ·rw [if_pos c7] at H
    have lO := decide_eq_true c7
    clear c7
    obtain rfl := Option.some.inj H
    have JV : 0 ≤ (aj : Int) := bX
    have JW : aj < (l0.length : Int) := bX
    obtain ⟨alr, JX, JY, aev, Wk, vJ, vK⟩ := eO jt.out aj JV JW
    cases aev
    have Dv := Aside0.mk vK
    have Dw := Aside0.mk vJ
    clear vK vJ
    replace JV := eq_true JV
    replace JW := eq_true JW
    go_wp2_with (first | ((with_reducible refine gC 112 rfl ?_); refine gL 23 Tryz.func112 #[.slice JX (aJ l0 aj).length JY, .int .i64 o_] ?_; (with_reducible refine (ke.calls _ _ (aJ l0 aj) o_ t102 _ ?aT ?aU A6.out).mono ?_); (case aT => exact fy Dv.out); (case aU => exact Dw.out); rintro e w' ⟨rfl, ⟨nd, rfl⟩⟩; refine ⟨_, rfl, ?_⟩))
    go_ret
    exact ⟨mL, mM⟩
   rw [if_neg c7] at H
   have lO := decide_eq_false c7
   clear c7
   have H' := Aside0.mk H
   clear H
   have JV : 0 ≤ (aj : Int) := bX
   have JW : aj < (l0.length : Int) := bX
   obtain ⟨alr, JX, JY, aev, Wk, vJ, vK⟩ := eO jt.out aj JV JW
   cases aev
   have Dv := Aside0.mk vK
   have Dw := Aside0.mk vJ
   clear vK vJ
   replace JV := eq_true JV
   replace JW := eq_true JW
   go_wp2_with (first | ((with_reducible refine gC 112 rfl ?_); refine gL 23 Tryz.func112 #[.slice JX (aJ l0 aj).length JY, .int .i64 o_] ?_; (with_reducible refine (ke.calls _ _ (aJ l0 aj) o_ t102 _ ?aT ?aU A6.out).mono ?_); (case aT => exact fy Dv.out); (case aU => exact Dw.out); rintro e w' ⟨rfl, ⟨nd, rfl⟩⟩; refine ⟨_, rfl, ?_⟩))
   go_roundg k1
   case measure => have := dP.out; omega
   case rel => exact ⟨(t102), (wrap64 (aj + 1)), dM, dM, H', ⟨by have := dP.out; omega⟩, by repeat (first | exact bM.refl _ | apply bM.step)⟩
def eP.f (k : Nat) (aD : List (List Int)) (aG : List (List Int)) (a1 : Int) : Option (Int) := (bU.f k aD a1).bind fun t104 => (if t104 < 0 then (some (-1)) else ((bU.f k aG t104).bind fun t105 => (if t105 < 0 then (some (-1)) else (some t105))))
theorem eP.mono : ∀ a0 a1 a2 k, bB (eP.f k a0 a1 a2) (eP.f (k + 1) a0 a1 a2) := by
 intro a0 a1 a2 k
 unfold eP.f
 repeat' first
   | (with_reducible exact bU.mono ..)
   | (with_reducible exact bB.refl _)
   | (with_reducible exact bB.none _)
   | (with_reducible refine bB.ite ?_ ?_)
   | (with_reducible refine bB.bind ?_ (fun _ => ?_))
theorem eP.calls (k : Nat) (ay : Option Addr) (ap : Nat) (aD : List (List Int)) (ae : Option Addr) (a8 : Nat) (aG : List (List Int)) (a1 : Int) (r : Int) (w : World) (db : Kd.C (Kd.slice 3 (Kd.int .i64)) w ay aD.length aD) (dc : aD.length ≤ ap) (dH : Kd.C (Kd.slice 3 (Kd.int .i64)) w ae aG.length aG) (dI : aG.length ≤ a8) (h : eP.f k aD aG a1 = some r) :
  Calls Tryz.prog 8 #[.agg #[.slice ay aD.length ap, .slice ae aG.length a8], .int .i64 a1] w fun e w' => e = .returned (.int .i64 r) ∧ Below w.heap.size w w' := by
 have aj_ := Tryz.underlying24
 have bl := Aside0.mk db
 have bz := Aside0.mk dc
 clear db dc
 have bx := Aside0.mk dH
 have cE := Aside0.mk dI
 clear dH dI
 have HB := Aside0.mk (Below.refl w.heap.size w)
 have H : ((bU.f k aD a1).bind fun t104 => (if t104 < 0 then (some (-1)) else ((bU.f k aG t104).bind fun t105 => (if t105 < 0 then (some (-1)) else (some t105))))) = some r := h
 clear h
 replace H := bZ H; obtain ⟨t104, A3, H⟩ := H
 by_cases c4 : t104 < 0
 ·rw [if_pos c4] at H
  have iI := decide_eq_true c4
  clear c4
  obtain rfl := Option.some.inj H
  go_enter Tryz.func8, Tryz.ntmps8
  go_wp2_with (first | ((with_reducible refine ah (N := 2) rfl ?_); refine bE 2 #[.slice ay aD.length ap, .slice ae aG.length a8] 24 ?_; intro ZQ hg w5 bO hb; have oX := am (bO); have Gg := gW HB hg; have ZR := Gg; replace HB := bS HB hb; clear hb bO hg; have C0 := cG oX.out; have C1 := cR oX.out; have C2 := aH oX.out 0; have C3 := aH oX.out 1) | ((with_reducible refine gC 53 rfl ?_); refine gL 8 Tryz.func53 #[.slice ay aD.length ap, .int .i64 a1] ?_; (with_reducible refine (bU.calls k _ _ aD a1 t104 _ ?aT ?aU A3.out).mono ?_); (case aT => exact cB bl HB); (case aU => exact bz.out); rintro e w' ⟨rfl, ⟨nd, rfl⟩⟩; refine ⟨_, rfl, ?_⟩))
  go_ret
  exact ⟨jC, mb HB.out⟩
 rw [if_neg c4] at H
 have iI := decide_eq_false c4
 clear c4
 replace H := bZ H; obtain ⟨t105, A7, H⟩ := H
 by_cases c8 : t105 < 0
 ·rw [if_pos c8] at H
  have oz := decide_eq_true c8
  clear c8
  obtain rfl := Option.some.inj H
  go_enter Tryz.func8, Tryz.ntmps8
  go_wp2_with (first | ((with_reducible refine ah (N := 2) rfl ?_); refine bE 2 #[.slice ay aD.length ap, .slice ae aG.length a8] 24 ?_; intro ZQ hg w9 bO hb; have oX := am (bO); have Gg := gW HB hg; have ZR := Gg; replace HB := bS HB hb; clear hb bO hg; have KT := cG oX.out; have KU := cR oX.out; have KV := aH oX.out 0; have KW := aH oX.out 1) | ((with_reducible refine gC 53 rfl ?_); refine gL 8 Tryz.func53 #[.slice ay aD.length ap, .int .i64 a1] ?_; (with_reducible refine (bU.calls k _ _ aD a1 t104 _ ?aT ?aU A3.out).mono ?_); (case aT => exact cB bl HB); (case aU => exact bz.out); rintro e w' ⟨rfl, ⟨nd, rfl⟩⟩; refine ⟨_, rfl, ?_⟩) | ((with_reducible refine gC 53 rfl ?_); refine gL 14 Tryz.func53 #[.slice ae aG.length a8, .int .i64 t104] ?_; (with_reducible refine (bU.calls k _ _ aG t104 t105 _ ?aT ?aU A7.out).mono ?_); (case aT => exact fy (Kd.bh bx.out (mb HB.out))); (case aU => exact cE.out); rintro e w' ⟨rfl, ⟨nd, rfl⟩⟩; refine ⟨_, rfl, ?_⟩))
  go_ret
  exact ⟨jC, mb HB.out⟩
 rw [if_neg c8] at H
 have oz := decide_eq_false c8
 clear c8
 obtain rfl := Option.some.inj H
 go_enter Tryz.func8, Tryz.ntmps8
 go_wp2_with (first | ((with_reducible refine ah (N := 2) rfl ?_); refine bE 2 #[.slice ay aD.length ap, .slice ae aG.length a8] 24 ?_; intro ZQ hg tu bO hb; have oX := am (bO); have Gg := gW HB hg; have ZR := Gg; replace HB := bS HB hb; clear hb bO hg; have tv := cG oX.out; have tw := cR oX.out; have tx := aH oX.out 0; have tz := aH oX.out 1) | ((with_reducible refine gC 53 rfl ?_); refine gL 8 Tryz.func53 #[.slice ay aD.length ap, .int .i64 a1] ?_; (with_reducible refine (bU.calls k _ _ aD a1 t104 _ ?aT ?aU A3.out).mono ?_); (case aT => exact cB bl HB); (case aU => exact bz.out); rintro e w' ⟨rfl, ⟨nd, rfl⟩⟩; refine ⟨_, rfl, ?_⟩) | ((with_reducible refine gC 53 rfl ?_); refine gL 14 Tryz.func53 #[.slice ae aG.length a8, .int .i64 t104] ?_; (with_reducible refine (bU.calls k _ _ aG t104 t105 _ ?aT ?aU A7.out).mono ?_); (case aT => exact fy (Kd.bh bx.out (mb HB.out))); (case aU => exact cE.out); rintro e w' ⟨rfl, ⟨nd, rfl⟩⟩; refine ⟨_, rfl, ?_⟩))
 go_ret
 exact ⟨jC, mb HB.out⟩
def bw.l0 : Nat → List Int → List Int → Int → Option (List Int)
 | 0, _, _, _ => none
 | k + 1, x0, x3, x4 => if x4 < (x0.length : Int) then (if 0 ≤ x4 then (if x4 < (x3.length : Int) then (bw.l0 k x0 (x3.set (x4 : Int).toNat (rd x0 x4)) (wrap64 (x4 + 1))) else (none)) else (none)) else (some x3)
def bw.f (k : Nat) (l0 : List Int) : Option (List Int) := if 0 ≤ (l0.length : Int) then (if ((l0.length : Int) : Int).toNat ≤ 35184372088832 then (bw.l0 k l0 (List.replicate ((l0.length : Int) : Int).toNat 0) 0) else (none)) else (none)
theorem bw.bG : ∀ k, (∀ y0 y1 y2, bB (bw.l0 k y0 y1 y2) (bw.l0 (k + 1) y0 y1 y2))
 | 0 => fun _ _ _ r h => by simp [bw.l0] at h
 | k + 1 => by
  have eQ := bw.bG k
  ·intro y0 y1 y2
   unfold bw.l0
   repeat' first
   | (with_reducible exact eQ ..)
   | (with_reducible exact bB.refl _)
   | (with_reducible exact bB.none _)
   | (with_reducible refine bB.ite ?_ ?_)
   | (with_reducible refine bB.bind ?_ (fun _ => ?_))
theorem bw.mono : ∀ a0 k, bB (bw.f k a0) (bw.f (k + 1) a0) := by
 intro a0 k
 have eQ := bw.bG k
 unfold bw.f
 repeat' first
   | (with_reducible exact eQ ..)
   | (with_reducible exact bB.refl _)
   | (with_reducible exact bB.none _)
   | (with_reducible refine bB.ite ?_ ?_)
   | (with_reducible refine bB.bind ?_ (fun _ => ?_))
theorem bw.calls (k : Nat) (A0 : Option Addr) (c0 : Nat) (l0 : List Int) (r : List Int) (w : World) (gD : Kd.C (Kd.int .i64) w A0 l0.length l0) (hJ : l0.length ≤ c0) (h : bw.f k l0 = some r) :
  Calls Tryz.prog 121 #[.slice A0 l0.length c0] w fun e w' => ∃ iE : Value, e = .returned (iE) ∧ Kd.R (Kd.int .i64) 3 w' w.heap.size (fun _ => True) iE r ∧ Below w.heap.size w w' := by
 have jt := Aside0.mk gD
 have wj := Aside0.mk hJ
 clear gD hJ
 have HB := Aside0.mk (Below.refl w.heap.size w)
 have H : (if 0 ≤ (l0.length : Int) then (if ((l0.length : Int) : Int).toNat ≤ 35184372088832 then (bw.l0 k l0 (List.replicate ((l0.length : Int) : Int).toNat 0) 0) else (none)) else (none)) = some r := h
 clear h
 by_cases c2 : 0 ≤ (l0.length : Int)
 rotate_left
 ·rw [if_neg c2] at H
  exact absurd H (by simp)
 rw [if_pos c2] at H
 have uE := eq_true c2
 have FD := decide_eq_true c2
 clear c2
 replace H := oo H; obtain ⟨c3, H⟩ := H
 have gX := eq_true c3
 have qB := decide_eq_true c3
 clear c3
 replace H := br (List.replicate ((l0.length : Int) : Int).toNat 0) (fun aew => (bw.l0 k l0 aew 0) = some r) H; obtain ⟨aew, ZS, H⟩ := H
 have H' := Aside0.mk H
 clear H
 go_enter Tryz.func121, Tryz.ntmps121
 go_wp2_with (first | ((with_reducible refine ah (N := 7) rfl ?_); refine Kd.CY (Kd.int .i64) _ 3 rfl (N := 7) rfl 40 _ _ rfl (l0.length : Int) rfl rfl Tryz.underlying40 (.int .i64 0) 8 eT rfl (by decide) (by omega) 0 (ok := fun _ => True) (okp := fun _ => True) rfl (fun _ hk => hk) trivial (bX) (Nat.le_trans (Nat.mul_le_mul_right _ (bX : (l0.length : Int).toNat ≤ 35184372088832)) (by omega)) (Below.refl _ _) (Nat.le_refl _) ?_; intro v107 w4 xw hb jn dB; clear jn dB; (first | rw [← ZS.out] at xw | (simp only [Int.reduceToNat] at xw; rw [← ZS.out] at xw)); have als := am (Kd.cO xw (aC (mb HB.out))); replace HB := bS HB hb; clear hb xw))
 go_loopg [4] k (fun kq v4 w' => ∃ (bg : List Int) (dT : Int), v4 = .int .i64 dT ∧ Aside0 (bw.l0 kq l0 bg dT = some r) ∧ Aside0 (kq ≤ k) ∧ Aside0 (Kd.R (Kd.int .i64) 3 w' w.heap.size (fun _ => True) v107 bg) ∧ Aside0 (Below w.heap.size w w'))
 case atStart => exact ⟨(aew), (0), dM, H', ⟨Nat.le_refl _⟩, ⟨ci als.out⟩, ⟨mb HB.out⟩⟩
 case round =>
  clear H'
  obtain ⟨bg, dT, rfl, HA, dP, cW, HB⟩ := hrel
  cases gk with
  | zero => exact absurd HA.out (by simp [bw.l0])
  | succ k1 =>
   have H := HA.out
   clear HA
   simp only [bw.l0] at H
   by_cases c6 : dT < (l0.length : Int)
   rotate_left
   ·rw [if_neg c6] at H
    have hU := decide_eq_false c6
    clear c6
    obtain rfl := Option.some.inj H
    go_wp2
    go_ret
    exact ⟨_, jC, ci cW.out, mb HB.out⟩
   rw [if_pos c6] at H
   have hU := decide_eq_true c6
   clear c6
   replace H := fW H; obtain ⟨lO, H⟩ := H
   replace H := fW H; obtain ⟨oz, H⟩ := H
   replace H := br (bg.set (dT : Int).toNat (rd l0 dT)) (fun Wl => (bw.l0 k1 l0 Wl (wrap64 (dT + 1))) = some r) H; obtain ⟨Wl, alu, H⟩ := H
   have H' := Aside0.mk H
   clear H
   have aex : 0 ≤ (dT : Int) := bX
   have aey : dT < (l0.length : Int) := bX
   obtain ⟨auQ, arX, Dx⟩ := Kd.bi jt.out dT aex aey
   cases arX
   replace Dx := (HB.out.cell (World.block_lt_of_cell? w _ Dx)).trans Dx
   replace aex := eq_true aex
   replace aey := eq_true aey
   have p9 : 0 ≤ (dT : Int) := bX
   have q9 : (dT : Int) < ((bg.length : Int) : Int) := bX
   obtain ⟨go9, co9, eo9, gb9, gl9, cl9, HG9⟩ := Kd.lZ cW.out (by omega)
   (first | cases eo9 | (injection eo9 with kF wB wC; (first | subst kF | (injection kF with kF; subst kF)); subst wC; clear wB))
   have GB9 := Aside0.mk gb9
   have GG9 := Aside0.mk HG9
   clear gb9 gl9 HG9
   obtain ⟨auR, auS⟩ := Kd.gx 0 cW.out (dT : Int) p9 q9
   replace p9 := eq_true p9
   replace q9 := eq_true q9
   have zH := Kd.nI cW.out (dT : Int) (rd l0 dT)
   go_wp2_with (first | ((with_reducible refine fo (t := 3) (p := 20) rfl ?_); refine fM (t := 3) (p := 20) (v := ?QF) (w1 := (wr.setCell ⟨go9, (dT : Int).toNat, none⟩ (.int .i64 (rd l0 dT)))) ?hg ?ho ?hn ?hr ?_; (case ho => rfl); (case hg => rfl); (case hn => rfl); (case hr => first | (go_simp; done) | (go_simp; rfl)); intro tu hw; have hg : wr.grownBy tu (some go9) := (by rw [hw]; exact zH.2); have rR : Kd.R (Kd.int .i64) 3 tu w.heap.size (fun _ => True) (.slice (some ⟨go9, 0, none⟩) bg.length co9) Wl := (by rw [hw, alu.out]; exact zH.1); clear zH; replace cW := am (rR); replace HB := am ((by rw [hw]; exact dj (HB.out) GB9.out : Below w.heap.size w tu)); clear hg hw rR))
   go_roundg k1
   case measure => have := dP.out; omega
   case rel => exact ⟨(Wl), (wrap64 (dT + 1)), dM, H', ⟨by have := dP.out; omega⟩, ⟨ci cW.out⟩, ⟨mb HB.out⟩⟩
def b8.l0 : Nat → List (List Int) → List (List Int) → Int → Option ((List (List Int)))
 | 0, _, _, _ => none
 | k + 1, x0, x3, x4 => if x4 < (x0.length : Int) then (if 0 ≤ x4 then ((bw.f k (aJ x0 x4)).bind fun t115 => (if x4 < (x3.length : Int) then (b8.l0 k x0 (x3.set (x4 : Int).toNat t115) (wrap64 (x4 + 1))) else (none))) else (none)) else (some x3)
def b8.f (k : Nat) (l0 : List (List Int)) : Option ((List (List Int))) := if 0 ≤ (l0.length : Int) then (if ((l0.length : Int) : Int).toNat ≤ 11728124029610 then (b8.l0 k l0 (List.replicate ((l0.length : Int) : Int).toNat []) 0) else (none)) else (none)
theorem b8.bG : ∀ k, (∀ y0 y1 y2, bB (b8.l0 k y0 y1 y2) (b8.l0 (k + 1) y0 y1 y2))
 | 0 => fun _ _ _ r h => by simp [b8.l0] at h
 | k + 1 => by
  have eQ := b8.bG k
  ·intro y0 y1 y2
   unfold b8.l0
   repeat' first
   | (with_reducible exact eQ ..)
   | (with_reducible exact bw.mono ..)
   | (with_reducible exact bB.refl _)
   | (with_reducible exact bB.none _)
   | (with_reducible refine bB.ite ?_ ?_)
   | (with_reducible refine bB.bind ?_ (fun _ => ?_))
theorem b8.mono : ∀ a0 k, bB (b8.f k a0) (b8.f (k + 1) a0) := by
 intro a0 k
 have eQ := b8.bG k
 unfold b8.f
 repeat' first
   | (with_reducible exact eQ ..)
   | (with_reducible exact bw.mono ..)
   | (with_reducible exact bB.refl _)
   | (with_reducible exact bB.none _)
   | (with_reducible refine bB.ite ?_ ?_)
   | (with_reducible refine bB.bind ?_ (fun _ => ?_))
theorem b8.calls (k : Nat) (A0 : Option Addr) (c0 : Nat) (l0 : List (List Int)) (r : List (List Int)) (w : World) (gD : Kd.C (Kd.slice 3 (Kd.int .i64)) w A0 l0.length l0) (hJ : l0.length ≤ c0) (h : b8.f k l0 = some r) :
  Calls Tryz.prog 61 #[.slice A0 l0.length c0] w fun e w' => ∃ iE : Value, e = .returned (iE) ∧ Kd.S (Kd.slice 3 (Kd.int .i64)) 40 w' w.heap.size (fun _ => True) iE r ∧ Below w.heap.size w w' := by
 have jt := Aside0.mk gD
 have wj := Aside0.mk hJ
 clear gD hJ
 have HB := Aside0.mk (Below.refl w.heap.size w)
 have H : (if 0 ≤ (l0.length : Int) then (if ((l0.length : Int) : Int).toNat ≤ 11728124029610 then (b8.l0 k l0 (List.replicate ((l0.length : Int) : Int).toNat []) 0) else (none)) else (none)) = some r := h
 clear h
 by_cases c2 : 0 ≤ (l0.length : Int)
 rotate_left
 ·rw [if_neg c2] at H
  exact absurd H (by simp)
 rw [if_pos c2] at H
 have uE := eq_true c2
 have FD := decide_eq_true c2
 clear c2
 replace H := oo H; obtain ⟨c3, H⟩ := H
 have gX := eq_true c3
 have qB := decide_eq_true c3
 clear c3
 replace H := br (List.replicate ((l0.length : Int) : Int).toNat []) (fun aez => (b8.l0 k l0 aez 0) = some r) H; obtain ⟨aez, ZT, H⟩ := H
 have H' := Aside0.mk H
 clear H
 go_enter Tryz.func61, Tryz.ntmps61
 go_wp2_with (first | ((with_reducible refine ah (N := 7) rfl ?_); refine Kd.adN (Kd.slice 3 (Kd.int .i64)) _ 40 rfl (N := 7) rfl 22 _ _ rfl (l0.length : Int) rfl rfl Tryz.underlying22 (.slice none 0 0) 24 gM rfl (by decide) (by omega) [] (ok := fun _ => True) (okp := fun _ => True) ⟨_, rfl, Kd.mV _ _ _ _ _⟩ (fun _ hk => hk) trivial (bX) (Nat.le_trans (Nat.mul_le_mul_right _ (bX : (l0.length : Int).toNat ≤ 11728124029610)) (by omega)) (Below.refl _ _) (Nat.le_refl _) ?_; intro v112 w4 xw hb jn dB; clear jn dB; (first | rw [← ZT.out] at xw | (simp only [Int.reduceToNat] at xw; rw [← ZT.out] at xw)); have alv := am (Kd.gI xw (aC (mb HB.out))); replace HB := bS HB hb; clear hb xw))
 go_loopg [4] k (fun kq v4 w' => ∃ (bg : List (List Int)) (dT : Int), v4 = .int .i64 dT ∧ Aside0 (b8.l0 kq l0 bg dT = some r) ∧ Aside0 (kq ≤ k) ∧ Aside0 (Kd.S (Kd.slice 3 (Kd.int .i64)) 40 w' w.heap.size (fun _ => True) v112 bg) ∧ Aside0 (Below w.heap.size w w'))
 case atStart => exact ⟨(aez), (0), dM, H', ⟨Nat.le_refl _⟩, ⟨gP alv.out⟩, ⟨mb HB.out⟩⟩
 case round =>
  clear H'
  obtain ⟨bg, dT, rfl, HA, dP, cW, HB⟩ := hrel
  cases gk with
  | zero => exact absurd HA.out (by simp [b8.l0])
  | succ k1 =>
   have H := HA.out
   clear HA
   simp only [b8.l0] at H
   by_cases c6 : dT < (l0.length : Int)
   rotate_left
   ·rw [if_neg c6] at H
    have hU := decide_eq_false c6
    clear c6
    obtain rfl := Option.some.inj H
    go_wp2
    go_ret
    exact ⟨_, jC, gP cW.out, mb HB.out⟩
   rw [if_pos c6] at H
   have hU := decide_eq_true c6
   clear c6
   replace H := fW H; obtain ⟨lO, H⟩ := H
   replace H := bZ H; obtain ⟨t115, A8, H⟩ := H
   replace H := fW H; obtain ⟨tF, H⟩ := H
   replace H := br (bg.set (dT : Int).toNat t115) (fun Wm => (b8.l0 k1 l0 Wm (wrap64 (dT + 1))) = some r) H; obtain ⟨Wm, alw, H⟩ := H
   have H' := Aside0.mk H
   clear H
   have aeA : 0 ≤ (dT : Int) := bX
   have aeB : dT < (l0.length : Int) := bX
   obtain ⟨auT, aeC, aeD, arY, Dy, MP, MQ⟩ := eO jt.out dT aeA aeB
   cases arY
   replace Dy := (HB.out.cell (World.block_lt_of_cell? w _ Dy)).trans Dy
   have Wn := Aside0.mk MQ
   have Wo := Aside0.mk MP
   clear MQ MP
   replace aeA := eq_true aeA
   replace aeB := eq_true aeB
   go_wp2_with (first | ((with_reducible refine gC 121 rfl ?_); refine gL 20 Tryz.func121 #[.slice aeC (aJ l0 dT).length aeD] ?_; (with_reducible refine (bw.calls k1 _ _ (aJ l0 dT) t115 _ ?aT ?aU A8.out).mono ?_); (case aT => exact cB Wn HB); (case aU => exact Wo.out); rintro e tu ⟨v116, rfl, cC, hb⟩; refine ⟨_, rfl, ?_⟩; replace cW := am (Kd.jI (gP cW.out) (Kd.bf cC) hb); have Sg := am (Kd.cO cC (aC (mb HB.out))); replace HB := bS HB hb; (try clear hb cC); have p10 : 0 ≤ (dT : Int) := bX; have q10 : (dT : Int) < ((bg.length : Int) : Int) := bX; obtain ⟨O8, xX, xY, alx, arZ, awi, aly⟩ := Kd.adM cW.out (by omega); (first | cases xY | (injection xY with kF wB wC; (first | subst kF | (injection kF with kF; subst kF)); subst wC; clear wB)); have ar0 := Aside0.mk alx; have awj := Aside0.mk aly; clear alx arZ aly; obtain ⟨_, awk, alz, alA, ZU, ZV, _, _⟩ := Kd.Rt cW.out [] (dT : Int) p10 q10; obtain ⟨ar1, rfl, ar2⟩ := alA; have aeE := ZU 0 _ rfl; have aeF := ZV 0; (try simp only [show ((Kd.slice 3 (Kd.int .i64))).sz = 1 from rfl, Nat.mul_one, Nat.add_zero] at aeE); (try simp only [show ((Kd.slice 3 (Kd.int .i64))).sz = 1 from rfl, Nat.mul_one, Nat.add_zero] at aeF); clear alz ZU ZV; (try clear alA); replace p10 := eq_true p10; replace q10 := eq_true q10; have n_ := Aside0.mk (Kd.cJ (ok' := (fun k_ => some k_ ≠ (v116 : Value).ownBlock)) cW.out (fun k_ hk => hk.2)); clear cW; have cW := n_; clear n_; have ar3 := Aside0.mk (show Kd.S (Kd.slice 3 (Kd.int .i64)) 40 tu w.heap.size (fun k_ => ((fun _ => True)) k_ ∧ ¬ ((fun k_ => some k_ = (v116 : Value).ownBlock)) k_) (.slice (some ⟨O8, 0, none⟩) bg.length xX) bg from (Kd.cJ (gP cW.out) (fun k_ hk => ⟨trivial, fun e_ => hk e_⟩))); obtain ⟨auU, awl, alB, alD, ZW, ZX, aeG, alE⟩ := Kd.Rt ar3.out [] (dT : Int) (bX) (by have h_ : (dT : Int) < ((bg.length : Int) : Int) := bX; first | exact h_ | (have e_ := (Kd.cj cW.out).1; omega) | simpa using h_); obtain ⟨ar4, rfl, ar5⟩ := alD; have Wp := Kd.akI alE (bX) (by have h_ : (dT : Int) < ((bg.length : Int) : Int) := bX; first | exact h_ | (have e_ := (Kd.cj cW.out).1; omega) | simpa using h_) (seg := [v116]) (j := 0) (show 1 ≤ 1 from by decide) (x' := t115) (Kd.BT (Kd.bD (Kd.jr rfl (Kd.bD (ok' := fun k_ => ((fun _ => True)) k_ ∧ k_ ≠ O8) (Kd.cX (Sg.out) (Kd.jq cW.out) (by decide)) (fun k_ hk => ⟨trivial, fun e_ => (hk.2) (by rw [e_]; rfl)⟩))) (fun _ h_ => Or.inr (h_)))) (fun _ hk => hk) (fun k_ gH => ((Kd.bD (ok' := fun k_ => ((fun _ => True)) k_ ∧ k_ ≠ O8) (Kd.cX (Sg.out) (Kd.jq cW.out) (by decide)) (fun k_ hk => ⟨trivial, fun e_ => (hk.2) (by rw [e_]; rfl)⟩))).1 k_ gH.symm); have RQ := ZW 0 _ rfl; (try simp only [show ((Kd.slice 3 (Kd.int .i64))).sz = 1 from rfl, Nat.mul_one, Nat.add_zero] at RQ); have RR := ZX 0; (try simp only [show ((Kd.slice 3 (Kd.int .i64))).sz = 1 from rfl, Nat.mul_one, Nat.add_zero] at RR); clear alB ZW ZX aeG alE; (try clear alD); (try simp only [show ((Kd.slice 3 (Kd.int .i64))).sz = 1 from rfl, Nat.mul_one, Nat.add_zero] at Wp)) | ((with_reducible refine fo (t := 40) (p := 21) rfl ?_); refine fM (t := 40) (p := 21) (v := ?ar6) (w1 := (tu.setCell ⟨O8, (dT : Int).toNat, none⟩ (v116))) ?hg ?ho ?hn ?hr ?_; (case ho => rfl); (case hg => rfl); (case hn => rfl); (case hr => first | (go_simp; done) | (go_simp; rfl) | (obtain ⟨Az_, cz_, ez_⟩ := Kd.cH (Aside0.out ‹Aside0 (Kd.R _ _ _ _ _ v116 _)›); subst ez_; first | (go_simp; done) | (go_simp; rfl))); intro E2 hw; have hg : tu.grownBy E2 (some O8) := (by rw [hw]; exact Wp.2); have rR : Kd.S (Kd.slice 3 (Kd.int .i64)) 40 E2 w.heap.size (fun _ => True) (.slice (some ⟨O8, 0, none⟩) bg.length xX) Wm := (by rw [hw, alw.out]; exact Wp.1); clear Wp; replace cW := am (rR); replace HB := am ((by rw [hw]; exact dj (HB.out) ar0.out : Below w.heap.size w E2)); clear Sg; clear hg hw rR))
   go_roundg k1
   case measure => have := dP.out; omega
   case rel => exact ⟨(Wm), (wrap64 (dT + 1)), dM, H', ⟨by have := dP.out; omega⟩, ⟨gP cW.out⟩, ⟨mb HB.out⟩⟩
def df.f (k : Nat) (aD : List (List Int)) (aG : List (List Int)) : Option ((List (List Int)) × (List (List Int))) := (b8.f k aD).bind fun t122 => ((b8.f k aG).bind fun t125 => (some (t122, t125)))
theorem df.mono : ∀ a0 a1 k, bB (df.f k a0 a1) (df.f (k + 1) a0 a1) := by
 intro a0 a1 k
 unfold df.f
 repeat' first
   | (with_reducible exact b8.mono ..)
   | (with_reducible exact bB.refl _)
   | (with_reducible exact bB.none _)
   | (with_reducible refine bB.ite ?_ ?_)
   | (with_reducible refine bB.bind ?_ (fun _ => ?_))
theorem df.calls (k : Nat) (ay : Option Addr) (ap : Nat) (aD : List (List Int)) (ae : Option Addr) (a8 : Nat) (aG : List (List Int)) (r1 : List (List Int)) (r2 : List (List Int)) (w : World) (db : Kd.C (Kd.slice 3 (Kd.int .i64)) w ay aD.length aD) (dc : aD.length ≤ ap) (dH : Kd.C (Kd.slice 3 (Kd.int .i64)) w ae aG.length aG) (dI : aG.length ≤ a8) (h : df.f k aD aG = some (r1, r2)) :
  Calls Tryz.prog 10 #[.agg #[.slice ay aD.length ap, .slice ae aG.length a8]] w fun e w' => ∃ iE Ox : Value, e = .returned (.agg #[iE, Ox]) ∧ Kd.S (Kd.slice 3 (Kd.int .i64)) 40 w' w.heap.size (fun k_ => some k_ ≠ (Ox : Value).ownBlock) iE r1 ∧ Kd.S (Kd.slice 3 (Kd.int .i64)) 40 w' w.heap.size (fun k_ => some k_ ≠ (iE : Value).ownBlock) Ox r2 ∧ Below w.heap.size w w' := by
 have aj_ := Tryz.underlying24
 have rD := Tryz.underlying28
 have bl := Aside0.mk db
 have bz := Aside0.mk dc
 clear db dc
 have bx := Aside0.mk dH
 have cE := Aside0.mk dI
 clear dH dI
 have HB := Aside0.mk (Below.refl w.heap.size w)
 have H : ((b8.f k aD).bind fun t122 => ((b8.f k aG).bind fun t125 => (some (t122, t125)))) = some (r1, r2) := h
 clear h
 replace H := bZ H; obtain ⟨t122, A2, H⟩ := H
 replace H := bZ H; obtain ⟨t125, A3, H⟩ := H
 simp only [Option.some.injEq, Prod.mk.injEq] at H
 obtain ⟨rfl, rfl⟩ := H
 go_enter Tryz.func10, Tryz.ntmps10
 go_wp2_with (first | ((with_reducible refine ah (N := 1) rfl ?_); refine bE 1 #[.slice ay aD.length ap, .slice ae aG.length a8] 24 ?_; intro vL hg w4 bO hb; have kf := am (bO); have alF := gW HB hg; have auV := alF; replace HB := bS HB hb; clear hb bO hg) | ((with_reducible refine ah (N := 2) rfl ?_); refine bE 2 #[.slice none 0 0, .slice none 0 0] 28 ?_; intro qz hg w5 bO hb; have ng := am (bO); have alG := gW HB hg; have auW := alG; replace HB := bS HB hb; have O9 := am ((by rw [hg]; exact Nat.ne_of_lt (d_ (g := vL) (o := .cells #[.slice ay aD.length ap, .slice ae aG.length a8] 24 (0, 0)) (ct kf.out)) : vL ≠ qz)); have O_ := am ((by rw [hg]; exact Nat.ne_of_gt (d_ (g := vL) (o := .cells #[.slice ay aD.length ap, .slice ae aG.length a8] 24 (0, 0)) (ct kf.out)) : qz ≠ vL)); replace kf := kS kf hb; clear hb bO hg) | ((with_reducible refine ah (N := 3) rfl ?_); refine bE 3 #[.slice none 0 0, .slice none 0 0] 28 ?_; intro vM hg w6 bO hb; have m_ := am (bO); have alH := gW HB hg; have auX := alH; replace HB := bS HB hb; have CO := am ((by rw [hg]; exact Nat.ne_of_lt (d_ (g := vL) (o := .cells #[.slice ay aD.length ap, .slice ae aG.length a8] 24 (0, 0)) (ct kf.out)) : vL ≠ vM)); have Oa := am ((by rw [hg]; exact Nat.ne_of_gt (d_ (g := vL) (o := .cells #[.slice ay aD.length ap, .slice ae aG.length a8] 24 (0, 0)) (ct kf.out)) : vM ≠ vL)); replace kf := kS kf hb; have wX := am ((by rw [hg]; exact Nat.ne_of_lt (d_ (g := qz) (o := .cells #[.slice none 0 0, .slice none 0 0] 28 (0, 0)) (ct ng.out)) : qz ≠ vM)); have Ob := am ((by rw [hg]; exact Nat.ne_of_gt (d_ (g := qz) (o := .cells #[.slice none 0 0, .slice none 0 0] 28 (0, 0)) (ct ng.out)) : vM ≠ qz)); replace ng := kS ng hb; clear hb bO hg; have awm := O9.out; have awn := O_.out; have awo := CO.out; have awp := Oa.out; have vx := cG kf.out; have vy := cR kf.out; have vz := aH kf.out 0; have wA := aH kf.out 1) | ((with_reducible refine gC 61 rfl ?_); refine gL 6 Tryz.func61 #[.slice ay aD.length ap] ?_; (with_reducible refine (b8.calls k _ _ aD t122 _ ?aT ?aU A2.out).mono ?_); (case aT => exact cB bl HB); (case aU => exact bz.out); rintro e BZ ⟨v123, rfl, cC, hb⟩; refine ⟨_, rfl, ?_⟩; have Gh := am (Kd.gI cC (aC (mb HB.out))); replace kf := kS kf hb; replace ng := kS ng hb; replace m_ := kS m_ hb; replace HB := bS HB hb; (try clear hb cC); obtain ⟨JZ, J1, ar7⟩ := Kd.gj Gh.out; subst ar7; have auY := Ob.out; have auZ := wX.out; have MR := cG m_.out; have MS := cR m_.out; have MT := aH m_.out 0; have MU := aH m_.out 1; have KY := cG kf.out; have KZ := cR kf.out; have K0 := aH kf.out 0; have K3 := aH kf.out 1) | ((with_reducible refine gC 61 rfl ?_); refine gL 10 Tryz.func61 #[.slice ae aG.length a8] ?_; (with_reducible refine (b8.calls k _ _ aG t125 _ ?aT ?aU A3.out).mono ?_); (case aT => exact Kd.bh bx.out (mb HB.out)); (case aU => exact cE.out); rintro e NQ ⟨v126, rfl, cC, hb⟩; refine ⟨_, rfl, ?_⟩; have ZY := am (Kd.gI (Kd.kE cC (Kd.sX (by (with_reducible repeat (first | apply Kd.iS | apply Kd.iT | apply Kd.gw)); exact (Kd.cJ (Kd.jJ (p := ⟨vM, 0, none⟩) (Kd.jF Gh.out m_.out (by decide)) (fun _ hk => hk.2) (.slice JZ t122.length J1)) (fun _ h_ => h_.1))))) (aC (mb HB.out))); replace Gh := am (Kd.jI (by (with_reducible repeat (first | apply Kd.iS | apply Kd.iT | apply Kd.gw)); exact (Kd.cJ (Kd.jJ (p := ⟨vM, 0, none⟩) (Kd.jF Gh.out m_.out (by decide)) (fun _ hk => hk.2) (.slice JZ t122.length J1)) (fun _ h_ => h_.1))) (Kd.kV cC) hb); replace kf := am (bR (g := vL) (o := .cells #[.slice ay aD.length ap, .slice ae aG.length a8] 24 (0, 0)) (by (with_reducible repeat (first | refine ba ?_ _ | refine az ?_ | refine b_ ?_ _)); refine gi ?_ CO.out _; exact ct kf.out) hb); replace ng := am (bR (g := qz) (o := .cells #[.slice none 0 0, .slice none 0 0] 28 (0, 0)) (by (with_reducible repeat (first | refine ba ?_ _ | refine az ?_ | refine b_ ?_ _)); refine gi ?_ wX.out _; exact ct ng.out) hb); replace m_ := am (bR (g := vM) (o := .cells #[.slice JZ t122.length J1, .slice none 0 0] 28 (0, 0)) (by (with_reducible repeat (first | refine ba ?_ _ | refine az ?_ | refine b_ ?_ _)); refine dS (cs := #[.slice none 0 0, .slice none 0 0]) ?_ 0 _ rfl; exact ct m_.out) hb); replace HB := bS HB hb; (try clear hb cC); obtain ⟨Eu, nr, P_⟩ := Kd.gj ZY.out; subst P_; have UL := cG m_.out; have UM := cR m_.out; have UN := aH m_.out 0; have UO := aH m_.out 1; have ao3 := cG ng.out; have ao4 := cR ng.out; have ao5 := aH ng.out 0; have ao6 := aH ng.out 1))
 refine bodyPost_ret (results_cell_row rfl _ _ qz 28 #[.slice JZ t122.length J1, .slice Eu t125.length nr] (0, 0) _ rfl (by (with_reducible repeat (first | refine ba ?_ _ | refine az ?_ | refine b_ ?_ _)); refine dS (cs := #[.slice JZ t122.length J1, .slice none 0 0]) ?_ 1 _ rfl; (with_reducible repeat (first | refine ba ?_ _ | refine az ?_ | refine b_ ?_ _)); refine dS (cs := #[.slice none 0 0, .slice none 0 0]) ?_ 0 _ rfl; (with_reducible repeat (first | refine ba ?_ _ | refine az ?_ | refine b_ ?_ _)); refine gi ?_ wX.out _; exact ct ng.out) Tryz.underlying28 rfl (by kernel_rfl)) rfl ?_
 exact ⟨_, _, jC, by (with_reducible repeat (first | apply Kd.iS | apply Kd.iT | apply Kd.gw)); exact Kd.cJ (Kd.jJ (p := ⟨qz, 1, none⟩) (Kd.jJ (p := ⟨qz, 0, none⟩) (Kd.jJ (p := ⟨vM, 1, none⟩) (Kd.jF (Kd.jF Gh.out m_.out (by decide)) ng.out (by decide)) (fun _ hk => hk.1.2) (.slice Eu t125.length nr)) (fun _ hk => hk.2) (.slice JZ t122.length J1)) (fun _ hk => hk.2) (.slice Eu t125.length nr)) (fun _ hk => hk.1.1.2), by (with_reducible repeat (first | apply Kd.iS | apply Kd.iT | apply Kd.gw)); exact Kd.cJ (Kd.jJ (p := ⟨qz, 1, none⟩) (Kd.jJ (p := ⟨qz, 0, none⟩) (Kd.jJ (p := ⟨vM, 1, none⟩) (Kd.jF (Kd.jF ZY.out m_.out (by decide)) ng.out (by decide)) (fun _ hk => hk.1.2) (.slice Eu t125.length nr)) (fun _ hk => hk.2) (.slice JZ t122.length J1)) (fun _ hk => hk.2) (.slice Eu t125.length nr)) (fun _ hk => hk.1.1.2), mb HB.out⟩
def bp.l0 : Nat → List Int → List Int → Int → Option (Bool)
 | 0, _, _, _ => none
 | k + 1, x0, x1, x5 => if x5 < (x0.length : Int) then (if 0 ≤ x5 then (if x5 < (x1.length : Int) then (if (rd x0 x5) = (rd x1 x5) then (bp.l0 k x0 x1 (wrap64 (x5 + 1))) else (some false)) else (none)) else (none)) else (some true)
def bp.f (k : Nat) (l0 : List Int) (l1 : List Int) : Option (Bool) := if (l0.length : Int) = (l1.length : Int) then (bp.l0 k l0 l1 0) else (some false)
theorem bp.bG : ∀ k, (∀ y0 y1 y2, bB (bp.l0 k y0 y1 y2) (bp.l0 (k + 1) y0 y1 y2))
 | 0 => fun _ _ _ r h => by simp [bp.l0] at h
 | k + 1 => by
  have eQ := bp.bG k
  ·intro y0 y1 y2
   unfold bp.l0
   repeat' first
   | (with_reducible exact eQ ..)
   | (with_reducible exact bB.refl _)
   | (with_reducible exact bB.none _)
   | (with_reducible refine bB.ite ?_ ?_)
   | (with_reducible refine bB.bind ?_ (fun _ => ?_))
theorem bp.mono : ∀ a0 a1 k, bB (bp.f k a0 a1) (bp.f (k + 1) a0 a1) := by
 intro a0 a1 k
 have eQ := bp.bG k
 unfold bp.f
 repeat' first
   | (with_reducible exact eQ ..)
   | (with_reducible exact bB.refl _)
   | (with_reducible exact bB.none _)
   | (with_reducible refine bB.ite ?_ ?_)
   | (with_reducible refine bB.bind ?_ (fun _ => ?_))
theorem bp.calls (k : Nat) (A0 : Option Addr) (c0 : Nat) (l0 : List Int) (A1 : Option Addr) (c1 : Nat) (l1 : List Int) (r : Bool) (w : World) (gD : Kd.C (Kd.int .i64) w A0 l0.length l0) (hJ : l0.length ≤ c0) (nn : Kd.C (Kd.int .i64) w A1 l1.length l1) (mN : l1.length ≤ c1) (h : bp.f k l0 l1 = some r) :
  Calls Tryz.prog 50 #[.slice A0 l0.length c0, .slice A1 l1.length c1] w fun e w' => e = .returned (.bool r) ∧ bM w w' := by
 have jt := Aside0.mk gD
 have wj := Aside0.mk hJ
 clear gD hJ
 have lz := Aside0.mk nn
 have Ag := Aside0.mk mN
 clear nn mN
 have H : (if (l0.length : Int) = (l1.length : Int) then (bp.l0 k l0 l1 0) else (some false)) = some r := h
 clear h
 by_cases c3 : (l0.length : Int) = (l1.length : Int)
 rotate_left
 ·rw [if_neg c3] at H
  have gX := iQ c3
  have qB := iR c3
  have IK : (l0.length == l1.length) = false := by first | simpa using c3 | (simp at c3 ⊢; omega)
  obtain rfl := Option.some.inj H
  go_enter Tryz.func50, Tryz.ntmps50
  go_wp2
  go_ret
  exact ⟨mL, mM⟩
 rw [if_pos c3] at H
 have gX := il c3
 have qB := im c3
 have IK : (l0.length == l1.length) = true := by first | simpa using c3 | (simp at c3 ⊢; omega)
 clear c3
 have H' := Aside0.mk H
 clear H
 go_enter Tryz.func50, Tryz.ntmps50
 go_wp2
 go_loopg [5] k (fun kq v5 w' => ∃ (aj : Int), v5 = .int .i64 aj ∧ Aside0 (bp.l0 kq l0 l1 aj = some r) ∧ Aside0 (kq ≤ k) ∧ bM w w')
 case atStart => exact ⟨(0), dM, H', ⟨Nat.le_refl _⟩, by repeat (first | exact bM.refl _ | apply bM.step)⟩
 case round =>
  clear H'
  obtain ⟨aj, rfl, HA, dP, ⟨m1, rfl⟩⟩ := hrel
  cases gk with
  | zero => exact absurd HA.out (by simp [bp.l0])
  | succ k1 =>
   have H := HA.out
   clear HA
   simp only [bp.l0] at H
   by_cases c4 : aj < (l0.length : Int)
   rotate_left
   ·rw [if_neg c4] at H
    have iI := decide_eq_false c4
    clear c4
    obtain rfl := Option.some.inj H
    go_wp2
    go_ret
    exact ⟨mL, mM⟩
   rw [if_pos c4] at H
   have iI := decide_eq_true c4
   clear c4
   replace H := fW H; obtain ⟨jR, H⟩ := H
   replace H := fW H; obtain ⟨hU, H⟩ := H
   by_cases c7 : (rd l0 aj) = (rd l1 aj)
   rotate_left
   ·rw [if_neg c7] at H
    have lO := iQ c7
    have xf := iR c7
    obtain rfl := Option.some.inj H
    have J2 : 0 ≤ (aj : Int) := bX
    have J3 : aj < (l0.length : Int) := bX
    obtain ⟨alI, aeH, Wq⟩ := Kd.bi jt.out aj J2 J3
    cases aeH
    replace J2 := eq_true J2
    replace J3 := eq_true J3
    have J4 : 0 ≤ (aj : Int) := bX
    have J5 : aj < (l1.length : Int) := bX
    obtain ⟨alJ, aeI, Wr⟩ := Kd.bi lz.out aj J4 J5
    cases aeI
    replace J4 := eq_true J4
    replace J5 := eq_true J5
    go_wp2
    go_quiet (fail); try go_wp2
    go_ret
    exact ⟨mL, mM⟩
   rw [if_pos c7] at H
   have lO := il c7
   have xf := im c7
   clear c7
   have H' := Aside0.mk H
   clear H
   have J2 : 0 ≤ (aj : Int) := bX
   have J3 : aj < (l0.length : Int) := bX
   obtain ⟨alI, aeH, Wq⟩ := Kd.bi jt.out aj J2 J3
   cases aeH
   replace J2 := eq_true J2
   replace J3 := eq_true J3
   have J4 : 0 ≤ (aj : Int) := bX
   have J5 : aj < (l1.length : Int) := bX
   obtain ⟨alJ, aeI, Wr⟩ := Kd.bi lz.out aj J4 J5
   cases aeI
   replace J4 := eq_true J4
   replace J5 := eq_true J5
   go_wp2
   go_quiet (fail); try go_wp2
   go_roundg k1
   case measure => have := dP.out; omega
   case rel => exact ⟨(wrap64 (aj + 1)), dM, H', ⟨by have := dP.out; omega⟩, by repeat (first | exact bM.refl _ | apply bM.step)⟩
end Go.Proofs.YtggiicplcglalaaGreat.All
end
