/- Part of the proof that FnExactWalkSteps answers true. -/
import Derived.OrdersHeld
import Derived.Laws.BitsLemmas
import Derived.Test.YtggiicplcglalaaGreatQW1
section
namespace Go.Proofs.YtggiicplcglalaaGreatW.PrintLast
section
variable {P : Program} {ops : Array Oper} {Q : Exit → Act → World → Prop} {md : Region.Mode} {S : World → Prop} {ds : List Nat}
def Region.mT (md : Region.Mode) (ops : Array Oper) (i : Nat) : Nat → Nat → Bool
 | 0, _ => false
 | dF + 1, d => match ops[d]? with
  | some o => o.after.any fun e => Region.binds md e && (e.on == i || Region.mT md ops i dF e.on)
  | none => false
def Region.ur (md : Region.Mode) (ops : Array Oper) (bc : Array Bool) : Bool :=
 (List.range ops.size).all fun j => !bc.getD j false || match ops[j]? with
  | some o => o.after.all fun e => !Region.binds md e || bc.getD e.on false
  | none => true
def Region.Lw (md : Region.Mode) (ops : Array Oper) (bc : Array Bool) (ds : List Nat) (i : Nat) : Bool :=
 ds.all fun d => bc.getD d true || Region.mT md ops i ops.size d
def jH (md : Region.Mode) (ops : Array Oper) (bc : Array Bool) : Prop :=
 ∀ j oj, ops[j]? = some oj → bc.getD j false = true → ∀ e ∈ oj.after, Region.binds md e = true → bc.getD e.on false = true
theorem Region.D7 {bc : Array Bool} (h : Region.ur md ops bc = true) : jH md ops bc := by
 intro j oj hj hl e he hb
 have gS : j < ops.size := (Array.getElem?_eq_some_iff.1 hj).1
 have h1 := List.all_eq_true.1 h j (List.mem_range.2 gS)
 simp only [hl, hj, Bool.not_true, Bool.false_or] at h1
 have h2 := Array.all_eq_true_iff_forall_mem.1 h1 e he
 simpa [hb] using h2
theorem jH.set {bc : Array Bool} {i : Nat} (h : jH md ops bc) (hi : i ∈ Region.ready md ops bc) : jH md ops (bc.setIfInBounds i true) := by
 obtain ⟨_, oi, hoi, hX⟩ := mem_ready.1 hi
 intro j oj hj hl e he hb
 by_cases Vx : i = j
 ·subst Vx
  have : oj = oi := Option.some.inj (hj.symm.trans hoi)
  subst this
  exact getD_set_true (hX e he hb)
 ·rw [getD_set_ne false Vx] at hl
  exact getD_set_true (h j oj hj hl e he hb)
theorem Region.uu {bc : Array Bool} {i : Nat} (hc : jH md ops bc) : ∀ (dF d : Nat), Region.mT md ops i dF d = true → bc.getD d false = true → bc.getD i false = true
 | 0, _, h, _ => by simp [Region.mT] at h
 | dF + 1, d, h, hl => by
  unfold Region.mT at h
  cases ho : ops[d]? with
  | none => rw [ho] at h; simp at h
  | some o =>
   rw [ho] at h
   obtain ⟨e, he, h1⟩ := Array.any_eq_true'.1 h
   simp only [Bool.and_eq_true, Bool.or_eq_true, beq_iff_eq] at h1
   have hle := hc d o ho hl e he h1.1
   rcases h1.2 with h2 | h2
   ·rw [← h2]; exact hle
   ·exact Region.uu hc dF e.on h2 hle
theorem Region.xo {bc : Array Bool} {i d dF : Nat} (hc : jH md ops bc) (hr : Region.mT md ops i dF d = true) (Lx : bc.getD i true = false) : d ∉ Region.ready md ops bc := by
 intro hd
 obtain ⟨_, o, ho, hX⟩ := mem_ready.1 hd
 have hi : bc.getD i false = true := by
  cases dF with
  | zero => simp [Region.mT] at hr
  | succ n =>
   unfold Region.mT at hr
   rw [ho] at hr
   obtain ⟨e, he, h1⟩ := Array.any_eq_true'.1 hr
   simp only [Bool.and_eq_true, Bool.or_eq_true, beq_iff_eq] at h1
   have hle := hX e he h1.1
   rcases h1.2 with h2 | h2
   ·rw [← h2]; exact hle
   ·exact Region.uu hc n e.on h2 hle
 rcases Nat.lt_or_ge i bc.size with h' | h'
 ·simp [h'] at Lx hi
  rw [Lx] at hi
  cases hi
 ·simp [Array.getElem?_eq_none h'] at Lx
def bb (P : Program) (md : Region.Mode) (ops : Array Oper) (Q : Exit → Act → World → Prop) (S : World → Prop) (ds : List Nat) : Nat → Array Bool → Act → World → Prop
 | 0, bc, a, w => Region.ready md ops bc = [] ∧ Q .normal a w
 | dF + 1, bc, a, w =>
  (Region.ready md ops bc = [] → Q .normal a w) ∧
  ∀ i ∈ Region.ready md ops bc, wpOp P ops Q i (fun a' w' => (i ∉ ds → S w → S w') ∧ bb P md ops Q S ds dF (bc.setIfInBounds i true) a' w') a w
theorem tA : ∀ (dF : Nat) (bc : Array Bool) (a : Act) (w : World), bb P md ops Q S ds dF bc a w → wpAny P md ops Q dF bc a w
 | 0, _, _, _, h => h
 | dF + 1, _, _, _, h => ⟨h.1, fun i hi => wpOp_mono (fun a' w' h' => tA dF _ a' w' h'.2) (h.2 i hi)⟩
theorem xp {i : Nat} {oi : Oper} {v : Value} (hi : ops[i]? = some oi) (Rl : ∀ (j : Nat) (o : Oper) cs b, ops[j]? = some o → o.op ≠ .select cs b)
  (hQ : ∀ c a w, Q (.panic c) (a.put oi.dst v) w → Q (.panic c) a w) (n : Nat) :
  ∀ (dF : Nat) (bc : Array Bool) (a : Act) (w : World),
   (∀ j oj, ops[j]? = some oj → j ≠ i → bc.getD j true = false → (∀ e ∈ oj.after, Region.binds md e = true → e.on ≠ i) → oi.apart ops oj = true) →
   jH md ops bc → (∀ d ∈ ds, bc.getD d true = false → Region.mT md ops i n d = true) →
   i ∈ Region.ready md ops bc → YieldsIf P ops S oi v a → S w →
   bb P md ops Q S ds dF (bc.setIfInBounds i true) (a.put oi.dst v) w → bb P md ops Q S ds (dF + 1) bc a w := by
 intro dF
 induction dF with
 | zero =>
  intro bc a w _ _ _ hr hy hS H
  refine ⟨fun h => (by rw [h] at hr; cases hr), fun j hj => ?_⟩
  by_cases GC : j = i
  ·subst GC; exact hy.wpOp hi hS ⟨fun _ h => h, H⟩
  ·have := ready_mono hj GC
   rw [H.1] at this
   cases this
 | succ dF ih =>
  intro bc a w GD hc hd hr hy hS H
  refine ⟨fun h => (by rw [h] at hr; cases hr), fun j hj => ?_⟩
  by_cases GC : j = i
  ·subst GC; exact hy.wpOp hi hS ⟨fun _ h => h, H⟩
  ·have h1 := H.2 j (ready_mono hj GC)
   obtain ⟨JF, oj, hoj, hX⟩ := mem_ready.1 hj
   have OM := (mem_ready.1 hr).1
   have adG : ∀ e ∈ oj.after, Region.binds md e = true → e.on ≠ i := fun e he hb heq => by
    have h1 := hX e he hb
    rw [heq] at h1
    rcases Nat.lt_or_ge i bc.size with h' | h'
    ·simp [h'] at OM h1; rw [OM] at h1; cases h1
    ·simp [Array.getElem?_eq_none h'] at h1
   have hjd : j ∉ ds := fun hm => Region.xo hc (hd j hm JF) OM hj
   have h2 := wpOp_putIf hoj (GD j oj hoj GC JF adG) (fun cs b => Rl i oi cs b hi) (fun cs b => Rl j oj cs b hoj) hQ hy h1
   have JG : ∀ k ok, ops[k]? = some ok → k ≠ i → (bc.setIfInBounds j true).getD k true = false →
     (∀ e ∈ ok.after, Region.binds md e = true → e.on ≠ i) → oi.apart ops ok = true := fun k ok hk hki Lx tP => by
    refine GD k ok hk hki ?_ tP
    by_cases ZC : j = k
    ·subst ZC; exact JF
    ·rw [getD_set_ne true ZC] at Lx; exact Lx
   have hd' : ∀ d ∈ ds, (bc.setIfInBounds j true).getD d true = false → Region.mT md ops i n d = true := fun d hm Lx => by
    refine hd d hm ?_
    by_cases ZC : j = d
    ·subst ZC; exact JF
    ·rw [getD_set_ne true ZC] at Lx; exact Lx
   refine wpOp_mono (fun a' w' h3 => ⟨h3.2.1, ih (bc.setIfInBounds j true) a' w' JG (hc.set hj) hd' (ready_mono hr (Ne.symm GC)) h3.1 (h3.2.1 hjd hS) ?_⟩) h2
   rw [Array.setIfInBounds_comm _ _ GC]
   exact h3.2.2
theorem BI {i : Nat} {oi : Oper} {v : Value} (hi : ops[i]? = some oi) (Rl : ∀ (j : Nat) (o : Oper) cs b, ops[j]? = some o → o.op ≠ .select cs b)
  (hQ : ∀ c a w, Q (.panic c) (a.put oi.dst v) w → Q (.panic c) a w) :
  ∀ (dF : Nat) (bc : Array Bool) (a : Act) (w : World),
   (∀ j oj, ops[j]? = some oj → j ≠ i → bc.getD j true = false → (∀ e ∈ oj.after, Region.binds md e = true → e.on ≠ i) → oi.apart ops oj = true) →
   i ∈ Region.ready md ops bc → Yields P ops oi v a →
   bb P md ops Q S ds dF (bc.setIfInBounds i true) (a.put oi.dst v) w → bb P md ops Q S ds (dF + 1) bc a w := by
 intro dF
 induction dF with
 | zero =>
  intro bc a w _ hr hy H
  refine ⟨fun h => (by rw [h] at hr; cases hr), fun j hj => ?_⟩
  by_cases GC : j = i
  ·subst GC; exact (hy.yieldsIf (S := fun _ => True)).wpOp hi trivial ⟨fun _ h => h, H⟩
  ·have := ready_mono hj GC
   rw [H.1] at this
   cases this
 | succ dF ih =>
  intro bc a w GD hr hy H
  refine ⟨fun h => (by rw [h] at hr; cases hr), fun j hj => ?_⟩
  by_cases GC : j = i
  ·subst GC; exact (hy.yieldsIf (S := fun _ => True)).wpOp hi trivial ⟨fun _ h => h, H⟩
  ·have h1 := H.2 j (ready_mono hj GC)
   obtain ⟨JF, oj, hoj, hX⟩ := mem_ready.1 hj
   have OM := (mem_ready.1 hr).1
   have adG : ∀ e ∈ oj.after, Region.binds md e = true → e.on ≠ i := fun e he hb heq => by
    have h1 := hX e he hb
    rw [heq] at h1
    rcases Nat.lt_or_ge i bc.size with h' | h'
    ·simp [h'] at OM h1; rw [OM] at h1; cases h1
    ·simp [Array.getElem?_eq_none h'] at h1
   have h2 := wpOp_put hoj (GD j oj hoj GC JF adG) (fun cs b => Rl i oi cs b hi) (fun cs b => Rl j oj cs b hoj) hQ hy h1
   have JG : ∀ k ok, ops[k]? = some ok → k ≠ i → (bc.setIfInBounds j true).getD k true = false →
     (∀ e ∈ ok.after, Region.binds md e = true → e.on ≠ i) → oi.apart ops ok = true := fun k ok hk hki Lx tP => by
    refine GD k ok hk hki ?_ tP
    by_cases ZC : j = k
    ·subst ZC; exact JF
    ·rw [getD_set_ne true ZC] at Lx; exact Lx
   refine wpOp_mono (fun a' w' h3 => ⟨h3.2.1, ih (bc.setIfInBounds j true) a' w' JG (ready_mono hr (Ne.symm GC)) h3.1 ?_⟩) h2
   rw [Array.setIfInBounds_comm _ _ GC]
   exact h3.2.2
theorem zy {i : Nat} {oi : Oper} {v : Value} {dF : Nat} {bc : Array Bool} {a : Act} {w : World} (hi : ops[i]? = some oi)
  (hs : Region.noSelect ops = true) (hf : Region.free md ops bc i = true) (hr : (Region.ready md ops bc).contains i = true)
  (hc : Region.ur md ops bc = true) (hl : Region.Lw md ops bc ds i = true)
  (hQ : ∀ c a w, Q (.panic c) (a.put oi.dst v) w → Q (.panic c) a w) (hy : YieldsIf P ops S oi v a) (hS : S w)
  (h : bb P md ops Q S ds dF (bc.setIfInBounds i true) (a.put oi.dst v) w) : bb P md ops Q S ds (dF + 1) bc a w :=
 xp hi (Region.noSelect_spec hs) hQ ops.size dF bc a w (Region.free_spec hi hf) (Region.D7 hc)
  (fun d hm Lx => by have := List.all_eq_true.1 hl d hm; rw [Lx] at this; simpa using this) (by simpa using hr) hy hS h
theorem BJ {rs : List Nat} {dF : Nat} {bc : Array Bool} {a : Act} {w : World} (hr : Region.ready md ops bc = rs) (fv : rs ≠ [])
  (h : ∀ i ∈ rs, wpOp P ops Q i (fun a' w' => (i ∉ ds → S w → S w') ∧ bb P md ops Q S ds dF (bc.setIfInBounds i true) a' w') a w) : bb P md ops Q S ds (dF + 1) bc a w :=
 ⟨fun h0 => absurd (hr ▸ h0) fv, hr ▸ h⟩
theorem zz {bc : Array Bool} {a : Act} {w : World} (hr : Region.ready md ops bc = []) (h : Q .normal a w) :
  ∀ dF, bb P md ops Q S ds dF bc a w
 | 0 => ⟨hr, h⟩
 | _ + 1 => ⟨fun _ => h, by rw [hr]; simp⟩
theorem AA {id : Nat} {a : Act} {w : World} (hm : P.follows .mixedOrders = true)
  (h : bb P .any ops Q S ds ops.size (Array.replicate ops.size false) a { w with drawn := w.drawn + 1 }) : (Code.region id ops true).wp P Q a w :=
 wp_region_any hm (tA _ _ _ _ h)
end
section
variable {P : Program} {ops : Array Oper} {Q : Exit → Act → World → Prop} {md : Region.Mode} {S : World → Prop} {ds : List Nat}
def ie (P : Program) (md : Region.Mode) (ops : Array Oper) (Q : Exit → Act → World → Prop) (S : World → Prop) (ds : List Nat) (dF : Nat) (bc : Array Bool) (a : Act) (w : World) (rs : List Nat) : Prop :=
 ∀ i ∈ rs, wpOp P ops Q i (fun a' w' => (i ∉ ds → S w → S w') ∧ bb P md ops Q S ds dF (bc.setIfInBounds i true) a' w') a w
theorem ie.nil {dF : Nat} {bc : Array Bool} {a : Act} {w : World} : ie P md ops Q S ds dF bc a w [] := fun _ h => by cases h
theorem ie.cons {dF : Nat} {bc : Array Bool} {a : Act} {w : World} {i : Nat} {o : Oper} {rs : List Nat} (ho : ops[i]? = some o) (hd : i ∉ ds)
  (h : ∀ K' : Act → World → Prop, Shut (∀ a w, S w → (S w → bb P md ops Q S ds dF (bc.setIfInBounds i true) a w) → K' a w) → if Region.wanted o (yielded ops a.tmps) = true then Oper.wp P o a w K' Q else K' (a.put o.dst undef) w)
  (hs : ie P md ops Q S ds dF bc a w rs) : ie P md ops Q S ds dF bc a w (i :: rs) := fun j hj => by
 rcases List.mem_cons.1 hj with rfl | hj
 ·exact wpOp_step ho (fun K' hK => h K' (fun a w hS hW => hK a w ⟨fun _ _ => hS, hW hS⟩))
 ·exact hs j hj
theorem qy {rs : List Nat} {dF : Nat} {bc : Array Bool} {a : Act} {w : World} (hr : Region.ready md ops bc = rs) (fv : rs ≠ [])
  (h : ie P md ops Q S ds dF bc a w rs) : bb P md ops Q S ds (dF + 1) bc a w := BJ hr fv h
theorem fA {id n : Nat} {a : Act} {w : World} (l : Array Bool) (hm : P.follows .mixedOrders = true) (hn : ops.size = n) (hl : Array.replicate n false = l) (hS : S w.drew)
  (h : S w.drew → bb P .any ops Q S ds n l a w.drew) : (Code.region id ops true).wp P Q a w := by
 subst hn
 subst hl
 exact AA hm (h hS)
def GF (md : Region.Mode) (ops : Array Oper) (ds : List Nat) (l l' : Array Bool) (i : Nat) : Bool :=
 Region.noSelect ops && Region.free md ops l i && (Region.ready md ops l).contains i && Region.ur md ops l && Region.Lw md ops l ds i && (l.setIfInBounds i true == l')
theorem tf {i : Nat} {N : Option Tmp} {oi : Oper} {v : Value} {dF : Nat} {l : Array Bool} {a : Act} {w : World} (l' : Array Bool) (hi : ops[i]? = some oi) (hN : oi.dst = N) (hc : GF md ops ds l l' i = true)
  (hQ : ∀ c a w, Q (.panic c) (a.put oi.dst v) w → Q (.panic c) a w) (hy : YieldsIf P ops S oi v a) (hS : S w) {a' : Act} (ha : a.put N v = a')
  (h : bb P md ops Q S ds dF l' a' w) : bb P md ops Q S ds (dF + 1) l a w := by
 subst ha
 subst hN
 simp only [GF, Bool.and_eq_true, beq_iff_eq] at hc
 obtain ⟨⟨⟨⟨⟨h1, h2⟩, h3⟩, h4⟩, h5⟩, h6⟩ := hc
 subst h6
 exact zy hi h1 h2 h3 h4 h5 hQ hy hS h
def Vy (md : Region.Mode) (ops : Array Oper) (l l' : Array Bool) (i : Nat) : Bool :=
 Region.noSelect ops && Region.free md ops l i && (Region.ready md ops l).contains i && (l.setIfInBounds i true == l')
theorem Lj {i : Nat} {N : Option Tmp} {oi : Oper} {v : Value} {dF : Nat} {l : Array Bool} {a : Act} {w : World} (l' : Array Bool) (hi : ops[i]? = some oi) (hN : oi.dst = N) (hc : Vy md ops l l' i = true)
  (hQ : ∀ c a w, Q (.panic c) (a.put oi.dst v) w → Q (.panic c) a w) (hy : Yields P ops oi v a) {a' : Act} (ha : a.put N v = a')
  (h : bb P md ops Q S ds dF l' a' w) : bb P md ops Q S ds (dF + 1) l a w := by
 subst ha
 subst hN
 simp only [Vy, Bool.and_eq_true, beq_iff_eq] at hc
 obtain ⟨⟨⟨h1, h2⟩, h3⟩, h6⟩ := hc
 subst h6
 exact BI hi (Region.noSelect_spec h1) hQ dF l a w (Region.free_spec hi h2) (by simpa using h3) hy h
def D8 (md : Region.Mode) (ops : Array Oper) (l l' : Array Bool) (i : Nat) : Bool := (Region.ready md ops l == [i]) && (l.setIfInBounds i true == l')
theorem R0 {i : Nat} {N : Option Tmp} {oi : Oper} {dF : Nat} {l : Array Bool} {a : Act} {w : World} (l' : Array Bool) (hi : ops[i]? = some oi) (hN : oi.dst = N) (hc : D8 md ops l l' i = true) (hd : i ∉ ds)
  (h : ∀ K : Act → World → Prop, Shut (∀ a' w', S w' → (S w' → bb P md ops Q S ds dF l' a' w') → K a' w') → if Region.wanted oi (yielded ops a.tmps) = true then Oper.wp P oi a w K Q else K (a.put N undef) w) :
  bb P md ops Q S ds (dF + 1) l a w := by
 subst hN
 simp only [D8, Bool.and_eq_true, beq_iff_eq] at hc
 obtain ⟨h1, h2⟩ := hc
 subst h2
 exact qy h1 (by simp) (ie.cons hi hd (fun K hK => h K hK) ie.nil)
theorem R3 {l : Array Bool} {a : Act} {w : World} {n : Nat} (hr : (Region.ready md ops l == []) = true) (h : Q .normal a w) : bb P md ops Q S ds n l a w := zz (by simpa using hr) h n
theorem are {i j : Nat} {Ni Nj : Option Tmp} {oi oj : Oper} {dF : Nat} {l : Array Bool} {a : Act} {w : World} (li lj : Array Bool) (hi : ops[i]? = some oi) (hj : ops[j]? = some oj) (hNi : oi.dst = Ni) (hNj : oj.dst = Nj)
  (hc : (Region.ready md ops l == [i, j] && l.setIfInBounds i true == li && l.setIfInBounds j true == lj) = true) (hdi : i ∉ ds) (hdj : j ∉ ds)
  (h1 : ∀ K : Act → World → Prop, Shut (∀ a' w', S w' → (S w' → bb P md ops Q S ds dF li a' w') → K a' w') → if Region.wanted oi (yielded ops a.tmps) = true then Oper.wp P oi a w K Q else K (a.put Ni undef) w)
  (h2 : ∀ K : Act → World → Prop, Shut (∀ a' w', S w' → (S w' → bb P md ops Q S ds dF lj a' w') → K a' w') → if Region.wanted oj (yielded ops a.tmps) = true then Oper.wp P oj a w K Q else K (a.put Nj undef) w) :
  bb P md ops Q S ds (dF + 1) l a w := by
 subst hNi
 subst hNj
 simp only [Bool.and_eq_true, beq_iff_eq] at hc
 obtain ⟨⟨h3, h4⟩, h5⟩ := hc
 subst h4
 subst h5
 exact qy h3 (by simp) (ie.cons hi hdi (fun K hK => h1 K hK) (ie.cons hj hdj (fun K hK => h2 K hK) ie.nil))
def wH : Act → List (Tmp × Value) → Act
 | a, [] => a
 | a, (n, v) :: r => wH (a.put (some n) v) r
theorem ajW {σ : Type} {dF : Nat} {l : Array Bool} {a : Act} {w : World} (ZD : Nat) (l' : Array Bool) (ns : σ → List (Tmp × Value)) (F : σ → World → Prop)
  (akC : ∀ s w', F s w' → bb P md ops Q S ds ZD l' (wH a (ns s)) w')
  (h : (∀ s w', F s w' → bb P md ops Q S ds ZD l' (wH a (ns s)) w') → bb P md ops Q S ds dF l a w) : bb P md ops Q S ds dF l a w := h akC
theorem Li {dF : Nat} {l : Array Bool} {a a' : Act} {w : World} (ha : a = a') (h : bb P md ops Q S ds dF l a' w) : bb P md ops Q S ds dF l a w := by
 subst ha
 exact h
theorem akD {oi : Oper} {N : Option Tmp} {a : Act} {w : World} {K : Act → World → Prop} (f : FuncId) (args : Array Value) (hw : Region.wanted oi (yielded ops a.tmps) = true) (hN : oi.dst = N) (jP : (execOp a.eval oi).run P w = .ok (.enter f args) w)
  (h : Calls P f args w fun e w' => ∃ v, e = .returned v ∧ K (a.put N v) w') : if Region.wanted oi (yielded ops a.tmps) = true then Oper.wp P oi a w K Q else K (a.put N undef) w := by
 rw [if_pos hw]
 subst hN
 unfold Oper.wp
 rw [jP, Oper.upon_enter]
 refine h.mono fun e w'' hh => ?_
 obtain ⟨v, rfl, hk⟩ := hh
 exact hk
theorem Ly {f : FuncId} {fn : Func} (hf : P.funcs[f]? = some fn) (uv : (fn.name == "runtime.NumGoroutine") = false) (hb : fn.body.isSome = true) (args : Array Value) (w : World) : (callFunc f args).run P w = .ok (.enter f args) w := by
 have h1 : fn.name ≠ "runtime.NumGoroutine" := by simpa using uv
 obtain ⟨c, hc⟩ := Option.isSome_iff_exists.1 hb
 simp [callFunc, hf, h1, hc]
theorem B_ {oi : Oper} {N : Option Tmp} {a : Act} {w : World} {K : Act → World → Prop} {f : FuncId} {fn : Func} {as : Array Operand} {ts : Array TypeId} (hf : P.funcs[f]? = some fn) (uv : (fn.name == "runtime.NumGoroutine") = false) (hb : fn.body.isSome = true) (args : Array Value)
  (hw : Region.wanted oi (yielded ops a.tmps) = true) (hN : oi.dst = N) (hop : oi.op = .call { callee := .value (.func f), args := as, argTypes := ts }) (xH : as.map a.eval = args)
  (h : Calls P f args w fun e w' => ∃ v, e = .returned v ∧ K (a.put N v) w') : if Region.wanted oi (yielded ops a.tmps) = true then Oper.wp P oi a w K Q else K (a.put N undef) w := by
 refine akD f args hw hN ?_ h
 have he := Ly hf uv hb args w
 unfold execOp
 simp [hop, resolve, Deferred.ofValue, invoke, Act.eval, xH, he]
theorem adI {rest : List Oper} {oi : Oper} {a : Act} {w : World} (N : Option Tmp) (hd : oi.dst = N) (hg : oi.guard = none) {f : FuncId} {fn : Func} {as : Array Operand} {ts : Array TypeId} (hf : P.funcs[f]? = some fn) (uv : (fn.name == "runtime.NumGoroutine") = false) (hb : fn.body.isSome = true) (args : Array Value)
  (hop : oi.op = .call { callee := .value (.func f), args := as, argTypes := ts }) (xH : as.map a.eval = args)
  (h : Calls P f args w fun e w' => ∃ v, e = .returned v ∧ wpList P ops Q rest (a.put N v) w') : wpList P ops Q (oi :: rest) a w := by
 refine wpList_plain hg fun K hK => ?_
 have he := Ly hf uv hb args w
 have jP : (execOp a.eval oi).run P w = .ok (.enter f args) w := by
  unfold execOp
  simp [hop, resolve, Deferred.ofValue, invoke, Act.eval, xH, he]
 unfold Oper.wp
 rw [jP, Oper.upon_enter]
 refine h.mono fun e w'' hh => ?_
 obtain ⟨v, rfl, hk⟩ := hh
 subst hd
 exact hK _ _ hk
theorem rP {oi : Oper} {N : Option Tmp} {a : Act} {w w1 : World} {v : Value} {K : Act → World → Prop} (hw : Region.wanted oi (yielded ops a.tmps) = true) (hN : oi.dst = N) (jP : (execOp a.eval oi).run P w = .ok (.value v) w1)
  (h : K (a.put N v) w1) : if Region.wanted oi (yielded ops a.tmps) = true then Oper.wp P oi a w K Q else K (a.put N undef) w := by
 rw [if_pos hw]
 subst hN
 unfold Oper.wp
 rw [jP]
 exact h
theorem gn (n : Int) : IntKind.i64.wrap n = Go.RowKit.wrap64 n := by unfold Go.RowKit.wrap64; exact IntKind.wrap_i64 n
theorem oG (n : Int) : IntKind.i32.wrap n = Go.RowKit.wrap32 n := by unfold Go.RowKit.wrap32; exact IntKind.wrap_i32 n
end
end Go.Proofs.YtggiicplcglalaaGreatW.PrintLast
end
section
namespace Go.Proofs.YtggiicplcglalaaGreatW.PrintLast
open YtggiicplcglalaaGreatW.PrintWords (Aside0)
def sI (md : Region.Mode) (o : Oper) : List Nat := (o.after.toList.filter (fun e => Region.binds md e)).map (fun e => e.on)
def D9 (md : Region.Mode) (ops : Array Oper) (i : Nat) (oi : Oper) : List Nat := (List.range ops.size).filter fun j => !(j == i) && match ops[j]? with
 | some oj => !(oj.after.any (fun e => Region.binds md e && e.on == i) || oi.apart ops oj)
 | none => false
def fh (md : Region.Mode) (ops : Array Oper) : Bool × List (List Nat × List Nat) := (Region.noSelect ops, (List.range ops.size).map fun i => match ops[i]? with
 | some o => (sI md o, D9 md ops i o)
 | none => ([], []))
def ln (T : List (List Nat × List Nat)) (l : List Bool) (i : Nat) : Bool := !l.getD i true && match T[i]? with
 | some r => r.1.all (fun j => l.getD j false)
 | none => false
def od (T : List (List Nat × List Nat)) (l : List Bool) : List Nat := (List.range T.length).filter (ln T l)
def GG (T : List (List Nat × List Nat)) (l : List Bool) (i : Nat) : Bool := match T[i]? with
 | some r => r.2.all (fun j => l.getD j true)
 | none => false
def yZ (T : List (List Nat × List Nat)) (l : List Bool) : Bool := (List.range T.length).all fun j => !l.getD j false || match T[j]? with
 | some r => r.1.all (fun k => l.getD k false)
 | none => true
def wL (T : List (List Nat × List Nat)) (i : Nat) : Nat → Nat → Bool
 | 0, _ => false
 | dF + 1, d => match T[d]? with
  | some r => r.1.any fun j => j == i || wL T i dF j
  | none => false
def Lz (T : List (List Nat × List Nat)) (l : List Bool) (ds : List Nat) (i : Nat) : Bool := ds.all fun d => l.getD d true || wL T i T.length d
section
variable {md : Region.Mode} {ops : Array Oper} {T : Bool × List (List Nat × List Nat)} {l l' li lj lk : Array Bool} {ds : List Nat} {i j k : Nat}
theorem gd (l : Array Bool) (j : Nat) (b : Bool) : l.getD j b = l.toList.getD j b := by simp [Array.getD_eq_getD_getElem?, List.getD_eq_getElem?_getD]
theorem Bw (o : Oper) (p : Nat → Bool) : o.after.all (fun e => !Region.binds md e || p e.on) = (sI md o).all p := by
 unfold sI
 rw [← Array.all_toList]
 induction o.after.toList with
 | nil => rfl
 | cons e r ih =>
  rw [List.all_cons, ih, List.filter_cons]
  cases h : Region.binds md e <;> simp
theorem ON (o : Oper) (p : Nat → Bool) : o.after.any (fun e => Region.binds md e && p e.on) = (sI md o).any p := by
 unfold sI
 rw [← Array.any_toList]
 induction o.after.toList with
 | nil => rfl
 | cons e r ih =>
  rw [List.any_cons, ih, List.filter_cons]
  cases h : Region.binds md e <;> simp
theorem oS : (fh md ops).2.length = ops.size := by simp [fh]
theorem sJ {o : Oper} (h : ops[i]? = some o) : (fh md ops).2[i]? = some (sI md o, D9 md ops i o) := by
 have hi := (Array.getElem?_eq_some_iff.1 h).1
 unfold fh
 rw [List.getElem?_map, List.getElem?_range hi, Option.map_some, h]
theorem sK (h : ops[i]? = none) : (fh md ops).2[i]? = none := by
 have hi : ops.size ≤ i := Array.getElem?_eq_none_iff.1 h
 exact List.getElem?_eq_none (by rw [oS]; exact hi)
theorem JH : ln (fh md ops).2 l.toList i = (!l.getD i true && ((ops[i]?).map (·.after.all fun e => !Region.binds md e || l.getD e.on false)).getD false) := by
 unfold ln
 rw [gd]
 cases h : ops[i]? with
 | none => rw [sK h]; rfl
 | some o =>
  rw [sJ h]
  simp only [Option.map_some, Option.getD_some]
  rw [← Bw]
  simp only [gd]
theorem pQ : Region.ready md ops l = od (fh md ops).2 l.toList := by
 unfold Region.ready od
 rw [oS]
 refine List.filter_congr (fun i _ => ?_)
 rw [JH]
theorem MA : Region.free md ops l i = GG (fh md ops).2 l.toList i := by
 unfold Region.free GG
 cases h : ops[i]? with
 | none => rw [sK h]
 | some oi =>
  rw [sJ h]
  simp only [D9]
  rw [List.all_filter]
  congr 1
  funext j
  rw [gd]
  cases hj : ops[j]? with
  | none => cases (j == i) <;> cases (l.toList.getD j true) <;> simp
  | some oj =>
   cases (j == i) <;> cases (l.toList.getD j true) <;> cases (oj.after.any (fun e => Region.binds md e && e.on == i) || oi.apart ops oj) <;> simp_all
theorem OO : Region.ur md ops l = yZ (fh md ops).2 l.toList := by
 unfold Region.ur yZ
 rw [oS]
 congr 1
 funext j
 rw [gd]
 cases h : ops[j]? with
 | none => rw [sK h]
 | some o =>
  rw [sJ h]
  simp only
  rw [← Bw]
  simp only [gd]
theorem GH : ∀ (dF d : Nat), Region.mT md ops i dF d = wL (fh md ops).2 i dF d
 | 0, _ => rfl
 | dF + 1, d => by
  unfold Region.mT wL
  cases h : ops[d]? with
  | none => rw [sK h]
  | some o =>
   rw [sJ h]
   simp only
   rw [← ON]
   congr 1
   funext e
   rw [GH dF]
theorem Vz : Region.Lw md ops l ds i = Lz (fh md ops).2 l.toList ds i := by
 unfold Region.Lw Lz
 rw [oS]
 congr 1
 funext d
 rw [gd, GH]
theorem xI (h : ln T.2 l.toList i = true) (hT : fh md ops = T) : (Region.ready md ops l).contains i = true := by
 subst hT
 rw [pQ]
 unfold od
 rw [List.contains_iff_mem, List.mem_filter, List.mem_range]
 refine ⟨?_, h⟩
 unfold ln at h
 rw [Bool.and_eq_true] at h
 cases hq : (fh md ops).2[i]? with
 | none => rw [hq] at h; simp at h
 | some r => exact (List.getElem?_eq_some_iff.1 hq).1
theorem AB (h : (l.toList.set i true == l'.toList) = true) : (l.setIfInBounds i true == l') = true := by
 rw [beq_iff_eq] at h ⊢
 apply Array.ext'
 rw [Array.toList_setIfInBounds]
 exact h
def WA (T : Bool × List (List Nat × List Nat)) (l l' : List Bool) (i : Nat) : Bool := T.1 && GG T.2 l i && ln T.2 l i && (l.set i true == l')
theorem Rm (hT : fh md ops = T) (h : WA T l.toList l'.toList i = true) : Vy md ops l l' i = true := by
 simp only [WA, Bool.and_eq_true] at h
 obtain ⟨⟨⟨h1, h2⟩, h3⟩, h4⟩ := h
 have h5 := xI h3 hT
 have h6 := AB h4
 subst hT
 simp only [Vy, Bool.and_eq_true]
 exact ⟨⟨⟨h1, by rw [MA]; exact h2⟩, h5⟩, h6⟩
def Rn (T : Bool × List (List Nat × List Nat)) (ds : List Nat) (l l' : List Bool) (i : Nat) : Bool := T.1 && GG T.2 l i && ln T.2 l i && yZ T.2 l && Lz T.2 l ds i && (l.set i true == l')
theorem WB (hT : fh md ops = T) (h : Rn T ds l.toList l'.toList i = true) : GF md ops ds l l' i = true := by
 simp only [Rn, Bool.and_eq_true] at h
 obtain ⟨⟨⟨⟨⟨h1, h2⟩, h3⟩, h4⟩, h5⟩, h6⟩ := h
 have h7 := xI h3 hT
 have h8 := AB h6
 subst hT
 simp only [GF, Bool.and_eq_true]
 exact ⟨⟨⟨⟨⟨h1, by rw [MA]; exact h2⟩, h7⟩, by rw [OO]; exact h4⟩, by rw [Vz]; exact h5⟩, h8⟩
theorem adJ (hT : fh md ops = T) (h : (od T.2 l.toList == [i] && l.toList.set i true == l'.toList) = true) : D8 md ops l l' i = true := by
 simp only [Bool.and_eq_true] at h
 obtain ⟨h1, h2⟩ := h
 subst hT
 simp only [D8, Bool.and_eq_true]
 exact ⟨by rw [pQ]; exact h1, AB h2⟩
theorem adl (hT : fh md ops = T) (h : (od T.2 l.toList == [i, j] && l.toList.set i true == li.toList && l.toList.set j true == lj.toList) = true) : (Region.ready md ops l == [i, j] && l.setIfInBounds i true == li && l.setIfInBounds j true == lj) = true := by
 simp only [Bool.and_eq_true] at h ⊢
 obtain ⟨⟨h1, h2⟩, h3⟩ := h
 subst hT
 exact ⟨⟨by rw [pQ]; exact h1, AB h2⟩, AB h3⟩
theorem WC (hT : fh md ops = T) (h : (od T.2 l.toList == []) = true) : (Region.ready md ops l == []) = true := by
 subst hT
 rw [pQ]
 exact h
def Oz (B : List Nat) (d : Nat) : List Nat → Nat
 | [] => 0
 | n :: r => (2 ^ n ||| (if n < d then B.getD n 0 else 0)) ||| Oz B d r
def fG (T : List (List Nat × List Nat)) (B : List Nat) : Bool := (List.range T.length).all fun d => match T[d]? with
 | some r => (B.getD d 0 ||| Oz B d r.1) == Oz B d r.1
 | none => false
theorem qc {B : List Nat} {d i : Nat} : ∀ {ns : List Nat}, (Oz B d ns).testBit i = true → ∃ n ∈ ns, n = i ∨ (n < d ∧ (B.getD n 0).testBit i = true)
 | [], h => by simp [Oz] at h
 | n :: r, h => by
  unfold Oz at h
  rw [Nat.testBit_or, Nat.testBit_or, Bool.or_eq_true, Bool.or_eq_true] at h
  rcases h with (h | h) | h
  ·rw [Nat.testBit_two_pow] at h
   exact ⟨n, List.mem_cons_self, .inl (by simpa using h)⟩
  ·by_cases hn : n < d
   ·rw [if_pos hn] at h
    exact ⟨n, List.mem_cons_self, .inr ⟨hn, h⟩⟩
   ·rw [if_neg hn] at h
    simp at h
  ·obtain ⟨m, hm, h2⟩ := qc h
   exact ⟨m, List.mem_cons_of_mem _ hm, h2⟩
theorem Bx {T : List (List Nat × List Nat)} {B : List Nat} (hB : fG T B = true) : ∀ (dF d : Nat), d < dF → d < T.length → (B.getD d 0).testBit i = true → wL T i dF d = true
 | 0, d, h, _, _ => by omega
 | dF + 1, d, h, hd, hb => by
  have h1 := List.all_eq_true.1 hB d (List.mem_range.2 hd)
  cases hr : T[d]? with
  | none => rw [hr] at h1; simp at h1
  | some r =>
   rw [hr] at h1
   simp only [beq_iff_eq] at h1
   have h2 : (Oz B d r.1).testBit i = true := by rw [← h1, Nat.testBit_or, hb, Bool.true_or]
   obtain ⟨n, hn, h3⟩ := qc h2
   unfold wL
   rw [hr]
   simp only
   rw [List.any_eq_true]
   refine ⟨n, hn, ?_⟩
   rcases h3 with rfl | ⟨h4, h5⟩
   ·simp
   ·rw [Bx hB dF n (by omega) (by omega) h5, Bool.or_true]
def ZE (T : List (List Nat × List Nat)) (B : List Nat) (l : List Bool) (ds : List Nat) (i : Nat) : Bool := ds.all fun d => l.getD d true || (decide (d < T.length) && (B.getD d 0).testBit i)
def Ro (T : Bool × List (List Nat × List Nat)) (B : List Nat) (ds : List Nat) (l l' : List Bool) (i : Nat) : Bool := T.1 && GG T.2 l i && ln T.2 l i && yZ T.2 l && ZE T.2 B l ds i && (l.set i true == l')
theorem F_ {B : List Nat} (hT : fh md ops = T) (hB : fG T.2 B = true) (h : Ro T B ds l.toList l'.toList i = true) : GF md ops ds l l' i = true := by
 refine WB hT ?_
 simp only [Ro, Rn, Bool.and_eq_true] at h ⊢
 obtain ⟨⟨⟨⟨⟨h1, h2⟩, h3⟩, h4⟩, h5⟩, h6⟩ := h
 refine ⟨⟨⟨⟨⟨h1, h2⟩, h3⟩, h4⟩, ?_⟩, h6⟩
 unfold ZE at h5
 unfold Lz
 rw [List.all_eq_true] at h5 ⊢
 intro d hd
 have h7 := h5 d hd
 rw [Bool.or_eq_true, Bool.and_eq_true, decide_eq_true_eq] at h7
 rcases h7 with h7 | ⟨h8, h9⟩
 ·rw [h7, Bool.true_or]
 ·rw [Bx hB _ d h8 h8 h9, Bool.or_true]
theorem cv {P : Program} {Q : Exit → Act → World → Prop} {S : World → Prop} {n : Nat} {a : Act} {w : World} {B : List Nat} (hT : fh md ops = T) (hB : fG T.2 B = true) (h : Aside0 (fh md ops = T) → Aside0 (fG T.2 B = true) → bb P md ops Q S ds n l a w) : bb P md ops Q S ds n l a w := h ⟨hT⟩ ⟨hB⟩
end
def tB : Code → Nat → Option (Array Oper)
 | .region id ops _, k => if id == k then some ops else none
 | .seq a b, k => match tB a k with
  | some o => some o
  | none => tB b k
 | .cond _ a b, k => match tB a k with
  | some o => some o
  | none => tB b k
 | .block _ c, k => tB c k
 | .loop c, k => tB c k
 | .scope c, k => tB c k
 | .rangeFunc _ _ a b, k => match tB a k with
  | some o => some o
  | none => tB b k
 | _, _ => none
def opsOf (f : Func) (k : Nat) : Array Oper := ((f.body.bind fun c => tB c k)).getD #[]
end Go.Proofs.YtggiicplcglalaaGreatW.PrintLast
end
namespace Kd
end Kd
section
namespace Go.Proofs.YtggiicplcglalaaGreatW.PrintWords
open Go.RowKit
namespace Kd
def tag {α : Type} (f : Nat → Nat) (d : Kd α) : Kd (α × Nat) where
 sz := d.sz
 E := d.E
 K := fun w x cs => d.K w x.1 cs
 M := fun w base ok x cs => d.M w base (fun k => ok k ∧ f k = x.2) x.1 cs
 jb := fun h => d.jb h
 iU := fun h => d.iU h
 iv := fun hb h => d.iv hb h
 ep := fun h => d.ep h
 dt := fun gr h => d.dt (fun k hk => ⟨gr k hk.1, hk.2⟩) h
 fU := fun h => d.dt (fun _ hk => ⟨⟨hk.1.1, hk.2⟩, hk.1.2⟩) (d.fU h)
 gU := fun hm h => d.gU (fun k hk => hm k hk.1) h
 iw := fun hb h => d.iw hb h
def bare {α : Type} (d : Kd α) : Kd α where
 sz := d.sz
 E := d.E
 K := d.K
 M := fun w base _ x cs => d.M w base (fun _ => False) x cs
 jb := fun h => d.jb h
 iU := fun h => d.iU h
 iv := fun hb h => d.iv hb h
 ep := fun h => d.ep h
 dt := fun _ h => h
 fU := fun h => h
 gU := fun _ h => d.gU (fun _ hk => hk.elim) h
 iw := fun hb h => d.iw hb h
def raw (sz : Nat) : Kd (List Value) where
 sz := sz
 E := []
 K := fun _ x cs => cs = x ∧ cs.length = sz ∧ ∀ u ∈ cs, u.oneCell' = true
 M := fun _ _ _ x cs => cs = x ∧ cs.length = sz ∧ ∀ u ∈ cs, u.oneCell' = true
 jb := fun h => h.2.1
 iU := fun h => h.2.2
 iv := fun _ h => h
 ep := fun h => h
 dt := fun _ h => h
 fU := fun h => h
 gU := fun _ h => h
 iw := fun _ h => h
def S {α : Type} (d : Kd α) (e : Nat) (w : World) (base : Nat) (ok : Nat → Prop) (v : Value) (xs : List α) : Prop := ∃ f, (tag f d).R e w base ok v xs.zipIdx
section
variable {α β : Type} {d : Kd α} {d' : Kd β} {e e' : Nat} {w w1 W : World} {base b : Nat} {ok ok' okv oku : Nat → Prop} {u v : Value} {xs : List α} {ys : List β}
theorem oe {xs : List α} {j : Nat} {p : α} (h : xs[j]? = some p) : xs.zipIdx[j]? = some (p, j) := by rw [List.getElem?_zipIdx, h, Nat.zero_add]; rfl
theorem Rp (h : S d e w base ok v xs) : d.R e w base ok v xs := by
 obtain ⟨f, h0, inner, ho, hr⟩ := h
 rw [List.length_zipIdx] at ho
 exact ⟨h0, inner, ho, by have := hr.1; rw [List.length_zipIdx] at this; exact this, fun j p hj => d.dt (fun _ hk => hk.1) (hr.2 j (p, j) (oe hj))⟩
theorem Rq {ad : Addr} {n cap : Nat} (h : d.R e w base ok (.slice (some ad) n cap) xs) : ∃ g, ad = ⟨g, 0, none⟩ := by
 obtain ⟨_, inner, ho, hr⟩ := h
 rcases ho.2 with ⟨hv, _⟩ | ⟨g, aan, cur, hv, _⟩
 ·cases hv
 ·injection hv with ha _ _
  injection ha with ha
  exact ⟨g, ha⟩
theorem adK {ad : Addr} {n cap : Nat} (h : d.R e W base ok (.slice (some ad) n cap) xs) (z : α) (i : Int) (h0 : 0 ≤ i) (h1 : i < n) :
  ∃ c, c.length = d.sz ∧ d.M W base (fun k => ok k ∧ some k ≠ (Value.slice (some ad) n cap).ownBlock) (xs.getD i.toNat z) c ∧ ∀ j u, c[j]? = some u → W.cell? (ad.add (i.toNat * d.sz + j)) = some u := by
 obtain ⟨g, rfl⟩ := Rq h
 obtain ⟨c, t_, hM, wa, _⟩ := H7 h z i h0 h1
 refine ⟨c, t_, d.dt (fun k hk => ⟨hk.1, fun he => hk.2 (by simpa [Value.ownBlock] using he)⟩) hM, fun j u hu => ?_⟩
 rw [PL, Nat.zero_add]
 exact wa j u hu
theorem jr (hE : d.E = []) (h : d.R e w base ok v xs) : d.R e w base (fun k => some k = v.ownBlock) v xs := by
 obtain ⟨h0, inner, ho, hr⟩ := h
 refine ⟨fun k hk => hk.symm, inner, ho, hr.o6 (fun p c hp => d.dt (fun k hk => ?_) (d.fU hp))⟩
 obtain ⟨_, _, _, q, hq, _⟩ := hk
 rw [hE] at hq
 cases hq
theorem Bc (d : Kd α) (e : Nat) (w : World) (base : Nat) (ok : Nat → Prop) : S d e w base ok (.slice none 0 0) [] := ⟨fun _ => 0, mV _ _ _ _ _⟩
theorem cJ (h : S d e w base ok v xs) (gr : ∀ k, ok k → ok' k) : S d e w base ok' v xs := by
 obtain ⟨f, h⟩ := h
 exact ⟨f, bD h gr⟩
theorem sL (h : S d e w base ok v xs) : S d e w base (fun k => ok k ∧ base ≤ k ∧ k < w.heap.size ∧ ∃ q, q ∈ e :: d.E ∧ ∃ cells, w.heap[k]? = some (.cells cells q (0, 0))) v xs := by
 obtain ⟨f, h⟩ := h
 exact ⟨f, jX h⟩
theorem adL (h : S d e w base ok v xs) (hm : ∀ k, ok k → w1.heap[k]? = w.heap[k]?) : S d e w1 base ok v xs := by
 obtain ⟨f, h⟩ := h
 exact ⟨f, vl h hm⟩
theorem gI {base' : Nat} (h : S d e w base ok v xs) (hb : base' ≤ base) : S d e w base' ok v xs := by
 obtain ⟨f, h⟩ := h
 exact ⟨f, cO h hb⟩
theorem JI (h : S d e w base ok v xs) (hm : ∀ k, ok k → k < w.heap.size → w1.heap[k]? = w.heap[k]?) : S d e w1 base ok v xs :=
 cJ (adL (sL h) (fun k hk => hm k hk.1 hk.2.2.1)) (fun _ hk => hk.1)
theorem dm (h : S d e w base ok v xs) (hb : Below w.heap.size w w1) : S d e w1 base ok v xs := JI h (fun k _ hk => hb.block k hk)
theorem iS (h : S d e w base ok v xs) (o : Obj) : S d e (w.alloc o) base ok v xs := dm h (eV (Below.refl _ _) o)
theorem gw (h : S d e w base ok v xs) : S d e w.drew base ok v xs := dm h (lY (Below.refl _ _))
theorem iT (h : S d e w base ok v xs) (m : Nat) : S d e (w.drewN m) base ok v xs := dm h (dN (Below.refl _ _) m)
theorem jJ (h : S d e w base ok v xs) {p : Addr} (gr : ∀ k, ok k → k ≠ p.block) (u : Value) : S d e (w.setCell p u) base ok v xs := JI h (fun k ho _ => Below.heap_setCell w p u k (gr k ho))
theorem jF (h : S d e w base ok v xs) {g t : Nat} {cells : Array Value} (hb : w.heap[g]? = some (.cells cells t (0, 0))) (ht : ∀ q, q ∈ e :: d.E → q ≠ t) : S d e w base (fun k => ok k ∧ k ≠ g) v xs := by
 obtain ⟨f, h⟩ := h
 exact ⟨f, dL h hb ht⟩
theorem jq (h : S d e w base ok v xs) : ∀ k, v.ownBlock = some k → ∃ cells, w.heap[k]? = some (.cells cells e (0, 0)) := KC (Rp h)
theorem sX (h : S d e w base ok v xs) : ∀ k, v.ownBlock = some k → k < w.heap.size := iH (Rp h)
theorem kV (h : S d e w base ok v xs) : ∀ k, v.ownBlock = some k → base ≤ k := bf (Rp h)
theorem Tz (h : S d e W base ok u xs) (hty : ∀ k, v.ownBlock = some k → ∃ cells, W.heap[k]? = some (.cells cells e' (0, 0))) (ht : ∀ q, q ∈ e :: d.E → q ≠ e') (hg : W.grownBy w1 v.ownBlock) : S d e w1 base ok u xs := by
 obtain ⟨f, h⟩ := h
 exact ⟨f, ph h hty ht hg⟩
theorem jI (h : S d e W base ok u xs) (cP : ∀ k, v.ownBlock = some k → W.heap.size ≤ k) (hb : Below W.heap.size W w1) : S d e w1 base (fun k => ok k ∧ some k ≠ v.ownBlock) u xs := by
 obtain ⟨f, h⟩ := h
 exact ⟨f, gV h cP hb⟩
theorem kE (h : S d e w1 W.heap.size ok v xs) (gS : ∀ k, u.ownBlock = some k → k < W.heap.size) : S d e w1 W.heap.size (fun k => ok k ∧ some k ≠ u.ownBlock) v xs := by
 obtain ⟨f, h⟩ := h
 exact ⟨f, kT h gS⟩
theorem Cp {v1 : Value} (h : S d e W base (fun k => ok k ∧ some k ≠ v.ownBlock) u xs) (hg : W.grownBy w1 v.ownBlock) (bk : v1.ownBlock = v.ownBlock ∨ ∃ b, v1.ownBlock = some b ∧ W.heap.size ≤ b) : S d e w1 base (fun k => ok k ∧ some k ≠ v1.ownBlock) u xs := by
 obtain ⟨f, h⟩ := h
 exact ⟨f, fF h hg bk⟩
theorem Bm (h : S d e W base ok u xs) (hb : Below W.heap.size W w1) : S d e w1 base (fun k => ok k ∧ k < W.heap.size) u xs :=
 cJ (dm (sL h) hb) (fun _ hk => ⟨hk.1, hk.2.2.1⟩)
theorem Rs (h : (bare d).R e w base ok v xs) : S d e w base ok v xs := by
 obtain ⟨h0, inner, ho, hr⟩ := h
 refine ⟨fun _ => 0, h0, inner, by rw [List.length_zipIdx]; exact ho, by rw [List.length_zipIdx]; exact hr.1, fun j p hj => ?_⟩
 rw [List.getElem?_zipIdx, Nat.zero_add] at hj
 obtain ⟨x, hx, rfl⟩ := Option.map_eq_some_iff.1 hj
 exact d.dt (fun _ hk => hk.elim) (hr.2 j x hx)
theorem akE {f f' : Nat → Nat} {zs : List (α × Nat)} (h : (tag f d).R e w base ok v zs) (hf : ∀ k, ok k → k < w.heap.size → f' k = f k) : (tag f' d).R e w base ok v zs := by
 obtain ⟨h0, inner, ho, hr⟩ := jX h
 exact ⟨fun k hk => (h0 k hk).1, inner, ho, hr.1, fun j p hj => d.dt (fun k hk => ⟨⟨hk.1.1.1, hk.1.2⟩, (hf k hk.1.1.1 hk.1.1.2.2.1).trans hk.2⟩) (hr.2 j p hj)⟩
end
section
variable {α β : Type} {d : Kd α} {d' : Kd β} {e e' g : Nat} {w w1 W : World} {base b : Nat} {ok ok' okv oku : Nat → Prop} {u v : Value} {xs : List α} {ys : List β}
theorem ahh (h : S d e w base ok v xs) {t : Nat} {cells : Array Value} (hb : w.heap[g]? = some (.cells cells t (0, 0))) (ht : e ≠ t) : some g ≠ v.ownBlock := sW (Rp h) hb ht
theorem aaP (h : S d e w base ok v xs) (gr : ∀ k, ok k → k ≠ g) : some g ≠ v.ownBlock := aar (Rp h) gr
theorem adM (h : S d e w base ok v xs) (hp : 0 < xs.length) : ∃ g cap, v = .slice (some ⟨g, 0, none⟩) xs.length cap ∧ base ≤ g ∧ g < w.heap.size ∧ ∃ cells, w.heap[g]? = some (.cells cells e (0, 0)) := lZ (Rp h) hp
theorem gj (h : S d e w base ok v xs) : ∃ A c, v = .slice A xs.length c := cH (Rp h)
theorem cj {A : Option Addr} {n c : Nat} (h : S d e w base ok (.slice A n c) xs) : n = xs.length ∧ n ≤ c ∧ d.C w A xs.length xs := aq (Rp h)
theorem ahz {ad : Addr} {n cap : Nat} (h : S d e W base ok (.slice (some ad) n cap) xs) (z : α) (i : Int) (h0 : 0 ≤ i) (h1 : i < n) :
  ∃ c, c.length = d.sz ∧ d.M W base (fun k => ok k ∧ some k ≠ (Value.slice (some ad) n cap).ownBlock) (xs.getD i.toNat z) c ∧ ∀ j u, c[j]? = some u → W.cell? (ad.add (i.toNat * d.sz + j)) = some u := adK (Rp h) z i h0 h1
theorem tn (h : S d e w base ok v xs) (a : Nat) (ha : w.heap.size ≤ a) : S d e w base (fun k => ok k ∧ k ≠ a) v xs := cJ (sL h) (fun k hk => ⟨hk.1, by have := hk.2.2.1; omega⟩)
theorem aaY {o : Obj} (h : S d e w1 w.heap.size ok v xs) (hb : w.heap[g]? = some o) : S d e w1 w.heap.size (fun k => ok k ∧ k ≠ g) v xs := cJ (sL h) (fun k hk => ⟨hk.1, by have := d_ hb; have := hk.2.1; omega⟩)
theorem mP {N : Nat} (h : S d e w1 base (fun k => ok k ∧ k < N) u xs) (cP : ∀ k, v.ownBlock = some k → N ≤ k) : S d e w1 base (fun k => (ok k ∧ some k ≠ v.ownBlock) ∧ k < N) u xs :=
 cJ h (fun k hk => ⟨⟨hk.1, fun e => Nat.lt_irrefl _ (Nat.lt_of_lt_of_le hk.2 (cP k e.symm))⟩, hk.2⟩)
theorem GI (xs : List α) (p : α) : (xs ++ [p]).zipIdx = xs.zipIdx ++ [(p, xs.length)] := by rw [List.zipIdx_append]; simp
end
section
open Classical in
theorem ZF {α : Type} {d : Kd α} {e base : Nat} {okv : Nat → Prop} {w : World} {v : Value} {xs : List α} (h : S d e w base okv v xs) (m : Nat) (okp : Nat → Prop) (hap : ∀ k, okp k → ¬ okv k) : ∃ f, (∀ k, okp k → f k = m) ∧ (tag f d).R e w base okv v xs.zipIdx := by
 obtain ⟨f, h⟩ := h
 exact ⟨fun k => if okp k then m else f k, fun k hk => if_pos hk, akE h (fun k hk _ => if_neg (fun h2 => hap k h2 hk))⟩
variable {P : Program} {ops : Array Oper} {rest : List Oper} {o : Oper} {a : Act} {Q : Exit → Act → World → Prop} {Kc : Act → World → Prop} {α : Type}
theorem tp (d : Kd α) {w0 W : World} (base : Nat) (sU : o.guard = none) (s x : Operand) (t e : TypeId) (z : Value) (bytes : Nat)
  (ho : o.op = .call { callee := .builtin .append, args := #[s, x], argTypes := #[t, t] })
  (ht : P.underlying t = some (.slice e)) (gT : (P.info? e).map (fun i => (i.zero, i.size, i.bytes)) = some (some z, d.sz, bytes)) (hz : z.cells.size = d.sz) (nE : 0 < d.sz) (sV : 0 < bytes)
  (v : Value) (xs : List α) (p : α) (cs : List Value) (ok okp : Nat → Prop) (hs : a.eval s = v) (hx : a.eval x = .slice (some ⟨W.heap.size, 0, none⟩) 1 1) (hp : d.M W base okp p cs) (lv : ∀ k, okp k → ok k ∧ some k ≠ v.ownBlock) (eH : ∀ k, W.heap.size ≤ k → ok k)
  (HO : S d e W base (fun k => ok k ∧ ¬ okp k) v xs) (HB : Below base w0 W) (cP : base ≤ W.heap.size) (hl : (xs.length + 1) * bytes ≤ 140737488355328)
  (h : ∀ v1 w1, S d e w1 base ok v1 (xs ++ [p]) → Below base w0 w1 → W.grownBy w1 v.ownBlock → (v1.ownBlock = v.ownBlock ∨ ∃ b, v1.ownBlock = some b ∧ W.heap.size ≤ b) → wpList P ops Q rest (a.put o.dst v1) w1) :
  wpList P ops Q (o :: rest) a (W.alloc (.cells cs.toArray e)) := by
 obtain ⟨f, hf, hR⟩ := ZF HO xs.length okp (fun _ hk h2 => h2.2 hk)
 refine fV (tag f d) base sU s x t e z bytes ho ht gT hz nE sV v xs.zipIdx (p, xs.length) cs ok okp hs hx (d.dt (fun k hk => ⟨hk, hf k hk⟩) hp) lv eH (bD hR (fun _ hk => hk.1)) HB cP (by rw [List.length_zipIdx]; exact hl) ?_
 intro v1 w1 hr
 rw [← GI] at hr
 exact h v1 w1 ⟨f, hr⟩
theorem Av (d : Kd α) {w0 W : World} (base : Nat) (hw : Region.wanted o (yielded ops a.tmps) = true) (s x : Operand) (t e : TypeId) (z : Value) (bytes : Nat)
  (ho : o.op = .call { callee := .builtin .append, args := #[s, x], argTypes := #[t, t] })
  (ht : P.underlying t = some (.slice e)) (gT : (P.info? e).map (fun i => (i.zero, i.size, i.bytes)) = some (some z, d.sz, bytes)) (hz : z.cells.size = d.sz) (nE : 0 < d.sz) (sV : 0 < bytes)
  (v : Value) (xs : List α) (p : α) (cs : List Value) (ok okp : Nat → Prop) (hs : a.eval s = v) (hx : a.eval x = .slice (some ⟨W.heap.size, 0, none⟩) 1 1) (hp : d.M W base okp p cs) (lv : ∀ k, okp k → ok k ∧ some k ≠ v.ownBlock) (eH : ∀ k, W.heap.size ≤ k → ok k)
  (HO : S d e W base (fun k => ok k ∧ ¬ okp k) v xs) (HB : Below base w0 W) (cP : base ≤ W.heap.size) (hl : (xs.length + 1) * bytes ≤ 140737488355328)
  (h : ∀ v1 w1, S d e w1 base ok v1 (xs ++ [p]) → Below base w0 w1 → W.grownBy w1 v.ownBlock → (v1.ownBlock = v.ownBlock ∨ ∃ b, v1.ownBlock = some b ∧ W.heap.size ≤ b) → Kc (a.put o.dst v1) w1) :
  if Region.wanted o (yielded ops a.tmps) = true then Oper.wp P o a (W.alloc (.cells cs.toArray e)) Kc Q else Kc (a.put o.dst undef) (W.alloc (.cells cs.toArray e)) := by
 obtain ⟨f, hf, hR⟩ := ZF HO xs.length okp (fun _ hk h2 => h2.2 hk)
 refine Am (tag f d) base hw s x t e z bytes ho ht gT hz nE sV v xs.zipIdx (p, xs.length) cs ok okp hs hx (d.dt (fun k hk => ⟨hk, hf k hk⟩) hp) lv eH (bD hR (fun _ hk => hk.1)) HB cP (by rw [List.length_zipIdx]; exact hl) ?_
 intro v1 w1 hr
 rw [← GI] at hr
 exact h v1 w1 ⟨f, hr⟩
theorem Xq (d : Kd α) {w0 W : World} (base e : Nat) (sU : o.guard = none) {N : Tmp} (_hd : o.dst = some N) {xs : List α} {inner : List Value} {ok okp : Nat → Prop}
  (jP : (execOp a.eval o).run P W = .ok (.value (.slice (some ⟨W.heap.size, 0, none⟩) xs.length xs.length)) (W.alloc (.cells inner.toArray e)))
  (An : cV (d.M W base (fun _ => False)) d.sz xs inner) (_hok : ∀ k, okp k → ok k) (eH : ok W.heap.size) (HB : Below base w0 W) (cP : base ≤ W.heap.size) (hm : xs.length ≤ 9223372036854775807)
  (h : ∀ v1 w1, S d e w1 base ok v1 xs → Below base w0 w1 → W.grownBy w1 none → (∃ b, v1.ownBlock = some b ∧ W.heap.size ≤ b) → wpList P ops Q rest (a.put o.dst v1) w1) : wpList P ops Q (o :: rest) a W :=
 ov (bare d) base e sU _hd (ok := ok) (okp := ok) jP An (fun _ hk => hk) eH HB cP hm (fun v1 w1 hr => h v1 w1 (Rs hr))
theorem adN (d : Kd α) {w0 W : World} (base e : Nat) (sU : o.guard = none) {N : Tmp} (hd : o.dst = some N) (t : TypeId) (x y : Operand) (ho : o.op = .makeSlice t x y) (n : Int) (hx : a.eval x = .int .i64 n) (hy : a.eval y = .int .i64 n)
  (ht : P.underlying t = some (.slice e)) (z : Value) (bytes : Nat) (gT : (P.info? e).map (fun i => (i.zero, i.size, i.bytes)) = some (some z, d.sz, bytes)) (hz : z.cells.size = d.sz) (nE : 0 < d.sz) (sV : 0 < bytes)
  (z0 : α) {ok okp : Nat → Prop} (hzero : d.M W base (fun _ => False) z0 z.cells.toList) (_hok : ∀ k, okp k → ok k) (eH : ok W.heap.size) (h0 : 0 ≤ n) (hl : n.toNat * bytes ≤ 281474976710656) (HB : Below base w0 W) (cP : base ≤ W.heap.size)
  (h : ∀ v1 w1, S d e w1 base ok v1 (List.replicate n.toNat z0) → Below base w0 w1 → W.grownBy w1 none → (∃ b, v1.ownBlock = some b ∧ W.heap.size ≤ b) → wpList P ops Q rest (a.put o.dst v1) w1) : wpList P ops Q (o :: rest) a W :=
 CY (bare d) base e sU hd t x y ho n hx hy ht z bytes gT hz nE sV z0 (ok := ok) (okp := ok) hzero (fun _ hk => hk) eH h0 hl HB cP (fun v1 w1 hr => h v1 w1 (Rs hr))
end
def D5 {α : Type} (f : Nat → Nat) (d : Kd α) (i : Nat) (c : List Value) : Kd (α × Nat) where
 sz := d.sz
 E := d.E
 K := fun w x cs => (x.2 = i → cs = c ∧ cs.length = d.sz ∧ ∀ u ∈ cs, u.oneCell' = true) ∧ (x.2 ≠ i → d.K w x.1 cs)
 M := fun w base ok x cs => (x.2 = i → cs = c ∧ cs.length = d.sz ∧ ∀ u ∈ cs, u.oneCell' = true) ∧ (x.2 ≠ i → d.M w base (fun k => ok k ∧ f k = x.2) x.1 cs)
 jb := fun {w x cs} h => by
  by_cases hx : x.2 = i
  ·exact (h.1 hx).2.1
  ·exact d.jb (h.2 hx)
 iU := fun {w x cs} h => by
  by_cases hx : x.2 = i
  ·exact (h.1 hx).2.2
  ·exact d.iU (h.2 hx)
 iv := fun hb h => ⟨h.1, fun hx => d.iv hb (h.2 hx)⟩
 ep := fun h => ⟨h.1, fun hx => d.ep (h.2 hx)⟩
 dt := fun gr h => ⟨h.1, fun hx => d.dt (fun k hk => ⟨gr k hk.1, hk.2⟩) (h.2 hx)⟩
 fU := fun h => ⟨h.1, fun hx => d.dt (fun _ hk => ⟨⟨hk.1.1, hk.2⟩, hk.1.2⟩) (d.fU (h.2 hx))⟩
 gU := fun hm h => ⟨h.1, fun hx => d.gU (fun k hk => hm k hk.1) (h.2 hx)⟩
 iw := fun hb h => ⟨h.1, fun hx => d.iw hb (h.2 hx)⟩
def H {α : Type} (d : Kd α) (e : Nat) (w : World) (base : Nat) (ok : Nat → Prop) (v : Value) (xs : List α) (i : Int) (xJ : Nat → Prop) (c : List Value) : Prop :=
 (∀ k, xJ k → ok k) ∧ ∃ f, (D5 f d i.toNat c).R e w base (fun k => ok k ∧ ¬ xJ k) v xs.zipIdx
section
variable {α β : Type} {d : Kd α} {e e' g n cap : Nat} {w w1 W : World} {base : Nat} {ok ok' xJ okp : Nat → Prop} {u v : Value} {xs : List α} {i : Int} {c : List Value}
theorem adO (h : S d e W base ok (.slice (some ⟨g, 0, none⟩) n cap) xs) (z : α) (i : Int) (h0 : 0 ≤ i) (h1 : i < n) :
  ∃ (xJ : Nat → Prop) (c : List Value), c.length = d.sz ∧ d.M W base xJ (xs.getD i.toNat z) c ∧ (∀ j u, c[j]? = some u → W.cell? ⟨g, i.toNat * d.sz + j, none⟩ = some u) ∧ (∀ k, xJ k → ok k ∧ k ≠ g) ∧ H d e W base ok (.slice (some ⟨g, 0, none⟩) n cap) xs i xJ c := by
 obtain ⟨f, hR⟩ := h
 have hn := (aq hR).1
 rw [List.length_zipIdx] at hn
 have To : some g = (Value.slice (some ⟨g, 0, none⟩) n cap).ownBlock := by simp [Value.ownBlock]
 obtain ⟨adP, inner, ho, hr⟩ := hR
 have E_ : i.toNat < xs.length := by omega
 have hlen : inner.length = xs.length * d.sz := by have := hr.1; rw [List.length_zipIdx] at this; exact this
 have Tm : i.toNat * d.sz + d.sz ≤ inner.length := by rw [hlen, ← Nat.succ_mul]; exact Nat.mul_le_mul_right _ E_
 have hM := hr.2 i.toNat _ (oe (List.getElem?_eq_getElem E_))
 have hkg : ∀ k, some k ≠ (Value.slice (some ⟨g, 0, none⟩) n cap).ownBlock → k ≠ g := fun k hk he => hk (by rw [he]; exact To)
 refine ⟨fun k => (ok k ∧ k ≠ g) ∧ f k = i.toNat, (inner.drop (i.toNat * d.sz)).take d.sz, by rw [List.length_take, List.length_drop]; omega, ?_, fun j u hu => ?_, fun k hk => hk.1, fun k hk => hk.1.1, f, fun k hk => ⟨adP k hk, fun h2 => h2.1.2 ?_⟩, inner, ho, hr.1, fun m p hm => ?_⟩
 ·rw [List.getD_eq_getElem?_getD, List.getElem?_eq_getElem E_]
  exact d.dt (fun k hk => ⟨⟨hk.1.1, hkg k hk.1.2⟩, hk.2⟩) hM
 ·rw [List.getElem?_take] at hu
  split at hu
  ·rw [List.getElem?_drop] at hu
   have := ho.cells (g := g) To.symm _ u hu
   rwa [add_plain] at this
  ·cases hu
 ·rw [← To] at hk; injection hk with hk; exact hk.symm
 ·have hold := hr.2 m p hm
  have hp2 : p.2 = m := by
   rw [List.getElem?_zipIdx, Nat.zero_add] at hm
   obtain ⟨q, _, rfl⟩ := Option.map_eq_some_iff.1 hm
   rfl
  refine ⟨fun hx => ?_, fun hx => d.dt (fun k hk => ⟨⟨⟨hk.1.1, fun h2 => hx ?_⟩, hk.1.2⟩, hk.2⟩) hold⟩
  ·have Xn : m = i.toNat := by omega
   subst Xn
   exact ⟨rfl, d.jb (d.ep hM), d.iU (d.ep hM)⟩
  ·rw [← hk.2]; exact h2.2
open Classical in
theorem adQ (h : H d e w base ok v xs i xJ c) {x' : α} (hM : d.M w base okp x' c) (gr : ∀ k, okp k → xJ k) : S d e w base ok v (xs.set i.toNat x') := by
 obtain ⟨ho, f, h0, inner, ik, hr⟩ := h
 refine ⟨fun k => if xJ k then i.toNat else f k, fun k hk => (h0 k hk).1, inner, by rw [List.length_zipIdx, List.length_set]; rw [List.length_zipIdx] at ik; exact ik, by have := hr.1; rw [List.length_zipIdx] at this; rw [List.length_zipIdx, List.length_set]; exact this, fun m p hm => ?_⟩
 rw [List.getElem?_zipIdx, Nat.zero_add] at hm
 obtain ⟨q, hq, rfl⟩ := Option.map_eq_some_iff.1 hm
 have hml : m < xs.length := by
  have := (List.getElem?_eq_some_iff.1 hq).1
  rwa [List.length_set] at this
 by_cases Xn : m = i.toNat
 ·subst Xn
  rw [List.getElem?_set_self hml] at hq
  injection hq with hq
  subst hq
  have hc := ((hr.2 i.toNat _ (oe (List.getElem?_eq_getElem hml))).1 rfl).1
  show d.M w base _ x' ((inner.drop (i.toNat * d.sz)).take d.sz)
  rw [show (inner.drop (i.toNat * d.sz)).take d.sz = c from hc]
  exact d.dt (fun k hk => ⟨⟨ho k (gr k hk), fun he => (h0 k he.symm).2 (gr k hk)⟩, if_pos (gr k hk)⟩) hM
 ·rw [List.getElem?_set_ne (Ne.symm Xn)] at hq
  exact d.dt (fun k hk => ⟨⟨hk.1.1.1, hk.1.2⟩, (if_neg hk.1.1.2).trans hk.2⟩) ((hr.2 m (q, m) (oe hq)).2 Xn)
theorem adR {ZG : Nat → Prop} (h : H d e w base (fun k => ok k ∧ ¬ ZG k) v xs i xJ c) (hg : ∀ k, ZG k → ok k) : H d e w base ok v xs i (fun k => xJ k ∨ ZG k) c := by
 obtain ⟨ho, f, h⟩ := h
 exact ⟨fun k hk => hk.elim (fun h2 => (ho k h2).1) (hg k), f, bD h (fun k hk => ⟨hk.1.1, fun h2 => h2.elim hk.2 hk.1.2⟩)⟩
theorem Rt (h : S d e W base ok (.slice (some ⟨g, 0, none⟩) n cap) xs) (z : α) (i : Int) (h0 : 0 ≤ i) (h1 : i < n) :
  ∃ (xJ : Nat → Prop) (c : List Value), c.length = d.sz ∧ d.M W base xJ (xs.getD i.toNat z) c ∧ (∀ j u, c[j]? = some u → W.cell? ⟨g, i.toNat * d.sz + j, none⟩ = some u) ∧ (∀ j, W.frozen? ⟨g, i.toNat * d.sz + j, none⟩ = false) ∧ (∀ k, xJ k → ok k ∧ k ≠ g) ∧ H d e W base ok (.slice (some ⟨g, 0, none⟩) n cap) xs i xJ c := by
 obtain ⟨_, _, _, _, hfr⟩ := H7 (Rp h) z i h0 h1
 obtain ⟨xJ, c, t_, hM, wa, arD, hH⟩ := adO h z i h0 h1
 exact ⟨xJ, c, t_, hM, wa, hfr, arD, hH⟩
theorem akF (h : H d e W base ok (.slice (some ⟨g, 0, none⟩) n cap) xs i xJ c) (h0 : 0 ≤ i) (h1 : i < n) :
  ∃ rows : List (List Value), rows.length = xs.length ∧ (raw d.sz).R e W base (fun _ => True) (.slice (some ⟨g, 0, none⟩) n cap) rows ∧ c.length = d.sz ∧ (∀ u ∈ c, u.oneCell' = true) ∧ (∀ j u, c[j]? = some u → W.cell? ⟨g, i.toNat * d.sz + j, none⟩ = some u) ∧
   ∀ w1 c', W.grownBy w1 (some g) → (raw d.sz).R e w1 base (fun _ => True) (.slice (some ⟨g, 0, none⟩) n cap) (rows.set i.toNat c') → H d e w1 base ok (.slice (some ⟨g, 0, none⟩) n cap) xs i xJ c' := by
 obtain ⟨hoo, f, hR⟩ := h
 have hn := (aq hR).1
 rw [List.length_zipIdx] at hn
 have To : some g = (Value.slice (some ⟨g, 0, none⟩) n cap).ownBlock := by simp [Value.ownBlock]
 obtain ⟨adP, inner, ho, hr⟩ := hR
 have E_ : i.toNat < xs.length := by omega
 have hlen : inner.length = xs.length * d.sz := by have := hr.1; rw [List.length_zipIdx] at this; exact this
 have hkg : ∀ k, some k ≠ (Value.slice (some ⟨g, 0, none⟩) n cap).ownBlock → k ≠ g := fun k hk he => hk (by rw [he]; exact To)
 have hci := (hr.2 i.toNat _ (oe (List.getElem?_eq_getElem E_))).1 rfl
 rw [hci.1] at hci
 have hc := ((hr.2 i.toNat _ (oe (List.getElem?_eq_getElem E_))).1 rfl).1
 refine ⟨(List.range xs.length).map fun j => (inner.drop (j * d.sz)).take d.sz, by rw [List.length_map, List.length_range], ⟨fun _ _ => trivial, inner, ?_, ?_, fun j p hj => ?_⟩, hci.2.1, hci.2.2, fun j u hu => ?_, fun w1 c' hg adS => ?_⟩
 ·rw [List.length_map, List.length_range]; rw [List.length_zipIdx] at ho; exact ho
 ·rw [List.length_map, List.length_range]; exact hlen
 ·rw [List.getElem?_map] at hj
  obtain ⟨j', tg, rfl⟩ := Option.map_eq_some_iff.1 hj
  obtain ⟨hl, he⟩ := List.getElem?_eq_some_iff.1 tg
  rw [List.getElem_range] at he
  subst he
  rw [List.length_range] at hl
  have hm := (D5 f d i.toNat c).ep (hr.2 j _ (oe (List.getElem?_eq_getElem hl)))
  exact ⟨rfl, (D5 f d i.toNat c).jb hm, (D5 f d i.toNat c).iU hm⟩
 ·rw [← hc, List.getElem?_take] at hu
  split at hu
  ·rw [List.getElem?_drop] at hu
   have := ho.cells (g := g) To.symm _ u hu
   rwa [add_plain] at this
  ·cases hu
 ·obtain ⟨_, D_, ho', hr'⟩ := adS
  have E1 : D_.length = xs.length * d.sz := by have := hr'.1; rw [List.length_set, List.length_map, List.length_range] at this; exact this
  rw [List.length_set, List.length_map, List.length_range] at ho'
  refine ⟨hoo, f, adP, D_, by rw [List.length_zipIdx]; exact ho', by rw [List.length_zipIdx]; exact E1, fun m p hm => ?_⟩
  rw [List.getElem?_zipIdx, Nat.zero_add] at hm
  obtain ⟨q, hq, rfl⟩ := Option.map_eq_some_iff.1 hm
  have hml : m < xs.length := (List.getElem?_eq_some_iff.1 hq).1
  have hold := hr.2 m (q, m) (oe hq)
  refine ⟨fun hx => ?_, fun hx => ?_⟩
  ·have T9 : m = i.toNat := hx
   subst T9
   exact hr'.2 i.toNat c' (List.getElem?_set_self (by rw [List.length_map, List.length_range]; exact hml))
  ·have T9 : m ≠ i.toNat := hx
   have PI := (hr'.2 m ((inner.drop (m * d.sz)).take d.sz) (by
    rw [List.getElem?_set_ne (Ne.symm T9), List.getElem?_map, List.getElem?_eq_getElem (by rw [List.length_range]; exact hml), List.getElem_range]
    rfl)).1
   show d.M w1 base _ q ((D_.drop (m * d.sz)).take d.sz)
   rw [show (D_.drop (m * d.sz)).take d.sz = _ from PI]
   exact d.dt (fun k hk => hk.1) (d.gU (w1 := w1) (fun k hk => hg.block k hk.2.2.1 (fun he => hkg k hk.1.1.2 (by injection he))) (d.fU (hold.2 hx)))
theorem akG (h : H d e W base ok (.slice (some ⟨g, 0, none⟩) n cap) xs i xJ c) (h0 : 0 ≤ i) (h1 : i < n) {seg : List Value} {j : Nat} (hj : j + seg.length ≤ d.sz) (PM : ∀ q ∈ seg, q.oneCell' = true) :
  H d e (W.setCells g (i.toNat * d.sz + j) seg) base ok (.slice (some ⟨g, 0, none⟩) n cap) xs i xJ (c.take j ++ seg ++ c.drop (j + seg.length)) ∧ W.grownBy (W.setCells g (i.toNat * d.sz + j) seg) (some g) := by
 obtain ⟨rows, _, adS, t_, hco, wa, akH⟩ := akF h h0 h1
 obtain ⟨h2, h3⟩ := agR adS i h0 h1 (c := c) (seg := seg) (j := j) (x' := c.take j ++ seg ++ c.drop (j + seg.length)) (okp := fun _ => False) t_ wa hj
  ⟨rfl, by
   show (c.take j ++ seg ++ c.drop (j + seg.length)).length = d.sz
   simp only [List.length_append, List.length_take, List.length_drop]; omega, fun u hu => by
   rcases List.mem_append.1 hu with hu | hu
   ·rcases List.mem_append.1 hu with hu | hu
    ·exact hco u (List.mem_of_mem_take hu)
    ·exact PM u hu
   ·exact hco u (List.mem_of_mem_drop hu)⟩ (fun _ hk => hk.elim)
 exact ⟨akH _ _ h3 h2, h3⟩
theorem akI {ZG : Nat → Prop} (hH : H d e W base (fun k => ok k ∧ ¬ ZG k) (.slice (some ⟨g, 0, none⟩) n cap) xs i xJ c) (h0 : 0 ≤ i) (h1 : i < n) {seg : List Value} {j : Nat} (hj : j + seg.length ≤ d.sz)
  {x' : α} (hM : d.M W base okp x' (c.take j ++ seg ++ c.drop (j + seg.length))) (lv : ∀ k, okp k → xJ k ∨ ZG k) (hg : ∀ k, ZG k → ok k ∧ k ≠ g) :
  S d e (W.setCells g (i.toNat * d.sz + j) seg) base ok (.slice (some ⟨g, 0, none⟩) n cap) (xs.set i.toNat x') ∧ W.grownBy (W.setCells g (i.toNat * d.sz + j) seg) (some g) := by
 have fv : ∀ k, xJ k ∨ ZG k → k ≠ g := by
  intro k hk he
  subst he
  rcases hk with hk | hk
  ·obtain ⟨_, f, hR⟩ := hH
   exact (hR.1 k (by simp [Value.ownBlock])).2 hk
  ·exact (hg k hk).2 rfl
 obtain ⟨h2, h3⟩ := akG (adR hH (fun k hk => (hg k hk).1)) h0 h1 hj (fun q hq => d.iU (d.ep hM) q (List.mem_append_left _ (List.mem_append_right _ hq)))
 exact ⟨adQ h2 (yo hM (fun k hk gS => h3.block k gS (fun he => fv k (lv k hk) (by injection he)))) lv, h3⟩
end
end Kd
end Go.Proofs.YtggiicplcglalaaGreatW.PrintWords
end
section
namespace Go.Proofs.YtggiicplcglalaaGreatW.PrintWords
open Go.RowKit
namespace Kd
theorem Ru {α : Type} {R : α → List Value → Prop} {size : Nat} {ps : List α} {cs : List Value} (h : cV R size ps cs) (nE : 0 < size) (hR : ∀ p c, R p c → ∀ u ∈ c, u.oneCell' = true) : ∀ u ∈ cs, u.oneCell' = true := by
 intro u hu
 obtain ⟨q, hq, rfl⟩ := List.mem_iff_getElem.1 hu
 have Tp : q / size < ps.length := by
  rw [Nat.div_lt_iff_lt_mul nE, ← h.1]
  exact hq
 refine hR _ _ (h.2 (q / size) _ (List.getElem?_eq_getElem Tp)) _ ?_
 rw [List.mem_iff_getElem?]
 refine ⟨q % size, ?_⟩
 rw [List.getElem?_take, if_pos (Nat.mod_lt _ nE), List.getElem?_drop, Nat.mul_comm, Nat.div_add_mod, List.getElem?_eq_getElem hq]
end Kd
end Go.Proofs.YtggiicplcglalaaGreatW.PrintWords
end
section
namespace Go.Proofs.YtggiicplcglalaaGreatW.PrintWords
open Go.RowKit
section
variable {P : Program}
theorem wM (w : World) (base : Nat) (t ti ty e : TypeId) (i : TypeInfo) (z : Value) (size bytes : Nat) (ht : P.underlying t = some (.slice e)) {k : IntKind} (WD : P.underlying ti = some (.int k)) (hi : P.info? e = some i) (hz : i.zero = some z)
  (akJ : i.size = size) (hby : i.bytes = bytes) (hzs : z.cells.size = size) (H4 : 0 < size) (sV : 0 < bytes)
  (v : Value) (n : Nat) (xs : List Value) (ik : w.ownsRow base e size v n xs) (kx : IntKind) (m : Nat) (h1 : ∀ u ∈ (Builtin.zeroCells z.cells m).toList, u.oneCell' = true)
  (JJ : (n + m) * bytes ≤ 140737488355328) (cP : base ≤ w.heap.size) :
  ∃ v' w', (Builtin.append_ #[t, ti] ty #[v, .int kx m]).run P w = .ok v' w' ∧ w'.ownsRow base e size v' (n + m) (xs ++ (Builtin.zeroCells z.cells m).toList) ∧ w.grownBy w' v.ownBlock ∧
   (v'.ownBlock = v.ownBlock ∨ v'.ownBlock = some w.heap.size) := by
 subst akJ
 subst hby
 have hle : n + m ≤ 140737488355328 := Nat.le_trans (Nat.le_mul_of_pos_right _ sV) JJ
 have h63 : n + m ≤ maxLen := by simp only [maxLen]; omega
 have hw : IntKind.i64.wrap (m : Int) = m := by rw [IntKind.wrap_i64]; omega
 have hw0 : IntKind.i64.wrap 0 = 0 := by rw [IntKind.wrap_i64]; rfl
 have adw : ¬ ((m : Int) < 0) := by omega
 have hmb : m * i.bytes ≤ 140737488355328 := Nat.le_trans (Nat.mul_le_mul_right _ (Nat.le_add_left m n)) JJ
 have Rv : ¬ (281474976710656 < (m : Int) * (i.bytes : Int)) := by
  rw [← Int.natCast_mul]
  omega
 have hsn : i.size ≠ 0 := by omega
 obtain ⟨news, Rw⟩ : ∃ news, news = (Builtin.zeroCells z.cells m).toList := ⟨_, rfl⟩
 rw [← Rw] at h1 ⊢
 have hl : news.length = m * i.size := by rw [Rw, Array.length_toList, size_zeroCells, hzs]
 have hna : Builtin.zeroCells z.cells m = news.toArray := by rw [Rw]
 have hlen : (xs ++ news).length = (n + m) * i.size := by rw [List.length_append, ik.1, hl, Nat.add_mul]
 have Rx : m = 0 → news = [] := fun h => List.eq_nil_of_length_eq_zero (by rw [hl, h, Nat.zero_mul])
 have grown : ∀ (Ry : Nat), Ry < n + m → ∀ (row : Option Nat),
   (w.drew.alloc (.cells (xs.toArray ++ news.toArray ++ Builtin.zeroCells z.cells (grownCap w (n + m) Ry e - (n + m))) e)).ownsRow base e i.size
    (.slice (some ⟨w.heap.size, 0, none⟩) (n + m) (grownCap w (n + m) Ry e)) (n + m) (xs ++ news) ∧
   w.grownBy (w.drew.alloc (.cells (xs.toArray ++ news.toArray ++ Builtin.zeroCells z.cells (grownCap w (n + m) Ry e - (n + m))) e)) row := by
  intro Ry ho row
  have Xo := grownCap_ge w (n + m) Ry e
  have PI : grownCap w (n + m) Ry e ≤ maxLen := grownCap_le_maxLen w (n + m) Ry e h63
  refine ⟨⟨hlen, .inr ⟨w.heap.size, _, _, rfl, cP, heap_alloc_new w.drew _, Xo, PI, ?_, ?_⟩⟩, ⟨rfl, rfl, rfl, by simp, fun k hk _ => heap_alloc_old w.drew _ hk⟩⟩
  ·simp only [Array.size_append, List.size_toArray, size_zeroCells, hzs, ik.1, hl, ← Nat.add_mul]
   congr 1
   omega
  ·simp only [Array.toList_append, List.append_assoc]
   rw [← List.append_assoc, ← hlen]
   exact List.take_left
 have runs : ∀ (A : Option Addr) (cap : Nat), cap < n + m → (Builtin.firstCells i.size n (.slice A n cap)).run P w.drew = .ok xs.toArray w.drew → (Builtin.append_ #[t, ti] ty #[.slice A n cap, .int kx m]).run P w =
   .ok (.slice (some ⟨w.heap.size, 0, none⟩) (n + m) (grownCap w (n + m) cap e)) (w.drew.alloc (.cells (xs.toArray ++ news.toArray ++ Builtin.zeroCells z.cells (grownCap w (n + m) cap e - (n + m))) e)) := by
  intro A cap akK hfo
  have hn : ¬ (n + m ≤ cap) := by omega
  have akL : ¬ (9223372036854775807 < ((n : Int) + (m : Int))) := by omega
  have Tn := growslice_fits akK JJ
  have adU : ¬ (281474976710656 < Builtin.nextslicecap (n + m) cap * i.bytes) := by omega
  by_cases hm : m = 0
  ·have WE := Rx hm
   subst hm
   rw [WE]
   simp only [Nat.add_zero] at hn akL adU ⊢
   have akM : ¬ (9223372036854775807 < (n : Int)) := by omega
   simp [Builtin.append_, run_underlying ht, run_underlying WD, sizeOf, typeInfo, zeroValue, hi, hz, asInt, asIntOf, hw0, hn, akM, adU, Question.forced, hfo, newRow, grownCap]
  ·have hmz : ¬ (m * i.size = 0) := Nat.mul_ne_zero hm hsn
   simp [Builtin.append_, run_underlying ht, run_underlying WD, sizeOf, typeInfo, zeroValue, hi, hz, asInt, asIntOf, hw, adw, Rv, hn, akL, adU, Question.forced, hfo, newRow, grownCap, hmz, hna]
   congr 2
   apply Array.ext'
   simp [List.append_assoc]
 rcases ik.2 with ⟨rfl, rfl⟩ | ⟨g, cap, cur, rfl, hbg, hg, E8, PI, E0, akN⟩
 ·have hx : xs = [] := List.eq_nil_of_length_eq_zero (by simpa using ik.1)
  subst hx
  by_cases hm : m = 0
  ·have WE := Rx hm
   subst hm
   rw [WE]
   refine ⟨.slice none 0 0, w, ?_, World.ownsRow_nil w base e i.size, ⟨rfl, rfl, rfl, Nat.le_refl _, fun _ _ _ => rfl⟩, Or.inl rfl⟩
   simp [Builtin.append_, run_underlying ht, run_underlying WD, sizeOf, typeInfo, hi, asInt, asIntOf, hw0]
  ·have WG := grown 0 (by omega) (Value.ownBlock (.slice none 0 0))
   exact ⟨_, _, runs none 0 (by omega) (by simp [Builtin.firstCells]), WG.1, WG.2, Or.inr rfl⟩
 ·by_cases Rz : n + m ≤ cap
  ·have Tn : n * i.size + news.length ≤ cur.size := by rw [hl, E0, ← Nat.add_mul]; exact Nat.mul_le_mul_right _ Rz
   obtain ⟨tk, h3, h4, h5⟩ := pe news (n * i.size) w cur hg Tn
   obtain ⟨s1, s2, s3, s4⟩ := o7 g news (n * i.size) w
   have MB := run_storeCells_cells (P := P) g (n * i.size) news 0 w (fun j hj => by rw [cell_of_row w g _ cur e (0, 0) hg]; simp; omega) (fun j _ => aH hg _) h1
   simp only [Nat.add_zero] at MB
   refine ⟨.slice (some ⟨g, 0, none⟩) (n + m) cap, w.setCells g (n * i.size) news, ?_, ⟨hlen, .inr ⟨g, cap, tk, rfl, hbg, h3, Rz, PI, by rw [h4, E0], ?_⟩⟩, ⟨s1, s2, s3, by rw [s4]; exact Nat.le_refl _, fun k _ hk => pb news _ k (fun e => hk (by simp [Value.ownBlock, e]))⟩, Or.inl rfl⟩
   ·by_cases hm : m = 0
    ·have WE := Rx hm
     subst hm
     rw [WE] at MB ⊢
     simp [Builtin.append_, run_underlying ht, run_underlying WD, sizeOf, typeInfo, hi, asInt, asIntOf, hw0, E8, add_plain, MB]
    ·have hmz : ¬ (m * i.size = 0) := Nat.mul_ne_zero hm hsn
     simp [Builtin.append_, run_underlying ht, run_underlying WD, sizeOf, typeInfo, zeroValue, hi, hz, asInt, asIntOf, hw, adw, Rv, Rz, hmz, hna, add_plain, MB]
   ·rw [h5]
    have h6 : cur.toList.take (n * i.size) = xs := akN
    rw [h6, ← hlen]
    exact List.take_left
  ·have holds : ∀ j u, xs[j]? = some u → w.cell? ((⟨g, 0, none⟩ : Addr).add j) = some u := ik.cells (g := g) rfl
   have WG := grown cap (by omega) (Value.ownBlock (.slice (some ⟨g, 0, none⟩) n cap))
   exact ⟨_, _, runs (some ⟨g, 0, none⟩) cap (by omega) (run_firstCells_some (P := P) w.drew i.size n _ n cap xs ik.1 (by simpa using holds)), WG.1, WG.2, Or.inr rfl⟩
end
namespace Kd
theorem JK {α : Type} {R : α → List Value → Prop} {z : Value} {size : Nat} {z0 : α} (hz : z.cells.size = size) (hs : 0 < size) (h0 : R z0 z.cells.toList) (m : Nat) : cV R size (List.replicate m z0) (Builtin.zeroCells z.cells m).toList := by
 have h := vn hz hs h0 m
 rw [show Builtin.zeroCells z.cells m = madeCells z.cells (m * size) by unfold Builtin.zeroCells madeCells; rw [hz]]
 exact h
section
variable {P : Program} {ops : Array Oper} {rest : List Oper} {o : Oper} {a : Act} {Q : Exit → Act → World → Prop} {Kc : Act → World → Prop} {α : Type}
theorem GJ (d : Kd α) {W : World} (base : Nat) (t ti ty e : TypeId) (z : Value) (bytes : Nat) (ht : P.underlying t = some (.slice e)) {k : IntKind} (WD : P.underlying ti = some (.int k)) (gT : (P.info? e).map (fun i => (i.zero, i.size, i.bytes)) = some (some z, d.sz, bytes)) (hz : z.cells.size = d.sz) (nE : 0 < d.sz) (sV : 0 < bytes)
  (v : Value) (xs : List α) (z0 : α) {ok : Nat → Prop} (hzero : d.M W base (fun _ => False) z0 z.cells.toList) (eH : ∀ k, W.heap.size ≤ k → ok k) (HO : d.R e W base ok v xs) (kx : IntKind) (n : Int) (h0 : 0 ≤ n) (hl : (xs.length + n.toNat) * bytes ≤ 140737488355328) (cP : base ≤ W.heap.size) :
  ∃ v1 w1, (Builtin.append_ #[t, ti] ty #[v, .int kx n]).run P W = .ok v1 w1 ∧ d.R e w1 base ok v1 (xs ++ List.replicate n.toNat z0) ∧ W.grownBy w1 v.ownBlock ∧ (v1.ownBlock = v.ownBlock ∨ ∃ b, v1.ownBlock = some b ∧ W.heap.size ≤ b) := by
 obtain ⟨m, rfl⟩ := Int.eq_ofNat_of_zero_le h0
 simp only [Int.toNat_natCast] at hl ⊢
 obtain ⟨i0, hi, BS⟩ := Option.map_eq_some_iff.1 gT
 simp only [Prod.mk.injEq] at BS
 obtain ⟨Af, kH, lu⟩ := BS
 obtain ⟨gr, inner, ik, hr⟩ := HO
 have Ot : cV (d.M W base (fun _ => False)) d.sz (List.replicate m z0) (Builtin.zeroCells z.cells m).toList := JK hz nE hzero m
 obtain ⟨v1, w1, jP, h2, hg, bk⟩ := wM (P := P) W base t ti ty e i0 z d.sz bytes ht WD hi Af kH lu hz nE sV v xs.length inner ik kx m (Ru Ot nE (fun _ _ hp => d.iU (d.ep hp))) hl cP
 have yr : v1.ownBlock = v.ownBlock ∨ ∃ b, v1.ownBlock = some b ∧ W.heap.size ≤ b := by
  rcases bk with bk | bk
  ·exact .inl bk
  ·exact .inr ⟨_, bk, Nat.le_refl _⟩
 have fv : ∀ k, some k ≠ v.ownBlock → k < W.heap.size → some k ≠ v1.ownBlock := by
  intro k hk gS
  rcases yr with bk | ⟨b, hb, hle⟩
  ·rw [bk]; exact hk
  ·rw [hb]
   intro he
   injection he with he
   omega
 have step : ∀ {q : α} {c : List Value} {o : Nat → Prop}, d.M W base o q c → (∀ k, o k → ok k ∧ some k ≠ v.ownBlock) → d.M w1 base (fun k => ok k ∧ some k ≠ v1.ownBlock) q c := by
  intro q c o hq ho
  have h1 := d.gU (w1 := w1) (fun k hk => hg.block k hk.2.2.1 (ho k hk.1).2) (d.fU hq)
  exact d.dt (fun k hk => ⟨(ho k hk.1).1, fv k (ho k hk.1).2 hk.2.2.1⟩) h1
 refine ⟨v1, w1, jP, ⟨fun k hk => ?_, inner ++ (Builtin.zeroCells z.cells m).toList, by rw [List.length_append, List.length_replicate]; exact h2, rG (hr.o6 (fun _ _ hq => step hq (fun _ hk => hk))) (Ot.o6 (fun _ _ hq => step hq (fun _ hk => hk.elim)))⟩, hg, yr⟩
 rcases yr with bk | ⟨b, hb, hle⟩
 ·exact gr k (bk ▸ hk)
 ·rw [hb] at hk
  injection hk with hk
  exact eH k (by omega)
theorem AD (d : Kd α) {w0 W : World} (base : Nat) (sU : o.guard = none) (s x : Operand) (t ti e : TypeId) (z : Value) (bytes : Nat)
  (ho : o.op = .call { callee := .builtin .append, args := #[s, x], argTypes := #[t, ti] })
  (ht : P.underlying t = some (.slice e)) {k : IntKind} (WD : P.underlying ti = some (.int k)) (gT : (P.info? e).map (fun i => (i.zero, i.size, i.bytes)) = some (some z, d.sz, bytes)) (hz : z.cells.size = d.sz) (nE : 0 < d.sz) (sV : 0 < bytes)
  (v : Value) (xs : List α) (z0 : α) {kx : IntKind} (n : Int) (ok : Nat → Prop) (hs : a.eval s = v) (hx : a.eval x = .int kx n) (hzero : d.M W base (fun _ => False) z0 z.cells.toList) (eH : ∀ k, W.heap.size ≤ k → ok k)
  (HO : d.R e W base ok v xs) (h0 : 0 ≤ n) (HB : Below base w0 W) (cP : base ≤ W.heap.size) (hl : (xs.length + n.toNat) * bytes ≤ 140737488355328)
  (h : ∀ v1 w1, d.R e w1 base ok v1 (xs ++ List.replicate n.toNat z0) → Below base w0 w1 → W.grownBy w1 v.ownBlock → (v1.ownBlock = v.ownBlock ∨ ∃ b, v1.ownBlock = some b ∧ W.heap.size ≤ b) → wpList P ops Q rest (a.put o.dst v1) w1) :
  wpList P ops Q (o :: rest) a W := by
 obtain ⟨v1, w1, nn, h1, hg, bk⟩ := GJ (P := P) d base t ti o.type e z bytes ht WD gT hz nE sV v xs z0 hzero eH HO kx n h0 hl cP
 refine wpList_plain sU fun K hK => ?_
 unfold Oper.wp execOp
 simp only [ho, resolve, invoke, builtin, Sem.run_bind, Sem.run_pure, Result.andThen_ok, List.map_toArray, List.map_cons, List.map_nil, hs, hx, nn]
 exact hK _ _ (h v1 w1 h1 (HB.grown hg cP (bf HO)) hg bk)
end
end Kd
end Go.Proofs.YtggiicplcglalaaGreatW.PrintWords
end
section
namespace Go.Proofs.YtggiicplcglalaaGreatW.PrintWords
open Go.RowKit
namespace Kd
structure Heap {α : Type} (d : Kd α) : Prop where
 K : ∀ {w w1 : World} {x : α} {cs : List Value}, (∀ k, k < w.heap.size → w1.heap[k]? = w.heap[k]?) → d.K w x cs → d.K w1 x cs
theorem OP {w w1 : World} (hb : ∀ k, k < w.heap.size → w1.heap[k]? = w.heap[k]?) {a : Addr} {v : Value} (h : w.cell? a = some v) : w1.cell? a = some v := by
 have := hb a.block (World.block_lt_of_cell? w a h)
 simpa [World.cell?, this] using h
theorem Heap.C {α : Type} {d : Kd α} (hd : Heap d) {w w1 : World} {A : Option Addr} {n : Nat} {xs : List α} (hb : ∀ k, k < w.heap.size → w1.heap[k]? = w.heap[k]?) (h : d.C w A n xs) : d.C w1 A n xs :=
 ⟨h.1, h.2.1, fun hn => by
  obtain ⟨ad, e, hc⟩ := h.2.2 hn
  refine ⟨ad, e, fun j p hj => ?_⟩
  obtain ⟨c, hs, hr, mU⟩ := hc j p hj
  exact ⟨c, hs, hd.K hb hr, fun i u hu => OP hb (mU i u hu)⟩⟩
theorem ku (k : IntKind) : Heap (Kd.int k) := ⟨fun _ h => h⟩
theorem OQ : Heap Kd.bool := ⟨fun _ h => h⟩
theorem nV {α : Type} {d : Kd α} (e : Nat) (hd : Heap d) : Heap (slice e d) := ⟨by
 rintro w w1 x cs hb ⟨A, c, rfl, hl, hr⟩
 exact ⟨A, c, rfl, hl, hd.C hb hr⟩⟩
theorem By {α β : Type} {a : Kd α} {b : Kd β} (ha : Heap a) (sh : Heap b) : Heap (pair a b) := ⟨by
 rintro w w1 x cs hb ⟨c0, c1, rfl, h0, h1⟩
 exact ⟨c0, c1, rfl, ha.K hb h0, sh.K hb h1⟩⟩
theorem SA {α β : Type} {d : Kd α} (f : β → α) (hd : Heap d) : Heap (iso d f) := ⟨fun hb h => hd.K hb h⟩
end Kd
end Go.Proofs.YtggiicplcglalaaGreatW.PrintWords
end
section
namespace Go.Proofs.YtggiicplcglalaaGreatW.PrintWords
open Go.RowKit
def Kept (w W : World) (S : Nat → Prop) : Prop := w.heap.size ≤ W.heap.size ∧ ∀ i, i < w.heap.size → ¬ S i → W.heap[i]? = w.heap[i]?
section
variable {w W W2 : World} {S S2 S' : Nat → Prop}
theorem Kept.refl (w : World) (S : Nat → Prop) : Kept w w S := ⟨Nat.le_refl _, fun _ _ _ => rfl⟩
theorem Kept.Er (h : Below w.heap.size w W) (S : Nat → Prop) : Kept w W S := ⟨h.size, fun i hi _ => h.block i hi⟩
theorem Kept.mono (h : Kept w W S) (hs : ∀ k, S k → S' k) : Kept w W S' := ⟨h.1, fun i hi hn => h.2 i hi (fun hk => hn (hs i hk))⟩
theorem Kept.SB (h : Kept w W S) (k : Kept W W2 S2) (hs : ∀ k, S2 k → S k ∨ w.heap.size ≤ k) : Kept w W2 S :=
 ⟨Nat.le_trans h.1 k.1, fun i hi hn => (k.2 i (Nat.lt_of_lt_of_le hi h.1) (fun h2 => (hs i h2).elim hn (fun h3 => by omega))).trans (h.2 i hi hn)⟩
theorem Kept.nU {row : Option Nat} (hg : W.grownBy W2 row) (h : Kept w W S) (hr : ∀ k, row = some k → S k ∨ w.heap.size ≤ k) : Kept w W2 S :=
 h.SB (S2 := fun k => row = some k) ⟨hg.size, fun i hi hn => hg.block i hi (fun he => hn he.symm)⟩ hr
theorem Kept.below (h : Kept w W S) (hb : Below W.heap.size W W2) : Kept w W2 S := h.SB (Kept.Er hb (fun _ => False)) (fun _ hk => hk.elim)
theorem Kept.alloc (h : Kept w W S) (o : Obj) : Kept w (W.alloc o) S := h.below (eV (Below.refl _ _) o)
theorem Kept.drew (h : Kept w W S) : Kept w W.drew S := h
theorem Kept.drewN (h : Kept w W S) (m : Nat) : Kept w (W.drewN m) S := h
theorem Kept.setCell (h : Kept w W S) {p : Addr} (hp : S p.block ∨ w.heap.size ≤ p.block) (u : Value) : Kept w (W.setCell p u) S :=
 h.SB (S2 := fun k => k = p.block) ⟨by simp [World.setCell], fun i _ hn => Below.heap_setCell W p u i hn⟩ (fun k hk => by rw [hk]; exact hp)
theorem rO {g : Nat} {o : Obj} (hb : W.heap[g]? = some o) (hk : Kept W W2 S) (fv : ¬ S g) : W2.heap[g]? = some o := (hk.2 g (d_ hb) fv).trans hb
end
namespace Kd
section
variable {α : Type} {d : Kd α} {e base n c : Nat} {ok xJ S S2 : Nat → Prop} {w w0 W W1 W2 : World} {v : Value} {A : Option Addr} {xs : List α} {i : Int} {cs : List Value}
theorem Hv (h : d.R e W base ok v xs) (hk : Kept W W2 S) (fv : ∀ k, ok k → ¬ S k) : d.R e W2 base ok v xs := vm h (fun k ho gS => hk.2 k gS (fv k ho))
theorem adV (h : Kd.S d e W base ok v xs) (hk : Kept W W2 S) (fv : ∀ k, ok k → ¬ S k) : Kd.S d e W2 base ok v xs := JI h (fun k ho gS => hk.2 k gS (fv k ho))
end
end Kd
end Go.Proofs.YtggiicplcglalaaGreatW.PrintWords
end
section
namespace Go.Proofs.YtggiicplcglalaaGreatW.PrintWords
open Go.RowKit
def Foot (P : World → Prop) (W : World) (ok : Nat → Prop) : Prop := ∀ W' : World, (∀ k, ok k → k < W.heap.size → W'.heap[k]? = W.heap[k]?) → P W'
theorem WH {W W1 : World} {k : Nat} (h : W1.heap[k]? = W.heap[k]?) (gS : k < W.heap.size) : k < W1.heap.size := by
 rw [Array.getElem?_eq_getElem gS] at h
 exact (Array.getElem?_eq_some_iff.1 h).1
namespace Foot
variable {P Q : World → Prop} {W W1 : World} {ok ok' : Nat → Prop}
theorem now (h : Foot P W ok) : P W := h W (fun _ _ _ => rfl)
theorem mono (h : Foot P W ok) (gr : ∀ k, ok k → ok' k) : Foot P W ok' := fun W' hW => h W' (fun k hk gS => hW k (gr k hk) gS)
theorem SC (h : Foot P W ok) : Foot P W (fun k => ok k ∧ k < W.heap.size) := fun W' hW => h W' (fun k hk gS => hW k ⟨hk, gS⟩ gS)
theorem step (h : Foot P W ok) (hm : ∀ k, ok k → k < W.heap.size → W1.heap[k]? = W.heap[k]?) : Foot P W1 ok := fun W' hW => h W' (fun k hk gS => (hW k hk (WH (hm k hk gS) gS)).trans (hm k hk gS))
theorem imp (h : Foot P W ok) (hi : ∀ W', P W' → Q W') : Foot Q W ok := fun W' hW => hi W' (h W' hW)
theorem Ry (h : Foot P W ok) (hb : Below W.heap.size W W1) : Foot P W1 (fun k => ok k ∧ k < W.heap.size) := (h.SC).step (fun k _ gS => hb.block k gS)
end Foot
namespace Kd
def F {α : Type} (d : Kd α) (W : World) (ok : Nat → Prop) (A : Option Addr) (n : Nat) (xs : List α) : Prop := Foot (fun W => d.C W A n xs) W ok
def FK {α : Type} (d : Kd α) (W : World) (ok : Nat → Prop) (x : α) (c : List Value) : Prop := Foot (fun W => d.K W x c) W ok
section
variable {α β : Type} {d : Kd α} {e base n n' cc g N : Nat} {ok ok' okp S : Nat → Prop} {w w0 w1 W W1 : World} {A A' : Option Addr} {u v v1 : Value} {xs : List α} {xs' : List β} {d' : Kd β} {x : α} {c : List Value}
theorem SD (h : F d W ok A n xs) : d.C W A n xs := Foot.now h
theorem rN (h : F d W ok A n xs) (gr : ∀ k, ok k → ok' k) : F d W ok' A n xs := Foot.mono h gr
theorem Da (h : F d W ok A n xs) : F d W (fun k => ok k ∧ k < W.heap.size) A n xs := Foot.SC h
theorem JL (h : F d W ok A n xs) (hm : ∀ k, ok k → k < W.heap.size → W1.heap[k]? = W.heap[k]?) : F d W1 ok A n xs := Foot.step h hm
theorem ZH (h : F d W ok A n xs) (hi : ∀ W', d.C W' A n xs → d'.C W' A' n' xs') : F d' W ok A' n' xs' := Foot.imp h hi
theorem mh (h : F d W ok A n xs) (hb : Below W.heap.size W W1) : F d W1 ok A n xs := JL h (fun k _ gS => hb.block k gS)
theorem WI (h : F d W ok A n xs) (o : Obj) : F d (W.alloc o) ok A n xs := mh h (eV (Below.refl _ _) o)
theorem adW (h : F d W ok A n xs) : F d W.drew ok A n xs := mh h (lY (Below.refl _ _))
theorem WJ (h : F d W ok A n xs) (m : Nat) : F d (W.drewN m) ok A n xs := mh h (dN (Below.refl _ _) m)
theorem akO (h : F d W ok A n xs) {p : Addr} (gr : ∀ k, ok k → k ≠ p.block) (u : Value) : F d (W.setCell p u) ok A n xs := JL h (fun k hk _ => Below.heap_setCell W p u k (gr k hk))
theorem adX (h : F d W ok A n xs) (hk : Kept W W1 S) (gr : ∀ k, ok k → ¬ S k) : F d W1 ok A n xs := JL h (fun k ho gS => hk.2 k gS (gr k ho))
theorem akP (d : Kd α) (W : World) (ok : Nat → Prop) : F d W ok none ([] : List α).length [] := fun W' _ => agN d W'
theorem SE (h : F d W ok A n xs) (cP : ∀ k, v.ownBlock = some k → W.heap.size ≤ k) (hb : Below W.heap.size W W1) : F d W1 (fun k => ok k ∧ some k ≠ v.ownBlock) A n xs :=
 rN (Foot.Ry h hb) (fun k hk => ⟨hk.1, fun he => by have := cP k he.symm; have := hk.2; omega⟩)
theorem SF (h : F d W ok A n xs) (a : Nat) (ha : W.heap.size ≤ a) : F d W (fun k => ok k ∧ k ≠ a) A n xs := rN (Da h) (fun k hk => ⟨hk.1, by have := hk.2; omega⟩)
theorem WK (h : F d W (fun k => ok k ∧ some k ≠ v.ownBlock) A n xs) (hg : W.grownBy W1 v.ownBlock) (bk : v1.ownBlock = v.ownBlock ∨ ∃ b, v1.ownBlock = some b ∧ W.heap.size ≤ b) : F d W1 (fun k => ok k ∧ some k ≠ v1.ownBlock) A n xs := by
 refine rN (Foot.step (Da h) (fun k hk gS => hg.block k gS hk.1.2)) (fun k hk => ⟨hk.1.1, ?_⟩)
 rcases bk with bk | ⟨b, hb, hle⟩
 ·rw [bk]; exact hk.1.2
 ·rw [hb]
  intro he
  injection he with he
  have := hk.2
  omega
theorem UK (hd : Heap d) (h : d.C w A n xs) : F d w (fun k => k < w.heap.size) A n xs := fun _ hW => hd.C (fun k gS => hW k gS gS) h
theorem R_F (h : d.R e W base ok (.slice A n cc) xs) : F d W ok A n xs := fun W' hW => by
 have h2 := aq (vm h hW)
 rw [h2.1]
 exact h2.2.2
theorem qe (h : FK d W ok x c) : d.K W x c := Foot.now h
theorem sM (h : FK d W ok x c) (gr : ∀ k, ok k → ok' k) : FK d W ok' x c := Foot.mono h gr
theorem AE (h : FK d W ok x c) : FK d W (fun k => ok k ∧ k < W.heap.size) x c := Foot.SC h
theorem Db (h : FK d W ok x c) (hm : ∀ k, ok k → k < W.heap.size → W1.heap[k]? = W.heap[k]?) : FK d W1 ok x c := Foot.step h hm
theorem WL (h : d.M W base ok x c) : FK d W ok x c := fun _ hW => d.ep (yo h hW)
theorem WM (W : World) (g : Nat) : ∃ W' : World, (∀ k, k ≠ g → W'.heap[k]? = W.heap[k]?) ∧ ∀ a : Addr, a.block = g → W'.cell? a = none := by
 refine ⟨{ W with heap := W.heap.setIfInBounds g (.cells #[] 0) }, fun k hk => by simp [Ne.symm hk], fun a ha => ?_⟩
 subst ha
 by_cases gS : a.block < W.heap.size
 ·simp [World.cell?, gS]
 ·simp [World.cell?, gS]
end
end Kd
end Go.Proofs.YtggiicplcglalaaGreatW.PrintWords
end
