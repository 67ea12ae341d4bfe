/- Short forms of a walk's steps: what each step owes by computation alone stands here once. No condition. -/
import Derived.Test.YtdepaileabejgaaGreatDoorShort
namespace Go.Proofs.YtdepaileabejgaaGreatDoorW.Short
open Go Go.RowKit Go.Proofs.YtdepaileabejgaaGreatDoorW.PrintWords Go.Proofs.YtdepaileabejgaaGreatDoorW.PrintLast Go.Proofs.YtdepaileabejgaaGreatDoorW.PrintMore
section
variable {P : Program} {md : Region.Mode} {ops : Array Oper} {Q : Exit → Act → World → Prop} {S : World → Prop} {ds : List Nat} {T : Bool × List (List Nat × List Nat)}
theorem pu {oi : Oper} {v : Value} {fuel : Nat} {l : Array Bool} {a a' : Act} {w : World} (HT : Aside0 (rtab md ops = T)) (i : Nat) (N : Tmp)
    (h : wpAnyLast P md ops Q S ds fuel (l.setIfInBounds i true) a' w) (hi : ops[i]? = some oi := by rfl) (hN : oi.dst = some N := by rfl) (hc : anyT T l.toList (l.setIfInBounds i true).toList i = true := by kernel_rfl)
    (hQ : ∀ c a w, Q (.panic c) (a.put oi.dst v) w → Q (.panic c) a w := by exact fun _ _ _ h => h) (hw : Region.wanted oi (yielded ops a.tmps) = true := by rfl)
    (hv : ∀ w', (execOp a.eval oi).run P w' = .ok (.value v) w' := by intro w'; go_simp; with_reducible rfl) (ha : a.put (some N) v = a' := by simp only [Act.put, zA, zB, zC, i64_w, i32_w]; rfl) :
    wpAnyLast P md ops Q S ds (fuel + 1) l a w := pure_ _ hi hN (any_of HT.out hc) hQ (Or.inl ⟨hw, hv⟩) ha h
theorem pz {oi : Oper} {fuel : Nat} {l : Array Bool} {a a' : Act} {w : World} (HT : Aside0 (rtab md ops = T)) (i : Nat) (N : Tmp)
    (h : wpAnyLast P md ops Q S ds fuel (l.setIfInBounds i true) a' w) (hi : ops[i]? = some oi := by rfl) (hN : oi.dst = some N := by rfl) (hc : anyT T l.toList (l.setIfInBounds i true).toList i = true := by kernel_rfl)
    (hQ : ∀ c a w, Q (.panic c) (a.put oi.dst undef) w → Q (.panic c) a w := by exact fun _ _ _ h => h) (hw : Region.wanted oi (yielded ops a.tmps) = false := by rfl) (ha : a.put (some N) undef = a' := by simp only [Act.put, zA, zB, zC, i64_w, i32_w]; rfl) :
    wpAnyLast P md ops Q S ds (fuel + 1) l a w := pure_ _ hi hN (any_of HT.out hc) hQ (Or.inr ⟨hw, rfl⟩) ha h
theorem tk {oi : Oper} {v : Value} {fuel : Nat} {l : Array Bool} {a a' : Act} {w : World} {B : List Nat} (HT : Aside0 (rtab md ops = T)) (HW : Aside0 (waitsOk T.2 B = true)) (hS : S w) (i : Nat) (N : Tmp)
    (h : wpAnyLast P md ops Q S ds fuel (l.setIfInBounds i true) a' w) (hi : ops[i]? = some oi := by rfl) (hN : oi.dst = some N := by rfl) (hc : takeW T B ds l.toList (l.setIfInBounds i true).toList i = true := by kernel_rfl)
    (hQ : ∀ c a w, Q (.panic c) (a.put oi.dst v) w → Q (.panic c) a w := by exact fun _ _ _ h => h) (hw : Region.wanted oi (yielded ops a.tmps) = true := by rfl)
    (hv : ∀ w', S w' → (execOp a.eval oi).run P w' = .ok (.value v) w' := by intro w' s_; (repeat (obtain ⟨_, s_⟩ := s_)); go_simp; with_reducible rfl) (ha : a.put (some N) v = a' := by simp only [Act.put, zA, zB, zC, i64_w, i32_w]; rfl) :
    wpAnyLast P md ops Q S ds (fuel + 1) l a w := take_ _ hi hN (take_ofW HT.out HW.out hc) hQ (Or.inl ⟨hw, hv⟩) hS ha h
theorem on {oi : Oper} {fuel : Nat} {l : Array Bool} {a : Act} {w : World} (HT : Aside0 (rtab md ops = T)) (i : Nat) (N : Tmp)
    (h : ∀ K : Act → World → Prop, Shut (∀ a' w', S w' → (S w' → wpAnyLast P md ops Q S ds fuel (l.setIfInBounds i true) a' w') → K a' w') → if Region.wanted oi (yielded ops a.tmps) = true then Oper.wp P oi a w K Q else K (a.put (some N) undef) w)
    (hi : ops[i]? = some oi := by rfl) (hN : oi.dst = some N := by rfl) (hc : (readyT T.2 l.toList == [i] && l.toList.set i true == (l.setIfInBounds i true).toList) = true := by kernel_rfl) (hd : i ∉ ds := by decide) :
    wpAnyLast P md ops Q S ds (fuel + 1) l a w := one_ _ hi hN (one_of HT.out hc) hd h
theorem on0 {oi : Oper} {fuel : Nat} {l : Array Bool} {a : Act} {w : World} (HT : Aside0 (rtab md ops = T)) (i : Nat)
    (h : ∀ K : Act → World → Prop, Shut (∀ a' w', S w' → (S w' → wpAnyLast P md ops Q S ds fuel (l.setIfInBounds i true) a' w') → K a' w') → if Region.wanted oi (yielded ops a.tmps) = true then Oper.wp P oi a w K Q else K (a.put (none) undef) w)
    (hi : ops[i]? = some oi := by rfl) (hN : oi.dst = none := by rfl) (hc : (readyT T.2 l.toList == [i] && l.toList.set i true == (l.setIfInBounds i true).toList) = true := by kernel_rfl) (hd : i ∉ ds := by decide) :
    wpAnyLast P md ops Q S ds (fuel + 1) l a w := one_ _ hi hN (one_of HT.out hc) hd h
theorem pv {oi : Oper} {v : Value} {fuel : Nat} {l : Array Bool} {a a' : Act} {w : World} (i : Nat) (N : Tmp)
    (h : wpAnyLast P md ops Q S ds fuel (l.setIfInBounds i true) a' w) (hi : ops[i]? = some oi := by rfl) (hN : oi.dst = some N := by rfl) (hc : anyB md ops l (l.setIfInBounds i true) i = true := by kernel_rfl)
    (hQ : ∀ c a w, Q (.panic c) (a.put oi.dst v) w → Q (.panic c) a w := by exact fun _ _ _ h => h) (hw : Region.wanted oi (yielded ops a.tmps) = true := by rfl)
    (hv : ∀ w', (execOp a.eval oi).run P w' = .ok (.value v) w' := by intro w'; go_simp; with_reducible rfl) (ha : a.put (some N) v = a' := by simp only [Act.put, zA, zB, zC, i64_w, i32_w]; rfl) :
    wpAnyLast P md ops Q S ds (fuel + 1) l a w := pure_ _ hi hN hc hQ (Or.inl ⟨hw, hv⟩) ha h
theorem tv {oi : Oper} {v : Value} {fuel : Nat} {l : Array Bool} {a a' : Act} {w : World} (hS : S w) (i : Nat) (N : Tmp)
    (h : wpAnyLast P md ops Q S ds fuel (l.setIfInBounds i true) a' w) (hi : ops[i]? = some oi := by rfl) (hN : oi.dst = some N := by rfl) (hc : takeB md ops ds l (l.setIfInBounds i true) i = true := by kernel_rfl)
    (hQ : ∀ c a w, Q (.panic c) (a.put oi.dst v) w → Q (.panic c) a w := by exact fun _ _ _ h => h) (hw : Region.wanted oi (yielded ops a.tmps) = true := by rfl)
    (hv : ∀ w', S w' → (execOp a.eval oi).run P w' = .ok (.value v) w' := by intro w' s_; (repeat (obtain ⟨_, s_⟩ := s_)); go_simp; with_reducible rfl) (ha : a.put (some N) v = a' := by simp only [Act.put, zA, zB, zC, i64_w, i32_w]; rfl) :
    wpAnyLast P md ops Q S ds (fuel + 1) l a w := take_ _ hi hN hc hQ (Or.inl ⟨hw, hv⟩) hS ha h
theorem ov {oi : Oper} {fuel : Nat} {l : Array Bool} {a : Act} {w : World} (i : Nat) (N : Tmp)
    (h : ∀ K : Act → World → Prop, Shut (∀ a' w', S w' → (S w' → wpAnyLast P md ops Q S ds fuel (l.setIfInBounds i true) a' w') → K a' w') → if Region.wanted oi (yielded ops a.tmps) = true then Oper.wp P oi a w K Q else K (a.put (some N) undef) w)
    (hi : ops[i]? = some oi := by rfl) (hN : oi.dst = some N := by rfl) (hc : readyB md ops l (l.setIfInBounds i true) i = true := by kernel_rfl) (hd : i ∉ ds := by decide) :
    wpAnyLast P md ops Q S ds (fuel + 1) l a w := one_ _ hi hN hc hd h
theorem ov0 {oi : Oper} {fuel : Nat} {l : Array Bool} {a : Act} {w : World} (i : Nat)
    (h : ∀ K : Act → World → Prop, Shut (∀ a' w', S w' → (S w' → wpAnyLast P md ops Q S ds fuel (l.setIfInBounds i true) a' w') → K a' w') → if Region.wanted oi (yielded ops a.tmps) = true then Oper.wp P oi a w K Q else K (a.put none undef) w)
    (hi : ops[i]? = some oi := by rfl) (hN : oi.dst = none := by rfl) (hc : readyB md ops l (l.setIfInBounds i true) i = true := by kernel_rfl) (hd : i ∉ ds := by decide) :
    wpAnyLast P md ops Q S ds (fuel + 1) l a w := one_ _ hi hN hc hd h
theorem sk {oi : Oper} {a : Act} {w w1 : World} {K : Act → World → Prop} (h : K a w1) (hw : Region.wanted oi (yielded ops a.tmps) = true := by rfl) (hN : oi.dst = none := by rfl)
    (hr : (execOp a.eval oi).run P w = .ok .skip w1 := by go_simp; rfl) : if Region.wanted oi (yielded ops a.tmps) = true then Oper.wp P oi a w K Q else K (a.put none undef) w := skip_ hw hN hr h
theorem dn {l : Array Bool} {a : Act} {w : World} {n : Nat} (HT : Aside0 (rtab md ops = T)) (h : Q .normal a w) (hc : (readyT T.2 l.toList == []) = true := by kernel_rfl) : wpAnyLast P md ops Q S ds n l a w := done_ (done_of HT.out hc) h
theorem dv {l : Array Bool} {a : Act} {w : World} {n : Nat} (h : Q .normal a w) (hc : (Region.ready md ops l == []) = true := by kernel_rfl) : wpAnyLast P md ops Q S ds n l a w := done_ hc h
theorem gq {oi : Oper} {N : Option Tmp} {a : Act} {w : World} {K : Act → World → Prop} {f : FuncId} {fn : Func} {as : Array Operand} {ts : Array TypeId} {args : Array Value} {v : Value} {R : World → Prop} (hf : P.funcs[f]? = some fn)
    (h : Calls P f args w fun e w' => e = .returned v ∧ R w') (hk : ∀ w', R w' → K (a.put N v) w') (hop : oi.op = .call { callee := .value (.func f), args := as, argTypes := ts } := by rfl) (hname : (fn.name == "runtime.NumGoroutine") = false := by kernel_rfl) (hb : fn.body.isSome = true := by rfl)
    (hw : Region.wanted oi (yielded ops a.tmps) = true := by rfl) (hN : oi.dst = N := by rfl)
    (hargs : as.map a.eval = args := by (try simp only [List.map_toArray, List.map_cons, List.map_nil]); first | done | rfl | (simp only [List.length_drop, List.length_take]; rfl)) :
    if Region.wanted oi (yielded ops a.tmps) = true then Oper.wp P oi a w K Q else K (a.put N undef) w := goes_ hf hname hb args hw hN hop hargs (h.mono fun _ w' h => ⟨v, h.1, hk w' h.2⟩)
theorem gqv {oi : Oper} {N : Option Tmp} {a : Act} {w : World} {K : Act → World → Prop} {f : FuncId} {fn : Func} {as : Array Operand} {ts : Array TypeId} {args : Array Value} {v : Value → Value} {R : Value → World → Prop} (hf : P.funcs[f]? = some fn)
    (h : Calls P f args w fun e w' => ∃ x, e = .returned (v x) ∧ R x w') (hk : ∀ x w', R x w' → K (a.put N (v x)) w') (hop : oi.op = .call { callee := .value (.func f), args := as, argTypes := ts } := by rfl) (hname : (fn.name == "runtime.NumGoroutine") = false := by kernel_rfl) (hb : fn.body.isSome = true := by rfl)
    (hw : Region.wanted oi (yielded ops a.tmps) = true := by rfl) (hN : oi.dst = N := by rfl)
    (hargs : as.map a.eval = args := by (try simp only [List.map_toArray, List.map_cons, List.map_nil]); first | done | rfl | (simp only [List.length_drop, List.length_take]; rfl)) :
    if Region.wanted oi (yielded ops a.tmps) = true then Oper.wp P oi a w K Q else K (a.put N undef) w := goes_ hf hname hb args hw hN hop hargs (h.mono fun _ w' ⟨x, h⟩ => ⟨v x, h.1, hk x w' h.2⟩)
theorem gs {oi : Oper} {N : Option Tmp} {a : Act} {w : World} {K : Act → World → Prop} {f : FuncId} {fn : Func} {as : Array Operand} {ts : Array TypeId} (hf : P.funcs[f]? = some fn) (args : Array Value)
    (h : Calls P f args w fun e w' => ∃ v, e = .returned v ∧ K (a.put N v) w') (hop : oi.op = .call { callee := .value (.func f), args := as, argTypes := ts } := by rfl) (hname : (fn.name == "runtime.NumGoroutine") = false := by kernel_rfl) (hb : fn.body.isSome = true := by rfl)
    (hw : Region.wanted oi (yielded ops a.tmps) = true := by rfl) (hN : oi.dst = N := by rfl)
    (hargs : as.map a.eval = args := by (try simp only [List.map_toArray, List.map_cons, List.map_nil]); first | done | rfl | (simp only [List.length_drop, List.length_take]; rfl)) :
    if Region.wanted oi (yielded ops a.tmps) = true then Oper.wp P oi a w K Q else K (a.put N undef) w := goes_ hf hname hb args hw hN hop hargs h
theorem nm {fuel : Nat} {l : Array Bool} {a a' : Act} {v : Value} {w : World} (N : Tmp) (h : wpAnyLast P md ops Q S ds fuel l a' w) (ha : Act.put a (some N) v = a' := by simp only [Act.put, zA, zB, zC, i64_w, i32_w]; rfl) :
    wpAnyLast P md ops Q S ds fuel l (Act.put a (some N) v) w := norm_ ha h
theorem nq {fuel : Nat} {l : Array Bool} {a a' : Act} {w : World} (h : wpAnyLast P md ops Q S ds fuel l a' w) (ha : a = a' := by simp only [putAll, Act.put, zA, zB, zC]; rfl) : wpAnyLast P md ops Q S ds fuel l a w := norm_ ha h
theorem st0 {id : Nat} {a : Act} {w : World} (n : Nat) (S : World → Prop) (hS : S w.drew) (h : S w.drew → wpAnyLast P .any ops Q S [] n (Array.replicate n false) a w.drew) (hm : P.follows .mixedOrders = true := by kernel_rfl) (hn : ops.size = n := by rfl) :
    (Code.region id ops true).wp P Q a w := start_ _ hm hn rfl hS h
theorem st {id : Nat} {a : Act} {w : World} {B : List Nat} (n : Nat) (S : World → Prop) (hT : rtab .any ops = T) (hB : waitsOk T.2 B = true) (hS : S w.drew) (h : S w.drew → Aside0 (rtab .any ops = T) → Aside0 (waitsOk T.2 B = true) → wpAnyLast P .any ops Q S [] n (Array.replicate n false) a w.drew)
    (hm : P.follows .mixedOrders = true := by kernel_rfl) (hn : ops.size = n := by rfl) : (Code.region id ops true).wp P Q a w := start_ _ hm hn rfl hS fun x => h x ⟨hT⟩ ⟨hB⟩
end
section
variable {P : Program} {ops : Array Oper} {rest : List Oper} {o : Oper} {a : Act} {Q : Exit → Act → World → Prop} {W : World}
theorem bx (N : Tmp) (t : TypeId) (cs : Array Value) (h : ∀ g, g = W.heap.size → ∀ w1, Aside0 (w1.heap[g]? = some (.cells cs t (0, 0))) → Below W.heap.size W w1 → wpList P ops Q rest (a.put (some N) (.pointer (some ⟨g, 0, none⟩))) w1)
    (hd : o.dst = some N := by rfl) (hg : o.guard = none := by rfl) (hr : (execOp a.eval o).run P W = .ok (.value (.pointer (some ⟨W.heap.size, 0, none⟩))) (W.alloc (.cells cs t (0, 0))) := by first | (go_simp; done) | (go_simp; rfl)) :
    wpList P ops Q (o :: rest) a W := by
  rw [← hd] at h
  exact box_event hg hd hr fun g e w1 h1 h2 => h g e w1 ⟨h1⟩ h2
theorem gd (N : Tmp) (_h : o.dst = some N) (h : wpList P ops Q (o :: rest) a W) : wpList P ops Q (o :: rest) a W := h
theorem gl (f : FuncId) (N : Tmp) {fn : Func} {as : Array Operand} {ts : Array TypeId} (hf : P.funcs[f]? = some fn) (args : Array Value)
    (h : Calls P f args W fun e w' => ∃ v, e = .returned v ∧ wpList P ops Q rest (a.put (some N) v) w')
    (ho : o.op = .call { callee := .value (.func f), args := as, argTypes := ts } := by with_reducible rfl) (hd : o.dst = some N := by rfl) (hg : o.guard = none := by rfl) (hname : (fn.name == "runtime.NumGoroutine") = false := by kernel_rfl) (hb : fn.body.isSome = true := by rfl)
    (hargs : as.map a.eval = args := by (try simp only [List.map_toArray, List.map_cons, List.map_nil]); first | done | rfl | (simp only [List.length_drop, List.length_take]; rfl)) : wpList P ops Q (o :: rest) a W := goesL_ _ hd hg hf hname hb args ho hargs h
theorem gc (N : Tmp) {f : FuncId} {fn : Func} {as : Array Operand} {ts : Array TypeId} {args : Array Value} {v : Value} {R : World → Prop} (hf : P.funcs[f]? = some fn)
    (h : Calls P f args W fun e w' => e = .returned v ∧ R w') (hk : ∀ w', R w' → wpList P ops Q rest (a.put (some N) v) w')
    (ho : o.op = .call { callee := .value (.func f), args := as, argTypes := ts } := by with_reducible rfl) (hd : o.dst = some N := by rfl) (hg : o.guard = none := by rfl) (hname : (fn.name == "runtime.NumGoroutine") = false := by kernel_rfl) (hb : fn.body.isSome = true := by rfl)
    (hargs : as.map a.eval = args := by (try simp only [List.map_toArray, List.map_cons, List.map_nil]); first | done | rfl | (simp only [List.length_drop, List.length_take]; rfl)) : wpList P ops Q (o :: rest) a W := goesL_ _ hd hg hf hname hb args ho hargs (h.mono fun _ w' h => ⟨v, h.1, hk w' h.2⟩)
theorem gcv (N : Tmp) {f : FuncId} {fn : Func} {as : Array Operand} {ts : Array TypeId} {args : Array Value} {v : Value → Value} {R : Value → World → Prop} (hf : P.funcs[f]? = some fn)
    (h : Calls P f args W fun e w' => ∃ x, e = .returned (v x) ∧ R x w') (hk : ∀ x w', R x w' → wpList P ops Q rest (a.put (some N) (v x)) w')
    (ho : o.op = .call { callee := .value (.func f), args := as, argTypes := ts } := by with_reducible rfl) (hd : o.dst = some N := by rfl) (hg : o.guard = none := by rfl) (hname : (fn.name == "runtime.NumGoroutine") = false := by kernel_rfl) (hb : fn.body.isSome = true := by rfl)
    (hargs : as.map a.eval = args := by (try simp only [List.map_toArray, List.map_cons, List.map_nil]); first | done | rfl | (simp only [List.length_drop, List.length_take]; rfl)) : wpList P ops Q (o :: rest) a W := goesL_ _ hd hg hf hname hb args ho hargs (h.mono fun _ w' ⟨x, h⟩ => ⟨v x, h.1, hk x w' h.2⟩)
end
section
variable {W : World} {w w' : World} {n g g' : Nat} {o : Obj}
theorem ge_ (hg : g = W.heap.size) (h : Aside0 (Below n w w')) (hs : Below n w w' → Below n w W := by
    intro h_; repeat (first | (with_reducible first | exact h_ | apply below_alloc | apply pw_below_drewN | apply below_drew1 | refine below_set ?_ (Aside0.out (by with_reducible assumption))) | exact h_)) (hn : w.heap.size = n := by rfl) : Aside0 (n ≤ g) := ⟨by subst hn; rw [hg]; exact below_size (hs h.out)⟩
theorem nl_ (hg : g' = W.heap.size) (h : Aside0 (w.heap[g]? = some o)) (hs : w.heap[g]? = some o → W.heap[g]? = some o := by
    intro h_; (with_reducible repeat (first | refine blk_drewN ?_ _ | refine blk_drew ?_ | refine blk_alloc ?_ _)); exact h_) : Aside0 (g ≠ g') := ⟨by rw [hg]; exact Nat.ne_of_lt (blk_lt (hs h.out))⟩
theorem nr_ (hg : g' = W.heap.size) (h : Aside0 (w.heap[g]? = some o)) (hs : w.heap[g]? = some o → W.heap[g]? = some o := by
    intro h_; (with_reducible repeat (first | refine blk_drewN ?_ _ | refine blk_drew ?_ | refine blk_alloc ?_ _)); exact h_) : Aside0 (g' ≠ g) := ⟨by rw [hg]; exact Nat.ne_of_gt (blk_lt (hs h.out))⟩
end
section
variable {w : World} {g : Nat} {t : TypeId} {v0 v1 v2 v3 v4 v5 : Value}
theorem bc1 (h : Aside0 (w.heap[g]? = some (.cells #[v0] t (0, 0)))) : w.cell? ⟨g, 0, none⟩ = some v0 ∧ w.frozen? ⟨g, 0, none⟩ = false := ⟨bc h 0, blk_frozen h.out 0⟩
theorem bc3 (h : Aside0 (w.heap[g]? = some (.cells #[v0, v1, v2] t (0, 0)))) : w.cell? ⟨g, 0, none⟩ = some v0 ∧ w.cell? ⟨g, 1, none⟩ = some v1 ∧ w.cell? ⟨g, 2, none⟩ = some v2 ∧ w.frozen? ⟨g, 0, none⟩ = false ∧ w.frozen? ⟨g, 1, none⟩ = false ∧ w.frozen? ⟨g, 2, none⟩ = false := ⟨bc h 0, bc h 1, bc h 2, blk_frozen h.out 0, blk_frozen h.out 1, blk_frozen h.out 2⟩
theorem bc6 (h : Aside0 (w.heap[g]? = some (.cells #[v0, v1, v2, v3, v4, v5] t (0, 0)))) : w.cell? ⟨g, 0, none⟩ = some v0 ∧ w.cell? ⟨g, 1, none⟩ = some v1 ∧ w.cell? ⟨g, 2, none⟩ = some v2 ∧ w.cell? ⟨g, 3, none⟩ = some v3 ∧ w.cell? ⟨g, 4, none⟩ = some v4 ∧ w.cell? ⟨g, 5, none⟩ = some v5 ∧
    w.frozen? ⟨g, 0, none⟩ = false ∧ w.frozen? ⟨g, 1, none⟩ = false ∧ w.frozen? ⟨g, 2, none⟩ = false ∧ w.frozen? ⟨g, 3, none⟩ = false ∧ w.frozen? ⟨g, 4, none⟩ = false ∧ w.frozen? ⟨g, 5, none⟩ = false :=
  ⟨bc h 0, bc h 1, bc h 2, bc h 3, bc h 4, bc h 5, blk_frozen h.out 0, blk_frozen h.out 1, blk_frozen h.out 2, blk_frozen h.out 3, blk_frozen h.out 4, blk_frozen h.out 5⟩
end
section
variable {w w' w1 : World} {g : Nat} {t : TypeId} {cs cs' : Array Value}
theorem bg (h : Aside0 (w.heap[g]? = some (.cells cs t (0, 0)))) (hs : w.heap[g]? = some (.cells cs t (0, 0)) → w'.heap[g]? = some (.cells cs t (0, 0)) := by
    intro h_; repeat (first | (with_reducible first | exact h_ | refine blk_drewN ?_ _ | refine blk_drew ?_ | refine blk_alloc ?_ _) | refine (Below.heap_setCell _ _ _ _ (Aside0.out (by with_reducible assumption))).trans ?_ | exact h_)) : w'.heap[g]? = some (.cells cs t (0, 0)) := hs h.out
theorem bbg (h : Aside0 (w.heap[g]? = some (.cells cs t (0, 0)))) (hb : Below w'.heap.size w' w1) (hs : w.heap[g]? = some (.cells cs t (0, 0)) → w'.heap[g]? = some (.cells cs t (0, 0)) := by
    intro h_; repeat (first | (with_reducible first | exact h_ | refine blk_drewN ?_ _ | refine blk_drew ?_ | refine blk_alloc ?_ _) | refine (Below.heap_setCell _ _ _ _ (Aside0.out (by with_reducible assumption))).trans ?_ | exact h_)) : Aside0 (w1.heap[g]? = some (.cells cs t (0, 0))) := ⟨blk_below (hs h.out) hb⟩
theorem bp (h : Aside0 (w.heap[g]? = some (.cells cs t (0, 0)))) (hs : w.heap[g]? = some (.cells cs t (0, 0)) → ∃ c, w'.heap[g]? = some (.cells c t (0, 0)) ∧ c = cs' := by
    intro h_; apply Exists.intro; apply And.intro
    · repeat (first | (with_reducible first | exact h_ | refine blk_drewN ?_ _ | refine blk_drew ?_ | refine blk_alloc ?_ _ | apply blk_set) | refine (Below.heap_setCell _ _ _ _ (Aside0.out (by with_reducible assumption))).trans ?_ | exact h_)
    · first | (simp only [zA, zB, zC]; done) | rfl) : w'.heap[g]? = some (.cells cs' t (0, 0)) := by
  obtain ⟨c, h1, rfl⟩ := hs h.out
  exact h1
theorem bbp (h : Aside0 (w.heap[g]? = some (.cells cs t (0, 0)))) (hb : Below w'.heap.size w' w1) (cs' : Array Value) (hs : w.heap[g]? = some (.cells cs t (0, 0)) → ∃ c, w'.heap[g]? = some (.cells c t (0, 0)) ∧ c = cs' := by
    intro h_; apply Exists.intro; apply And.intro
    · repeat (first | (with_reducible first | exact h_ | refine blk_drewN ?_ _ | refine blk_drew ?_ | refine blk_alloc ?_ _ | apply blk_set) | refine (Below.heap_setCell _ _ _ _ (Aside0.out (by with_reducible assumption))).trans ?_ | exact h_)
    · first | (simp only [zA, zB, zC]; done) | rfl) : Aside0 (w1.heap[g]? = some (.cells cs' t (0, 0))) := by
  obtain ⟨c, h1, rfl⟩ := hs h.out
  exact ⟨blk_below h1 hb⟩
end
section
variable {α : Type} {d : Kd α} {e base : Nat} {ok : Nat → Prop} {w w' w1 : World} {v : Value} {xs : List α} {g t n c : Nat} {cells : Array Value} {A : Option Addr}
theorem rf (h : Aside0 (d.R e w base ok v xs)) (b : Aside0 (w.heap[g]? = some (.cells cells t (0, 0)))) (hs : d.R e w base (fun k => ok k ∧ k ≠ g) v xs → d.R e w' base (fun k => ok k ∧ k ≠ g) v xs := by
    intro h_; repeat (first | (with_reducible first | exact h_ | apply Kd.R_alloc | apply Kd.R_drewN | apply Kd.R_drew) | refine Kd.R_far ?_ (fun _ hk => hk.2) _ | exact h_)) (ht : ∀ q, q ∈ e :: d.E → q ≠ t := by decide) : d.R e w' base ok v xs :=
  Kd.R_mono (hs (Kd.R_types h.out b.out ht)) (fun _ hk => hk.1)
theorem rfm {ok' : Nat → Prop} (h : Aside0 (d.R e w base ok v xs)) (b : Aside0 (w.heap[g]? = some (.cells cells t (0, 0)))) (hs : d.R e w base (fun k => ok k ∧ k ≠ g) v xs → d.R e w' base (fun k => ok k ∧ k ≠ g) v xs := by
    intro h_; repeat (first | (with_reducible first | exact h_ | apply Kd.R_alloc | apply Kd.R_drewN | apply Kd.R_drew) | refine Kd.R_far ?_ (by first | exact fun _ hk => hk.2 | exact fun _ hk => hk.1.2) _ | exact h_)) (ht : ∀ q, q ∈ e :: d.E → q ≠ t := by decide) (hm : ∀ k, ok k → ok' k := by first | exact fun _ h => h | exact fun _ _ => trivial | exact fun _ h => h.1) : d.R e w' base ok' v xs :=
  Kd.R_mono (hs (Kd.R_types h.out b.out ht)) (fun k hk => hm k hk.1)
theorem rfm2 {ok' : Nat → Prop} {g2 t2 : Nat} {cells2 : Array Value} (h : Aside0 (d.R e w base ok v xs)) (b : Aside0 (w.heap[g]? = some (.cells cells t (0, 0)))) (b2 : Aside0 (w.heap[g2]? = some (.cells cells2 t2 (0, 0)))) (hs : d.R e w base (fun k => (ok k ∧ k ≠ g) ∧ k ≠ g2) v xs → d.R e w' base (fun k => (ok k ∧ k ≠ g) ∧ k ≠ g2) v xs := by
    intro h_; repeat (first | (with_reducible first | exact h_ | apply Kd.R_alloc | apply Kd.R_drewN | apply Kd.R_drew) | refine Kd.R_far ?_ (by first | exact fun _ hk => hk.2 | exact fun _ hk => hk.1.2) _ | exact h_)) (ht : ∀ q, q ∈ e :: d.E → q ≠ t := by decide) (ht2 : ∀ q, q ∈ e :: d.E → q ≠ t2 := by decide) (hm : ∀ k, ok k → ok' k := by first | exact fun _ h => h | exact fun _ _ => trivial | exact fun _ h => h.1) : d.R e w' base ok' v xs :=
  Kd.R_mono (hs (Kd.R_types (Kd.R_types h.out b.out ht) b2.out ht2)) (fun k hk => hm k hk.1.1)
theorem rfb (h : Aside0 (d.R e w base ok v xs)) (b : Aside0 (w.heap[g]? = some (.cells cells t (0, 0)))) (hb : Below w'.heap.size w' w1) (hs : d.R e w base (fun k => ok k ∧ k ≠ g) v xs → d.R e w' base (fun k => ok k ∧ k ≠ g) v xs := by
    intro h_; repeat (first | (with_reducible first | exact h_ | apply Kd.R_alloc | apply Kd.R_drewN | apply Kd.R_drew) | refine Kd.R_far ?_ (fun _ hk => hk.2) _ | exact h_)) (ht : ∀ q, q ∈ e :: d.E → q ≠ t := by decide) : Aside0 (d.R e w1 base ok v xs) :=
  ⟨Kd.R_below (Kd.R_mono (hs (Kd.R_types h.out b.out ht)) (fun _ hk => hk.1)) hb⟩
theorem rcf (h : Aside0 (d.R e w base ok (.slice A n c) xs)) (b : Aside0 (w.heap[g]? = some (.cells cells t (0, 0)))) (hs : d.R e w base (fun k => ok k ∧ k ≠ g) (.slice A n c) xs → d.R e w' base (fun k => ok k ∧ k ≠ g) (.slice A n c) xs := by
    intro h_; repeat (first | (with_reducible first | exact h_ | apply Kd.R_alloc | apply Kd.R_drewN | apply Kd.R_drew) | refine Kd.R_far ?_ (fun _ hk => hk.2) _ | exact h_)) (ht : ∀ q, q ∈ e :: d.E → q ≠ t := by decide) : d.C w' A xs.length xs :=
  (Kd.R_reads' (hs (Kd.R_types h.out b.out ht))).2.2
theorem ca (h : Aside0 (d.C w A n xs)) (hb : Aside0 (Below w.heap.size w w1)) (hs : d.C w1 A n xs → d.C w' A n xs := by
    intro h_; repeat (first | (with_reducible first | exact h_ | apply Kd.C_alloc | apply Kd.C_drewN | apply Kd.C_drew) | exact h_)) : d.C w' A n xs := hs (Kd.C_below h.out hb.out)
theorem cr (h : Aside0 (d.R e w base ok (.slice A n c) xs)) (hs : d.C w A xs.length xs → d.C w' A xs.length xs := by
    intro h_; repeat (first | (with_reducible first | exact h_ | apply Kd.C_alloc | apply Kd.C_drewN | apply Kd.C_drew) | exact h_)) : d.C w' A xs.length xs := hs (Kd.R_reads' h.out).2.2
end
theorem xb {w w1 : World} {a : Addr} {v : Value} (hb : Aside0 (Below w.heap.size w w1)) (h : w.cell? a = some v) : w1.cell? a = some v := (hb.out.cell (World.block_lt_of_cell? w _ h)).trans h
theorem xc {w w1 w2 : World} {a : Addr} {v : Value} (hb : Aside0 (Below w.heap.size w w1)) (h : w.cell? a = some v) (hs : w1.cell? a = some v → w2.cell? a = some v := by exact fun h => h) : w2.cell? a = some v := hs (xb hb h)
theorem hp {p : Prop} (h : p := by
    (try have h9_ := hHeld); (repeat obtain ⟨_, h9_⟩ := h9_); repeat' apply And.intro
    all_goals ((repeat with_reducible refine (cell_far (Aside0.out (by with_reducible assumption)) _).trans ?_); first | (with_reducible assumption) | exact bc (by with_reducible assumption) _ | exact bc (by assumption) _)) : p := h
theorem bs {α β : Type} {x y : α} {f : α → Option β} {r : Option β} (hy : y = x) (h : (some x).bind f = r) : f y = r := by subst hy; exact h
theorem ifs {α : Type} {p : Prop} [Decidable p] {A : Option α} {r : α} (h : (if p then A else none) = some r) : p ∧ A = some r := by
  by_cases c : p
  · rw [if_pos c] at h; exact ⟨c, h⟩
  · rw [if_neg c] at h; cases h
theorem si {α : Type} {p : Prop} [Decidable p] {A B r : α} {G : Prop} (h1 : p → A = r → G) (h2 : ¬ p → B = r → G) : (if p then A else B) = r → G := by
  by_cases c : p
  · rw [if_pos c]; exact h1 c
  · rw [if_neg c]; exact h2 c
theorem bo {α β : Type} {x : Option α} {f : α → Option β} {r : β} (h : x.bind f = some r) : ∃ a, Aside0 (x = some a) ∧ f a = some r := by
  obtain ⟨a, h1, h2⟩ := Option.bind_eq_some_iff.mp h
  exact ⟨a, ⟨h1⟩, h2⟩
theorem bsx {α β : Type} {x : α} {f : α → Option β} {r : Option β} (h : (some x).bind f = r) : ∃ y, Aside0 (y = x) ∧ f y = r := ⟨x, ⟨rfl⟩, h⟩
theorem bs1 {w w1 w2 w3 : World} (h : Aside0 (Below w.heap.size w w1)) (hb : Below w2.heap.size w2 w3) (hs : Below w.heap.size w w1 → Below w.heap.size w w2 := by
    intro h_; repeat (first | (with_reducible first | exact h_ | apply below_alloc | apply pw_below_drewN | apply below_drew1 | refine below_set ?_ (Aside0.out (by assumption))) | exact h_)) : Aside0 (Below w.heap.size w w3) := ⟨below_step (hs h.out) hb⟩
theorem nf : ¬ (false = true) := by decide
theorem da {p : Prop} [Decidable p] (h : decide p = true := by first | (with_reducible assumption) | assumption) : p := of_decide_eq_true h
theorem fr {p : Prop} (h : p := by first | rfl | (simp; done) | (simp [*]; done)) : p := h
theorem ak {p : Prop} (h : p) : Aside0 p := ⟨h⟩
theorem dt {p : Prop} [Decidable p] (h : p) : decide p = true := decide_eq_true h
theorem df {p : Prop} [Decidable p] (h : ¬ p) : decide p = false := decide_eq_false h
theorem oj {α : Type} {a b : α} (h : some a = some b) : a = b := Option.some.inj h
section
variable {A B C D E F G H : Type} {a a' : A} {b b' : B} {c c' : C} {d d' : D} {e e' : E} {f f' : F} {g g' : G} {h h' : H}
theorem o2 (x : some (a, b) = some (a', b')) : a = a' ∧ b = b' := by cases x; exact ⟨rfl, rfl⟩
theorem o3 (x : some (a, b, c) = some (a', b', c')) : a = a' ∧ b = b' ∧ c = c' := by cases x; exact ⟨rfl, rfl, rfl⟩
theorem o4 (x : some (a, b, c, d) = some (a', b', c', d')) : a = a' ∧ b = b' ∧ c = c' ∧ d = d' := by cases x; exact ⟨rfl, rfl, rfl, rfl⟩
theorem o5 (x : some (a, b, c, d, e) = some (a', b', c', d', e')) : a = a' ∧ b = b' ∧ c = c' ∧ d = d' ∧ e = e' := by cases x; exact ⟨rfl, rfl, rfl, rfl, rfl⟩
theorem o6 (x : some (a, b, c, d, e, f) = some (a', b', c', d', e', f')) : a = a' ∧ b = b' ∧ c = c' ∧ d = d' ∧ e = e' ∧ f = f' := by cases x; exact ⟨rfl, rfl, rfl, rfl, rfl, rfl⟩
theorem o8 (x : some (a, b, c, d, e, f, g, h) = some (a', b', c', d', e', f', g', h')) : a = a' ∧ b = b' ∧ c = c' ∧ d = d' ∧ e = e' ∧ f = f' ∧ g = g' ∧ h = h' := by cases x; exact ⟨rfl, rfl, rfl, rfl, rfl, rfl, rfl, rfl⟩
end
theorem jj (x : Int) : ∃ j : Int, wrap64 x = j ∧ IntKind.i64.wrap x = j := ⟨_, rfl, i64_w _⟩
theorem d0 {p : Prop} (h : p := by repeat (first | exact Drawn0.refl _ | apply Drawn0.step)) : p := h
theorem kb {w w1 w' : World} {g : Nat} {r : Option Nat} (h : Aside0 (KeepBut w w1 g r)) (hs : KeepBut w w1 g r → KeepBut w w' g r := by
    intro h_; repeat (first | (with_reducible first | exact h_ | apply KeepBut.set_ | apply keep_drewN | apply keep_drew | apply keep_alloc) | exact h_)) : KeepBut w w' g r := hs h.out
theorem kp {w w1 w' : World} {S : Nat → Prop} (h : Aside0 (Kept w w1 S)) (hs : Kept w w1 S → Kept w w' S := by
    intro h_; repeat (first | (with_reducible first | exact h_ | apply Kept.alloc | apply Kept.drewN | apply Kept.drew) | exact h_)) : Kept w w' S := hs h.out
abbrev d2 (w : World) (g : Nat) (a b : Value) : Prop := w.cell? ⟨g, 0, none⟩ = some a ∧ w.cell? ⟨g, 1, none⟩ = some b
abbrev c2 (w : World) (g : Nat) (a b : Value) (p : Prop) : Prop := w.cell? ⟨g, 0, none⟩ = some a ∧ w.cell? ⟨g, 1, none⟩ = some b ∧ p
abbrev d3 (w : World) (g : Nat) (a b c : Value) : Prop := w.cell? ⟨g, 0, none⟩ = some a ∧ w.cell? ⟨g, 1, none⟩ = some b ∧ w.cell? ⟨g, 2, none⟩ = some c
abbrev c3 (w : World) (g : Nat) (a b c : Value) (p : Prop) : Prop := w.cell? ⟨g, 0, none⟩ = some a ∧ w.cell? ⟨g, 1, none⟩ = some b ∧ w.cell? ⟨g, 2, none⟩ = some c ∧ p
abbrev d6 (w : World) (g : Nat) (a b c d e f : Value) : Prop := w.cell? ⟨g, 0, none⟩ = some a ∧ w.cell? ⟨g, 1, none⟩ = some b ∧ w.cell? ⟨g, 2, none⟩ = some c ∧ w.cell? ⟨g, 3, none⟩ = some d ∧ w.cell? ⟨g, 4, none⟩ = some e ∧ w.cell? ⟨g, 5, none⟩ = some f
abbrev c6 (w : World) (g : Nat) (a b c d e f : Value) (p : Prop) : Prop := w.cell? ⟨g, 0, none⟩ = some a ∧ w.cell? ⟨g, 1, none⟩ = some b ∧ w.cell? ⟨g, 2, none⟩ = some c ∧ w.cell? ⟨g, 3, none⟩ = some d ∧ w.cell? ⟨g, 4, none⟩ = some e ∧ w.cell? ⟨g, 5, none⟩ = some f ∧ p
end Go.Proofs.YtdepaileabejgaaGreatDoorW.Short
