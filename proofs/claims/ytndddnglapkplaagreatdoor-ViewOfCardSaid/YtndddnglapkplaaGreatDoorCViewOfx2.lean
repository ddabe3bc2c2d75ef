/- The law ViewOf for every input: texts of ours, put together (part 3 of 17). No further condition. -/
import Derived.Test.YtndddnglapkplaaGreatDoorCViewOfw1
import Derived.Test.YtndddnglapkplaaGreatDoorCViewOfw0
set_option linter.unusedVariables false
set_option linter.unusedSimpArgs false
set_option linter.unusedSectionVars false
namespace Go.Proofs.YtndddnglapkplaaGreatDoor.Z
open Go.RowKit Go.Proofs.YtndddnglapkplaaGreatDoorW.PrintWords Go.Proofs.YtndddnglapkplaaGreatDoorW.PrintLast Go.Proofs.YtndddnglapkplaaGreatDoorW.PrintMore
theorem ak {p : Prop} (h : p) : Aside0 p := ⟨h⟩
section
variable {P : Program} {ops : Array Oper} {Q : Exit → Act → World → Prop} {md : Region.Mode} {S : World → Prop} {ds : List Nat} {T : Bool × List (List Nat × List Nat)} {oi oj : Oper} {n m : Tmp} {v : Value} {fuel : Nat} {l l' l'' : Array Bool} {a a' : Act} {w w1 : World} {K : Act → World → Prop} {B : List Nat}
theorem pu (i : Nat) (hT : dA md ops = T) (h : a6 P md ops Q S ds fuel l' a' w) (hi : ops[i]? = some oi := by rfl) (hN : oi.dst = some n := by rfl) (M4 : l.setIfInBounds i true = l' := by simp only [List.setIfInBounds_toArray, List.set_cons_zero, List.set_cons_succ]; rfl)
  (hc : Kq T l.toList l'.toList i = true := by kernel_rfl) (hQ : ∀ c a w, Q (.panic c) (a.put oi.dst v) w → Q (.panic c) a w := by exact fun _ _ _ h => h) (hw : Region.wanted oi (yielded ops a.tmps) = true := by rfl)
  (hv : ∀ w', (execOp a.eval oi).run P w' = .ok (.value v) w' := by intro w'; go_simp; with_reducible rfl) (ha : a.put (some n) v = a' := by simp only [Act.put, List.setIfInBounds_toArray, List.set_cons_zero, List.set_cons_succ, gO, kj]; rfl) : a6 P md ops Q S ds (fuel + 1) l a w :=
 PB l' hi hN (MZ hT hc) hQ (Or.inl ⟨hw, hv⟩) ha h
theorem po (i : Nat) (hT : dA md ops = T) (h : a6 P md ops Q S ds fuel l' a' w) (hi : ops[i]? = some oi := by rfl) (hN : oi.dst = some n := by rfl) (M4 : l.setIfInBounds i true = l' := by simp only [List.setIfInBounds_toArray, List.set_cons_zero, List.set_cons_succ]; rfl)
  (hc : Kq T l.toList l'.toList i = true := by kernel_rfl) (hQ : ∀ c a w, Q (.panic c) (a.put oi.dst undef) w → Q (.panic c) a w := by exact fun _ _ _ h => h) (hw : Region.wanted oi (yielded ops a.tmps) = false := by rfl)
  (ha : a.put (some n) undef = a' := by simp only [Act.put, List.setIfInBounds_toArray, List.set_cons_zero, List.set_cons_succ, gO, kj]; rfl) : a6 P md ops Q S ds (fuel + 1) l a w :=
 PB l' hi hN (MZ hT hc) hQ (Or.inr ⟨hw, rfl⟩) ha h
theorem tk (i : Nat) (hT : dA md ops = T) (hB : dy T.2 B = true) (hS : S w) (h : a6 P md ops Q S ds fuel l' a' w) (hi : ops[i]? = some oi := by rfl) (hN : oi.dst = some n := by rfl) (M4 : l.setIfInBounds i true = l' := by simp only [List.setIfInBounds_toArray, List.set_cons_zero, List.set_cons_succ]; rfl)
  (hc : Jy T B ds l.toList l'.toList i = true := by kernel_rfl) (hQ : ∀ c a w, Q (.panic c) (a.put oi.dst v) w → Q (.panic c) a w := by exact fun _ _ _ h => h) (hw : Region.wanted oi (yielded ops a.tmps) = true := by rfl)
  (hv : ∀ w', S w' → (execOp a.eval oi).run P w' = .ok (.value v) w' := by intro w' bx; go_simp; with_reducible rfl) (ha : a.put (some n) v = a' := by simp only [Act.put, List.setIfInBounds_toArray, List.set_cons_zero, List.set_cons_succ, gO, kj]; rfl) : a6 P md ops Q S ds (fuel + 1) l a w :=
 take_ l' hi hN (No hT hB hc) hQ (Or.inl ⟨hw, hv⟩) hS ha h
theorem on (i : Nat) (hT : dA md ops = T) (h : ∀ K : Act → World → Prop, Shut (∀ a' w', S w' → (S w' → a6 P md ops Q S ds fuel l' a' w') → K a' w') → if Region.wanted oi (yielded ops a.tmps) = true then Oper.wp P oi a w K Q else K (a.put (some n) undef) w)
  (hi : ops[i]? = some oi := by rfl) (hN : oi.dst = some n := by rfl) (M4 : l.setIfInBounds i true = l' := by simp only [List.setIfInBounds_toArray, List.set_cons_zero, List.set_cons_succ]; rfl)
  (hc : (oh T.2 l.toList == [i] && l.toList.set i true == l'.toList) = true := by kernel_rfl) (hd : i ∉ ds := by decide) : a6 P md ops Q S ds (fuel + 1) l a w :=
 TG l' hi hN (rA hT hc) hd h
theorem ow (i : Nat) (hT : dA md ops = T) (h : ∀ K : Act → World → Prop, Shut (∀ a' w', S w' → (S w' → a6 P md ops Q S ds fuel l' a' w') → K a' w') → if Region.wanted oi (yielded ops a.tmps) = true then Oper.wp P oi a w K Q else K (a.put none undef) w)
  (hi : ops[i]? = some oi := by rfl) (hN : oi.dst = none := by rfl) (M4 : l.setIfInBounds i true = l' := by simp only [List.setIfInBounds_toArray, List.set_cons_zero, List.set_cons_succ]; rfl)
  (hc : (oh T.2 l.toList == [i] && l.toList.set i true == l'.toList) = true := by kernel_rfl) (hd : i ∉ ds := by decide) : a6 P md ops Q S ds (fuel + 1) l a w :=
 TG l' hi hN (rA hT hc) hd h
theorem tw (i j : Nat) (hT : dA md ops = T)
  (h1 : ∀ K : Act → World → Prop, Shut (∀ a' w', S w' → (S w' → a6 P md ops Q S ds fuel l' a' w') → K a' w') → if Region.wanted oi (yielded ops a.tmps) = true then Oper.wp P oi a w K Q else K (a.put (some n) undef) w)
  (h2 : ∀ K : Act → World → Prop, Shut (∀ a' w', S w' → (S w' → a6 P md ops Q S ds fuel l'' a' w') → K a' w') → if Region.wanted oj (yielded ops a.tmps) = true then Oper.wp P oj a w K Q else K (a.put (some m) undef) w)
  (hi : ops[i]? = some oi := by rfl) (hj : ops[j]? = some oj := by rfl) (hNi : oi.dst = some n := by rfl) (hNj : oj.dst = some m := by rfl)
  (M4 : l.setIfInBounds i true = l' := by simp only [List.setIfInBounds_toArray, List.set_cons_zero, List.set_cons_succ]; rfl) (_hm : l.setIfInBounds j true = l'' := by simp only [List.setIfInBounds_toArray, List.set_cons_zero, List.set_cons_succ]; rfl)
  (hc : (oh T.2 l.toList == [i, j] && l.toList.set i true == l'.toList && l.toList.set j true == l''.toList) = true := by kernel_rfl) (hdi : i ∉ ds := by decide) (hdj : j ∉ ds := by decide) : a6 P md ops Q S ds (fuel + 1) l a w :=
 Zb l' l'' hi hj hNi hNj (Tn hT hc) hdi hdj h1 h2
theorem gs {R : Ending → World → Prop} {f : FuncId} {fn : Func} {os : Array Operand} {ts : Array TypeId} {L : Option Tmp} (hf : P.funcs[f]? = some fn) (args : Array Value) (hC : Calls P f args w R) (h : ∀ e w', R e w' → ∃ v, e = .returned v ∧ K (a.put L v) w')
  (hname : (fn.name == "runtime.NumGoroutine") = false := by kernel_rfl) (hb : fn.body.isSome = true := by rfl) (hw : Region.wanted oi (yielded ops a.tmps) = true := by rfl) (hN : oi.dst = L := by rfl) (hop : oi.op = .call { callee := .value (.func f), args := os, argTypes := ts } := by rfl)
  (hargs : os.map a.eval = args := by (try simp only [List.map_toArray, List.map_cons, List.map_nil]); first | done | rfl | (simp only [List.length_drop, List.length_take]; rfl)) : if Region.wanted oi (yielded ops a.tmps) = true then Oper.wp P oi a w K Q else K (a.put L undef) w :=
 WZ hf hname hb args hw hN hop hargs (hC.mono h)
theorem kn (hK : Shut (∀ a' w', S w' → (S w' → a6 P md ops Q S ds fuel l a' w') → K a' w')) (hs : S w) (h : S w → a6 P md ops Q S ds fuel l a' w) (ha : a.put (some n) v = a' := by simp only [Act.put, List.setIfInBounds_toArray, List.set_cons_zero, List.set_cons_succ, gO, kj]; rfl) : K (a.put (some n) v) w :=
 hK.out _ _ hs (fun h' => y7 ha (h h'))
theorem nc (h : a6 P md ops Q S ds fuel l a' w) (ha : a = a' := by first | (simp only [qc, Act.put, List.setIfInBounds_toArray, List.set_cons_zero, List.set_cons_succ]; done) | (simp only [qc, Act.put, List.setIfInBounds_toArray, List.set_cons_zero, List.set_cons_succ]; rfl)) : a6 P md ops Q S ds fuel l a w := y7 ha h
theorem nj (h : a6 P md ops Q S ds fuel l a' w) (ha : a = a' := by simp only [qc, Act.put, List.setIfInBounds_toArray, List.set_cons_zero, List.set_cons_succ]; rfl) : a6 P md ops Q S ds fuel l a w := y7 ha h
theorem dn (hT : dA md ops = T) (h : Q .normal a w) (hc : (oh T.2 l.toList == []) = true := by kernel_rfl) : a6 P md ops Q S ds fuel l a w := Xm (Sn hT hc) h
end
section
variable {w W W1 W2 : World} {g g2 t : Nat} {o : Obj}
theorem bl {p : Prop} (h : p := by repeat (first | (with_reducible first | exact HB.out | apply cO | apply bh | apply gM | refine vm ?_ (Aside0.out (by assumption))) | exact HB.out)) : p := h
theorem dl {p : Prop} (h : p := by repeat (first | exact Drawn0.refl _ | apply Drawn0.step)) : p := h
theorem bs (hb : Below W.heap.size W W1) (h : Below w.heap.size w W := by repeat (first | (with_reducible first | exact HB.out | apply cO | apply bh | apply gM | refine vm ?_ (Aside0.out (by assumption))) | exact HB.out)) : Aside0 (Below w.heap.size w W1) := ⟨dj h hb⟩
theorem gl (hg : g = W.heap.size) (h : Below w.heap.size w W := by repeat (first | (with_reducible first | exact HB.out | apply cO | apply bh | apply gM | refine vm ?_ (Aside0.out (by assumption))) | exact HB.out)) : w.heap.size ≤ g := by rw [hg]; exact fj h
theorem bk {p q : Prop} (h : Aside0 q) (f : q → p := by intro h_; (with_reducible repeat (first | refine ag ?_ _ | refine aj ?_ | refine ah ?_ _)); exact h_) : p := f h.out
theorem bm (h : Aside0 (W.heap[g]? = some o)) (hb : Below W1.heap.size W1 W2) (f : W.heap[g]? = some o → W1.heap[g]? = some o := by intro h_; (with_reducible repeat (first | refine ag ?_ _ | refine aj ?_ | refine ah ?_ _)); exact h_) : Aside0 (W2.heap[g]? = some o) := ⟨hJ (f h.out) hb⟩
theorem nl (h : Aside0 (W.heap[g]? = some o)) (hg : g2 = W1.heap.size) (f : W.heap[g]? = some o → W1.heap[g]? = some o := by intro h_; (with_reducible repeat (first | refine ag ?_ _ | refine aj ?_ | refine ah ?_ _)); exact h_) : g ≠ g2 := by rw [hg]; exact Nat.ne_of_lt (wP (f h.out))
theorem ng (h : Aside0 (W.heap[g]? = some o)) (hg : g2 = W1.heap.size) (f : W.heap[g]? = some o → W1.heap[g]? = some o := by intro h_; (with_reducible repeat (first | refine ag ?_ _ | refine aj ?_ | refine ah ?_ _)); exact h_) : g2 ≠ g := by rw [hg]; exact Nat.ne_of_gt (wP (f h.out))
theorem od {p : Prop} [Decidable p] (h : decide p = true := by first | (with_reducible assumption) | assumption) : p := of_decide_eq_true h
theorem rf {p : Prop} (h : p := by first | rfl | (simp; done) | (simp [*]; done)) : p := h
theorem rg {p : Prop} (h : p := by first | rfl | (simp [db, da] <;> rfl) | (simp [*, db, da] <;> rfl)) : p := h
theorem hc {a : Addr} {v : Value} (h : Aside0 (Below w.heap.size w W)) (hx : w.cell? a = some v) : W.cell? a = some v := (h.out.cell (World.block_lt_of_cell? w a hx)).trans hx
theorem cf {cs : Array Value} (h : Aside0 (W.heap[g]? = some (.cells cs t (0, 0)))) (i : Nat) {v : Value} (hv : cs.toList[i]? = some v := by rfl) : W.cell? ⟨g, i, none⟩ = some v := by rw [cD h.out i, ← Array.getElem?_toList]; exact hv
end
section
variable {P : Program} {ops : Array Oper} {rest : List Oper} {o : Oper} {a : Act} {Q : Exit → Act → World → Prop}
theorem bE {W : World} {N : Tmp} {cs : Array Value} {t : TypeId} (h : ∀ g, g = W.heap.size → ∀ w1, w1.heap[g]? = some (.cells cs t (0, 0)) → Below W.heap.size W w1 → wpList P ops Q rest (a.put o.dst (.pointer (some ⟨g, 0, none⟩))) w1) (hd : o.dst = some N := by rfl) (hgd : o.guard = none := by rfl)
  (hrun : (execOp a.eval o).run P W = .ok (.value (.pointer (some ⟨W.heap.size, 0, none⟩))) (W.alloc (.cells cs t (0, 0))) := by first | (go_simp; done) | (go_simp; rfl)) : wpList P ops Q (o :: rest) a W := MU hgd hd hrun h
theorem gC {w : World} (N : Option Tmp) {f : FuncId} {fn : Func} {as : Array Operand} {ts : Array TypeId} (hf : P.funcs[f]? = some fn) (args : Array Value) (h : Calls P f args w fun e w' => ∃ v, e = .returned v ∧ wpList P ops Q rest (a.put N v) w')
  (hname : (fn.name == "runtime.NumGoroutine") = false := by kernel_rfl) (hd : o.dst = N := by rfl) (hg : o.guard = none := by rfl) (hb : fn.body.isSome = true := by rfl) (hop : o.op = .call { callee := .value (.func f), args := as, argTypes := ts } := by rfl)
  (hargs : as.map a.eval = args := by (try simp only [List.map_toArray, List.map_cons, List.map_nil]); first | done | rfl | (simp only [List.length_drop, List.length_take]; rfl)) : wpList P ops Q (o :: rest) a w := wu N hd hg hf hname hb args hop hargs h
end
end Go.Proofs.YtndddnglapkplaaGreatDoor.Z
