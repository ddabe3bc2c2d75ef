/- The law BlockTells for every input: texts of ours, put together (part 3 of 16). No further condition. -/
import Derived.Test.YtemhalnhbgkbcaaCBlockTellsw1
import Derived.Test.YtemhalnhbgkbcaaCBlockTellsw0
set_option linter.unusedVariables false
set_option linter.unusedSimpArgs false
namespace Go.Proofs.Ytemhalnhbgkbcaa.Z
open Go.RowKit Go.Proofs.YtemhalnhbgkbcaaW.PrintWords Go.Proofs.YtemhalnhbgkbcaaW.PrintLast Go.Proofs.YtemhalnhbgkbcaaW.PrintMore
theorem ak {p : Prop} (h : p) : Aside0 p := ⟨h⟩
section
variable {P : Program} {ops : Array Oper} {Q : Exit → Act → World → Prop} {md : Region.Mode} {S : World → Prop} {ds : List Nat} {T : Bool × List (List Nat × List Nat)} {oi oj : Oper} {n m : Tmp} {v : Value} {fuel : Nat} {l l' l'' : Array Bool} {a a' : Act} {w w1 : World} {K : Act → World → Prop} {B : List Nat}
theorem pu (i : Nat) (hT : dC md ops = T) (h : bl P md ops Q S ds fuel l' a' w) (hi : ops[i]? = some oi := by rfl) (hN : oi.dst = some n := by rfl) (FA : l.setIfInBounds i true = l' := by simp only [List.setIfInBounds_toArray, List.set_cons_zero, List.set_cons_succ]; rfl)
  (hc : D6 T l.toList l'.toList i = true := by kernel_rfl) (hQ : ∀ c a w, Q (.panic c) (a.put oi.dst v) w → Q (.panic c) a w := by exact fun _ _ _ h => h) (hw : Region.wanted oi (yielded ops a.tmps) = true := by rfl)
  (hv : ∀ w', (execOp a.eval oi).run P w' = .ok (.value v) w' := by intro w'; go_simp; with_reducible rfl) (ha : a.put (some n) v = a' := by simp only [Act.put, List.setIfInBounds_toArray, List.set_cons_zero, List.set_cons_succ, l9, mS]; rfl) : bl P md ops Q S ds (fuel + 1) l a w :=
 Ha l' hi hN (Fy hT hc) hQ (Or.inl ⟨hw, hv⟩) ha h
theorem po (i : Nat) (hT : dC md ops = T) (h : bl P md ops Q S ds fuel l' a' w) (hi : ops[i]? = some oi := by rfl) (hN : oi.dst = some n := by rfl) (FA : l.setIfInBounds i true = l' := by simp only [List.setIfInBounds_toArray, List.set_cons_zero, List.set_cons_succ]; rfl)
  (hc : D6 T l.toList l'.toList i = true := by kernel_rfl) (hQ : ∀ c a w, Q (.panic c) (a.put oi.dst undef) w → Q (.panic c) a w := by exact fun _ _ _ h => h) (hw : Region.wanted oi (yielded ops a.tmps) = false := by rfl)
  (ha : a.put (some n) undef = a' := by simp only [Act.put, List.setIfInBounds_toArray, List.set_cons_zero, List.set_cons_succ, l9, mS]; rfl) : bl P md ops Q S ds (fuel + 1) l a w :=
 Ha l' hi hN (Fy hT hc) hQ (Or.inr ⟨hw, rfl⟩) ha h
theorem tk (i : Nat) (hT : dC md ops = T) (hB : cU T.2 B = true) (hS : S w) (h : bl P md ops Q S ds fuel l' a' w) (hi : ops[i]? = some oi := by rfl) (hN : oi.dst = some n := by rfl) (FA : l.setIfInBounds i true = l' := by simp only [List.setIfInBounds_toArray, List.set_cons_zero, List.set_cons_succ]; rfl)
  (hc : DA T B ds l.toList l'.toList i = true := by kernel_rfl) (hQ : ∀ c a w, Q (.panic c) (a.put oi.dst v) w → Q (.panic c) a w := by exact fun _ _ _ h => h) (hw : Region.wanted oi (yielded ops a.tmps) = true := by rfl)
  (hv : ∀ w', S w' → (execOp a.eval oi).run P w' = .ok (.value v) w' := by intro w' aU; go_simp; with_reducible rfl) (ha : a.put (some n) v = a' := by simp only [Act.put, List.setIfInBounds_toArray, List.set_cons_zero, List.set_cons_succ, l9, mS]; rfl) : bl P md ops Q S ds (fuel + 1) l a w :=
 take_ l' hi hN (pU hT hB hc) hQ (Or.inl ⟨hw, hv⟩) hS ha h
theorem on (i : Nat) (hT : dC md ops = T) (h : ∀ K : Act → World → Prop, Shut (∀ a' w', S w' → (S w' → bl P md ops Q S ds fuel l' a' w') → K a' w') → if Region.wanted oi (yielded ops a.tmps) = true then Oper.wp P oi a w K Q else K (a.put (some n) undef) w)
  (hi : ops[i]? = some oi := by rfl) (hN : oi.dst = some n := by rfl) (FA : l.setIfInBounds i true = l' := by simp only [List.setIfInBounds_toArray, List.set_cons_zero, List.set_cons_succ]; rfl)
  (hc : (mK T.2 l.toList == [i] && l.toList.set i true == l'.toList) = true := by kernel_rfl) (hd : i ∉ ds := by decide) : bl P md ops Q S ds (fuel + 1) l a w :=
 Lc l' hi hN (lL hT hc) hd h
theorem ow (i : Nat) (hT : dC md ops = T) (h : ∀ K : Act → World → Prop, Shut (∀ a' w', S w' → (S w' → bl P md ops Q S ds fuel l' a' w') → K a' w') → if Region.wanted oi (yielded ops a.tmps) = true then Oper.wp P oi a w K Q else K (a.put none undef) w)
  (hi : ops[i]? = some oi := by rfl) (hN : oi.dst = none := by rfl) (FA : l.setIfInBounds i true = l' := by simp only [List.setIfInBounds_toArray, List.set_cons_zero, List.set_cons_succ]; rfl)
  (hc : (mK T.2 l.toList == [i] && l.toList.set i true == l'.toList) = true := by kernel_rfl) (hd : i ∉ ds := by decide) : bl P md ops Q S ds (fuel + 1) l a w :=
 Lc l' hi hN (lL hT hc) hd h
theorem tw (i j : Nat) (hT : dC md ops = T)
  (h1 : ∀ K : Act → World → Prop, Shut (∀ a' w', S w' → (S w' → bl P md ops Q S ds fuel l' a' w') → K a' w') → if Region.wanted oi (yielded ops a.tmps) = true then Oper.wp P oi a w K Q else K (a.put (some n) undef) w)
  (h2 : ∀ K : Act → World → Prop, Shut (∀ a' w', S w' → (S w' → bl P md ops Q S ds fuel l'' a' w') → K a' w') → if Region.wanted oj (yielded ops a.tmps) = true then Oper.wp P oj a w K Q else K (a.put (some m) undef) w)
  (hi : ops[i]? = some oi := by rfl) (hj : ops[j]? = some oj := by rfl) (hNi : oi.dst = some n := by rfl) (hNj : oj.dst = some m := by rfl)
  (FA : l.setIfInBounds i true = l' := by simp only [List.setIfInBounds_toArray, List.set_cons_zero, List.set_cons_succ]; rfl) (UA : l.setIfInBounds j true = l'' := by simp only [List.setIfInBounds_toArray, List.set_cons_zero, List.set_cons_succ]; rfl)
  (hc : (mK T.2 l.toList == [i, j] && l.toList.set i true == l'.toList && l.toList.set j true == l''.toList) = true := by kernel_rfl) (hdi : i ∉ ds := by decide) (hdj : j ∉ ds := by decide) : bl P md ops Q S ds (fuel + 1) l a w :=
 OO l' l'' hi hj hNi hNj (K5 hT hc) hdi hdj h1 h2
theorem gs {R : Ending → World → Prop} {f : FuncId} {fn : Func} {os : Array Operand} {ts : Array TypeId} {L : Option Tmp} (hf : P.funcs[f]? = some fn) (args : Array Value) (hC : Calls P f args w R) (h : ∀ e w', R e w' → ∃ v, e = .returned v ∧ K (a.put L v) w')
  (hname : (fn.name == "runtime.NumGoroutine") = false := by kernel_rfl) (hb : fn.body.isSome = true := by rfl) (hw : Region.wanted oi (yielded ops a.tmps) = true := by rfl) (hN : oi.dst = L := by rfl) (hop : oi.op = .call { callee := .value (.func f), args := os, argTypes := ts } := by rfl)
  (hargs : os.map a.eval = args := by (try simp only [List.map_toArray, List.map_cons, List.map_nil]); first | done | rfl) : if Region.wanted oi (yielded ops a.tmps) = true then Oper.wp P oi a w K Q else K (a.put L undef) w :=
 MS hf hname hb args hw hN hop hargs (hC.mono h)
theorem kn (hK : Shut (∀ a' w', S w' → (S w' → bl P md ops Q S ds fuel l a' w') → K a' w')) (hs : S w) (h : S w → bl P md ops Q S ds fuel l a' w) (ha : a.put (some n) v = a' := by simp only [Act.put, List.setIfInBounds_toArray, List.set_cons_zero, List.set_cons_succ, l9, mS]; rfl) : K (a.put (some n) v) w :=
 hK.out _ _ hs (fun h' => DN ha (h h'))
theorem nc (h : bl P md ops Q S ds fuel l a' w) (ha : a = a' := by first | (simp only [sG, Act.put, List.setIfInBounds_toArray, List.set_cons_zero, List.set_cons_succ]; done) | (simp only [sG, Act.put, List.setIfInBounds_toArray, List.set_cons_zero, List.set_cons_succ]; rfl)) : bl P md ops Q S ds fuel l a w := DN ha h
theorem nj (h : bl P md ops Q S ds fuel l a' w) (ha : a = a' := by simp only [sG, Act.put, List.setIfInBounds_toArray, List.set_cons_zero, List.set_cons_succ]; rfl) : bl P md ops Q S ds fuel l a w := DN ha h
theorem dn (hT : dC md ops = T) (h : Q .normal a w) (hc : (mK T.2 l.toList == []) = true := by kernel_rfl) : bl P md ops Q S ds fuel l a w := MV (Ks hT hc) h
end
end Go.Proofs.Ytemhalnhbgkbcaa.Z
