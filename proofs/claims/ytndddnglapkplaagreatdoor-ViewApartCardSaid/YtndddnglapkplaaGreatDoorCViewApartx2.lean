/- The law ViewApart for every input: texts of ours, put together (part 3 of 16). No further condition. -/
import Derived.Test.YtndddnglapkplaaGreatDoorCViewApartw1
import Derived.Test.YtndddnglapkplaaGreatDoorCViewApartw0
set_option linter.unusedVariables false
set_option linter.unusedSimpArgs false
namespace Go.Proofs.YtndddnglapkplaaGreatDoor.Z
open Go.RowKit Go.Proofs.YtndddnglapkplaaGreatDoorW.PrintWords Go.Proofs.YtndddnglapkplaaGreatDoorW.PrintLast Go.Proofs.YtndddnglapkplaaGreatDoorW.PrintMore
theorem ak {p : Prop} (h : p) : Aside0 p := ⟨h⟩
section
variable {P : Program} {ops : Array Oper} {Q : Exit → Act → World → Prop} {md : Region.Mode} {S : World → Prop} {ds : List Nat} {T : Bool × List (List Nat × List Nat)} {oi oj : Oper} {n m : Tmp} {v : Value} {fuel : Nat} {l l' l'' : Array Bool} {a a' : Act} {w w1 : World} {K : Act → World → Prop} {B : List Nat}
theorem pu (i : Nat) (hT : dS md ops = T) (h : bq P md ops Q S ds fuel l' a' w) (hi : ops[i]? = some oi := by rfl) (hN : oi.dst = some n := by rfl) (Fo : l.setIfInBounds i true = l' := by simp only [List.setIfInBounds_toArray, List.set_cons_zero, List.set_cons_succ]; rfl)
  (hc : Dw T l.toList l'.toList i = true := by kernel_rfl) (hQ : ∀ c a w, Q (.panic c) (a.put oi.dst v) w → Q (.panic c) a w := by exact fun _ _ _ h => h) (hw : Region.wanted oi (yielded ops a.tmps) = true := by rfl)
  (hv : ∀ w', (execOp a.eval oi).run P w' = .ok (.value v) w' := by intro w'; go_simp; with_reducible rfl) (ha : a.put (some n) v = a' := by simp only [Act.put, List.setIfInBounds_toArray, List.set_cons_zero, List.set_cons_succ, cp, cL]; rfl) : bq P md ops Q S ds (fuel + 1) l a w :=
 Ia l' hi hN (Fm hT hc) hQ (Or.inl ⟨hw, hv⟩) ha h
theorem po (i : Nat) (hT : dS md ops = T) (h : bq P md ops Q S ds fuel l' a' w) (hi : ops[i]? = some oi := by rfl) (hN : oi.dst = some n := by rfl) (Fo : l.setIfInBounds i true = l' := by simp only [List.setIfInBounds_toArray, List.set_cons_zero, List.set_cons_succ]; rfl)
  (hc : Dw T l.toList l'.toList i = true := by kernel_rfl) (hQ : ∀ c a w, Q (.panic c) (a.put oi.dst undef) w → Q (.panic c) a w := by exact fun _ _ _ h => h) (hw : Region.wanted oi (yielded ops a.tmps) = false := by rfl)
  (ha : a.put (some n) undef = a' := by simp only [Act.put, List.setIfInBounds_toArray, List.set_cons_zero, List.set_cons_succ, cp, cL]; rfl) : bq P md ops Q S ds (fuel + 1) l a w :=
 Ia l' hi hN (Fm hT hc) hQ (Or.inr ⟨hw, rfl⟩) ha h
theorem tk (i : Nat) (hT : dS md ops = T) (hB : ew T.2 B = true) (hS : S w) (h : bq P md ops Q S ds fuel l' a' w) (hi : ops[i]? = some oi := by rfl) (hN : oi.dst = some n := by rfl) (Fo : l.setIfInBounds i true = l' := by simp only [List.setIfInBounds_toArray, List.set_cons_zero, List.set_cons_succ]; rfl)
  (hc : CG T B ds l.toList l'.toList i = true := by kernel_rfl) (hQ : ∀ c a w, Q (.panic c) (a.put oi.dst v) w → Q (.panic c) a w := by exact fun _ _ _ h => h) (hw : Region.wanted oi (yielded ops a.tmps) = true := by rfl)
  (hv : ∀ w', S w' → (execOp a.eval oi).run P w' = .ok (.value v) w' := by intro w' dg; go_simp; with_reducible rfl) (ha : a.put (some n) v = a' := by simp only [Act.put, List.setIfInBounds_toArray, List.set_cons_zero, List.set_cons_succ, cp, cL]; rfl) : bq P md ops Q S ds (fuel + 1) l a w :=
 take_ l' hi hN (cn hT hB hc) hQ (Or.inl ⟨hw, hv⟩) hS ha h
theorem on (i : Nat) (hT : dS md ops = T) (h : ∀ K : Act → World → Prop, Shut (∀ a' w', S w' → (S w' → bq P md ops Q S ds fuel l' a' w') → K a' w') → if Region.wanted oi (yielded ops a.tmps) = true then Oper.wp P oi a w K Q else K (a.put (some n) undef) w)
  (hi : ops[i]? = some oi := by rfl) (hN : oi.dst = some n := by rfl) (Fo : l.setIfInBounds i true = l' := by simp only [List.setIfInBounds_toArray, List.set_cons_zero, List.set_cons_succ]; rfl)
  (hc : (lM T.2 l.toList == [i] && l.toList.set i true == l'.toList) = true := by kernel_rfl) (hd : i ∉ ds := by decide) : bq P md ops Q S ds (fuel + 1) l a w :=
 La l' hi hN (oS hT hc) hd h
theorem ow (i : Nat) (hT : dS md ops = T) (h : ∀ K : Act → World → Prop, Shut (∀ a' w', S w' → (S w' → bq P md ops Q S ds fuel l' a' w') → K a' w') → if Region.wanted oi (yielded ops a.tmps) = true then Oper.wp P oi a w K Q else K (a.put none undef) w)
  (hi : ops[i]? = some oi := by rfl) (hN : oi.dst = none := by rfl) (Fo : l.setIfInBounds i true = l' := by simp only [List.setIfInBounds_toArray, List.set_cons_zero, List.set_cons_succ]; rfl)
  (hc : (lM T.2 l.toList == [i] && l.toList.set i true == l'.toList) = true := by kernel_rfl) (hd : i ∉ ds := by decide) : bq P md ops Q S ds (fuel + 1) l a w :=
 La l' hi hN (oS hT hc) hd h
theorem tw (i j : Nat) (hT : dS md ops = T)
  (h1 : ∀ K : Act → World → Prop, Shut (∀ a' w', S w' → (S w' → bq P md ops Q S ds fuel l' a' w') → K a' w') → if Region.wanted oi (yielded ops a.tmps) = true then Oper.wp P oi a w K Q else K (a.put (some n) undef) w)
  (h2 : ∀ K : Act → World → Prop, Shut (∀ a' w', S w' → (S w' → bq P md ops Q S ds fuel l'' a' w') → K a' w') → if Region.wanted oj (yielded ops a.tmps) = true then Oper.wp P oj a w K Q else K (a.put (some m) undef) w)
  (hi : ops[i]? = some oi := by rfl) (hj : ops[j]? = some oj := by rfl) (hNi : oi.dst = some n := by rfl) (hNj : oj.dst = some m := by rfl)
  (Fo : l.setIfInBounds i true = l' := by simp only [List.setIfInBounds_toArray, List.set_cons_zero, List.set_cons_succ]; rfl) (X5 : l.setIfInBounds j true = l'' := by simp only [List.setIfInBounds_toArray, List.set_cons_zero, List.set_cons_succ]; rfl)
  (hc : (lM T.2 l.toList == [i, j] && l.toList.set i true == l'.toList && l.toList.set j true == l''.toList) = true := by kernel_rfl) (hdi : i ∉ ds := by decide) (hdj : j ∉ ds := by decide) : bq P md ops Q S ds (fuel + 1) l a w :=
 Qq l' l'' hi hj hNi hNj (KS hT hc) hdi hdj h1 h2
theorem gs {R : Ending → World → Prop} {f : FuncId} {fn : Func} {os : Array Operand} {ts : Array TypeId} {L : Option Tmp} (hf : P.funcs[f]? = some fn) (args : Array Value) (hC : Calls P f args w R) (h : ∀ e w', R e w' → ∃ v, e = .returned v ∧ K (a.put L v) w')
  (hname : (fn.name == "runtime.NumGoroutine") = false := by kernel_rfl) (hb : fn.body.isSome = true := by rfl) (hw : Region.wanted oi (yielded ops a.tmps) = true := by rfl) (hN : oi.dst = L := by rfl) (hop : oi.op = .call { callee := .value (.func f), args := os, argTypes := ts } := by rfl)
  (hargs : os.map a.eval = args := by (try simp only [List.map_toArray, List.map_cons, List.map_nil]); first | done | rfl) : if Region.wanted oi (yielded ops a.tmps) = true then Oper.wp P oi a w K Q else K (a.put L undef) w :=
 lY hf hname hb args hw hN hop hargs (hC.mono h)
theorem kn (hK : Shut (∀ a' w', S w' → (S w' → bq P md ops Q S ds fuel l a' w') → K a' w')) (hs : S w) (h : S w → bq P md ops Q S ds fuel l a' w) (ha : a.put (some n) v = a' := by simp only [Act.put, List.setIfInBounds_toArray, List.set_cons_zero, List.set_cons_succ, cp, cL]; rfl) : K (a.put (some n) v) w :=
 hK.out _ _ hs (fun h' => CZ ha (h h'))
theorem nc (h : bq P md ops Q S ds fuel l a' w) (ha : a = a' := by first | (simp only [qz, Act.put, List.setIfInBounds_toArray, List.set_cons_zero, List.set_cons_succ]; done) | (simp only [qz, Act.put, List.setIfInBounds_toArray, List.set_cons_zero, List.set_cons_succ]; rfl)) : bq P md ops Q S ds fuel l a w := CZ ha h
theorem nj (h : bq P md ops Q S ds fuel l a' w) (ha : a = a' := by simp only [qz, Act.put, List.setIfInBounds_toArray, List.set_cons_zero, List.set_cons_succ]; rfl) : bq P md ops Q S ds fuel l a w := CZ ha h
theorem dn (hT : dS md ops = T) (h : Q .normal a w) (hc : (lM T.2 l.toList == []) = true := by kernel_rfl) : bq P md ops Q S ds fuel l a w := Ol (Kl hT hc) h
end
end Go.Proofs.YtndddnglapkplaaGreatDoor.Z
