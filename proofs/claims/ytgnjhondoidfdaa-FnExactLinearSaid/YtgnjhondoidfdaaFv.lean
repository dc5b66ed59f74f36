/- A call of a function value that lies in a place (it captures nothing); a row of the call's own apart from another's blocks. No condition. -/
import Derived.Test.YtgnjhondoidfdaaSq
import Derived.Test.YtgnjhondoidfdaaWLast
namespace Go.Proofs.Ytgnjhondoidfdaa.Fv
open Go.RowKit Go.Proofs.YtgnjhondoidfdaaW.PrintWords Go.Proofs.YtgnjhondoidfdaaW.PrintMore Go.Proofs.YtgnjhondoidfdaaW.PrintLast
theorem goesV {P : Program} {ops : Array Oper} {Q : Exit → Act → World → Prop} {rest : List Oper} {oi : Oper} {a : Act} {w : World} (N : Option Tmp) (hd : oi.dst = N) (hg : oi.guard = none) {x : Operand} {f : FuncId} {fn : Func} {as : Array Operand} {ts : Array TypeId} (hf : P.funcs[f]? = some fn) (hname : (fn.name == "runtime.NumGoroutine") = false) (hb : fn.body.isSome = true) (args : Array Value)
    (hop : oi.op = .call { callee := .value x, args := as, argTypes := ts }) (hx : a.eval x = .func (.func f) #[] #[]) (hargs : as.map a.eval = args)
    (h : Calls P f args w fun e w' => ∃ v, e = .returned v ∧ wpList P ops Q rest (a.put N v) w') : wpList P ops Q (oi :: rest) a w := by
  refine wpList_plain hg fun K hK => ?_
  have he := enters_ hf hname hb args w
  have hrun : (execOp a.eval oi).run P w = .ok (.enter f args) w := by
    unfold execOp
    simp [hop, resolve, Deferred.ofValue, invoke, hx, hargs, he]
  unfold Oper.wp
  rw [hrun, Oper.upon_enter]
  refine h.mono fun e w'' hh => ?_
  obtain ⟨v, rfl, hk⟩ := hh
  subst hd
  exact hK _ _ hk
theorem own {α : Type} {d : Kd α} {e : Nat} {w : World} {base : Nat} {ok S : Nat → Prop} {v : Value} {xs : List α} (h : Kd.R d e w base ok v xs) (hs : ∀ k, ok k → S k → False) : ∃ ok2 : Nat → Prop, Kd.R d e w base ok2 v xs ∧ ∀ k_, ok2 k_ → ¬ S k_ := ⟨ok, h, hs⟩
end Go.Proofs.Ytgnjhondoidfdaa.Fv
