/- A number that is kept by sync/atomic, in a block of one's own: told, and added to. Over any program; no condition. -/
import Derived.Test.YtpnkcoahbadnjaaK6
import Derived.Laws.Externs
set_option linter.unusedSimpArgs false
set_option linter.unusedVariables false
namespace Go.Proofs.Ytpnkcoahbadnjaa
open Go.RowKit
section
variable {P : Program} {N : Nat} {env : Env} {w w0 : World} {X : List Nat} {L L' : List (Nat × Obj)} {K : Env → World → Prop}
variable {d : Nat} {ty : TypeId} {pos : String} {af : Array Edge} {g : Option (Nat × Bool)}
theorem OpW.atomicAdd {f : FuncId} {fn : Func} {T : TypeId} {x y : Operand} {ats : Array TypeId} {b o : Nat} {cs cs' : List Value} {m n r : Int} (hS : St w0 X L w) (hf : P.funcs[f]? = some fn) (hname : (fn.name == "runtime.NumGoroutine") = false) (hb : fn.body.isNone = true) (hn : Extern.findNext fn = none)
    (he : Extern.find fn = some (Extern.Atomic.update (Op.intArith .add) .i64 true)) (hx : evO env x = some (.pointer (some ⟨b, o, none⟩))) (hy : evO env y = some (.int .i64 n)) (hm : Repl L b (C T cs) (C T cs') L') (hget : cs[o]? = some (.int .i64 m)) (hr : IntKind.i64.wrap (m + n) = r) (hset : IsSet cs o [.int .i64 r] cs') (hd : Nat.blt d N = true)
    (h : ∀ w', St w0 X L' w' → K ((d, .int .i64 r) :: env) w') : OpW P N ⟨some d, .call { callee := .value (.func f), args := #[x, y], argTypes := ats }, ty, pos, af, g⟩ env w K := by
  have hbl := hS.own _ hm.memL
  obtain ⟨h1, h2⟩ := hset.spec
  have hcell : w.cell? ⟨b, o, none⟩ = some (.int .i64 m) := by simp [World.cell?, hbl, C, hget]
  have hst := run_storeCells_at P b o T [.int .i64 r] 0 cs.toArray w hbl (by simpa using h1) (fun u hu => by simp only [List.mem_singleton] at hu; subst hu; rfl)
  have ha0 : (⟨b, o, none⟩ : Addr).add 0 = ⟨b, o, none⟩ := by simp [Addr.add]
  have hst2 : (Go.store ⟨b, o, none⟩ (.int .i64 r) .atomic).run P w = .ok () (w.setRow b cs'.toArray) := by
    rw [h2]
    simp only [storeCells, ha0, Nat.add_zero, Sem.run_bind, run_store P w _ _ _ (show (Value.int .i64 r).oneCell' = true from rfl), hcell] at hst
    rw [run_store P w _ _ _ (show (Value.int .i64 r).oneCell' = true from rfl), hcell]
    dsimp only at hst ⊢
    split at hst
    · simp [Result.andThen] at hst
    · rename_i hfz
      rw [if_neg hfz]
      simpa [Result.andThen] using hst
  refine OpW.base (v := .int .i64 r) (w' := w.setRow b cs'.toArray) (fun a ha => ?_) hd (h _ (hS.setRow hm))
  have hc := run_callFunc_extern (args := #[.pointer (some ⟨b, o, none⟩), .int .i64 n]) (w := w) hf hname hb hn he
  have e1 := ha.ev hx
  have e2 := ha.ev hy
  have e3 := ha.ev (x := .func f) rfl
  have hrun : (Extern.Atomic.update (Op.intArith .add) .i64 true #[.pointer (some ⟨b, o, none⟩), .int .i64 n]).run P w = .ok (.int .i64 r) (w.setRow b cs'.toArray) := by
    show Sem.run P (do
      let a ← asAddr (.pointer (some ⟨b, o, none⟩))
      let old ← Extern.Atomic.read (.int .i64) a
      let new ← Op.intArith .add .i64 (← asInt old) (← asInt (.int .i64 n))
      Go.store a new .atomic
      Pure.pure (if true then new else old)) w = _
    simp [Extern.Atomic.read, asAddr, asInt, asIntOf, hcell, Op.intArith, hr, hst2]
  rw [hrun] at hc
  simp [execOp, resolve, invoke, Deferred.ofValue, e1, e2, e3, hc]
theorem OpW.atomicLoad {f : FuncId} {fn : Func} {T : TypeId} {x : Operand} {ats : Array TypeId} {b o : Nat} {cs : List Value} {m : Int} (hS : St w0 X L w) (hf : P.funcs[f]? = some fn) (hname : (fn.name == "runtime.NumGoroutine") = false) (hb : fn.body.isNone = true) (hn : Extern.findNext fn = none)
    (he : Extern.find fn = some (Extern.Atomic.loadT (.int .i64))) (hx : evO env x = some (.pointer (some ⟨b, o, none⟩))) (hm : Has L b (C T cs)) (hget : cs[o]? = some (.int .i64 m)) (hd : Nat.blt d N = true)
    (h : K ((d, .int .i64 m) :: env) w) : OpW P N ⟨some d, .call { callee := .value (.func f), args := #[x], argTypes := ats }, ty, pos, af, g⟩ env w K := by
  have hcell : w.cell? ⟨b, o, none⟩ = some (.int .i64 m) := hS.cellAt hm hget
  refine OpW.base (v := .int .i64 m) (w' := w) (fun a ha => ?_) hd h
  have hc := run_callFunc_extern (args := #[.pointer (some ⟨b, o, none⟩)]) (w := w) hf hname hb hn he
  have e1 := ha.ev hx
  have e3 := ha.ev (x := .func f) rfl
  have hrun : (Extern.Atomic.loadT (.int .i64) #[.pointer (some ⟨b, o, none⟩)]).run P w = .ok (.int .i64 m) w := by
    show Sem.run P (do Extern.Atomic.read (.int .i64) (← asAddr (.pointer (some ⟨b, o, none⟩)))) w = _
    simp [Extern.Atomic.read, asAddr, hcell]
  rw [hrun] at hc
  simp [execOp, resolve, invoke, Deferred.ofValue, e1, e3, hc]
end
end Go.Proofs.Ytpnkcoahbadnjaa
