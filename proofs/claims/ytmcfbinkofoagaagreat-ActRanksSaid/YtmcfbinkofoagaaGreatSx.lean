/- A calculus for runs of the program: how a frame goes over what is known of its temporaries and of memory, each operation by a rule of its own; every rule is proved over the machine. -/
import Derived.Orders
import Derived.OrdersHeld
import Derived.KernelRfl
import Derived.Laws.World
import Derived.Laws.Sem
import Derived.Below
import Derived.DeepKeys
namespace Go.Proofs.YtmcfbinkofoagaaGreat.Sx
open Go

/-- A frame that runs: function, the loop whose round it is, temporaries and deferred calls, what is to do. -/
def mkF (fn : FuncId) (ro : Option Nat) (a : Act) (todo : List Item) : Frame :=
  { fn, tmps := a.tmps, todo, defers := a.defers, mode := .run, kind := .normal, roundOf := ro }

theorem mkF_eval (fn : FuncId) (ro : Option Nat) (a : Act) (todo : List Item) : (mkF fn ro a todo).eval = a.eval := by
  funext x; cases x <;> rfl

/-- How a frame ends: a function's frame is about to leave; a round's frame leaves with its next step. -/
def Final (P : Program) (fn : FuncId) : Option Nat → Frame → World → Value → World → Prop
  | none, fr, w, v, w'' => fr.leaving P w (.returned v) ∧ fr.fn = fn ∧ w'' = w
  | some _, fr, w, v, w'' => ∀ c cs, Go.step P (lone fr (c :: cs) w) = .next (lone (c.finish v) cs w'')

/-- From here on the frame comes to its end, and R holds of what it gives back and of the world behind it. -/
def Runs (P : Program) (fn : FuncId) (ro : Option Nat) (todo : List Item) (a : Act) (w : World) (R : Value → World → Prop) : Prop :=
  ∀ cs, ∃ fr' w' v w'', Final P fn ro fr' w' v w'' ∧ R v w'' ∧ Steps P (lone (mkF fn ro a todo) cs w) (lone fr' cs w')

/-- A call's contract: it returns. -/
def Ret (R : Value → World → Prop) : Ending → World → Prop
  | .returned v, w => R v w
  | _, _ => False

theorem Ret.mono {R R' : Value → World → Prop} (h : ∀ v w, R v w → R' v w) : ∀ e w, Ret R e w → Ret R' e w
  | .returned _, _, k => h _ _ k
  | .panicked _, _, k => k.elim
  | .outgrown, _, k => k.elim

theorem Runs.mono {P : Program} {fn : FuncId} {ro : Option Nat} {todo : List Item} {a : Act} {w : World} {R R' : Value → World → Prop}
    (h : Runs P fn ro todo a w R) (hr : ∀ v w, R v w → R' v w) : Runs P fn ro todo a w R' :=
  fun cs => let ⟨fr, w', v, w'', hf, r, s⟩ := h cs; ⟨fr, w', v, w'', hf, hr _ _ r, s⟩

section moves
variable {P : Program} {fn : FuncId} {ro : Option Nat} {a a' : Act} {k k' : List Item} {w w' : World} {R : Value → World → Prop}

theorem Runs.step (h : ∀ cs, Go.step P (lone (mkF fn ro a k) cs w) = .next (lone (mkF fn ro a' k') cs w')) (n : Runs P fn ro k' a' w' R) : Runs P fn ro k a w R :=
  fun cs => let ⟨fr, w1, v, w2, hf, r, s⟩ := n cs; ⟨fr, w1, v, w2, hf, r, .head (h cs) s⟩

theorem Runs.steps (h : ∀ cs, Steps P (lone (mkF fn ro a k) cs w) (lone (mkF fn ro a' k') cs w')) (n : Runs P fn ro k' a' w' R) : Runs P fn ro k a w R :=
  fun cs => let ⟨fr, w1, v, w2, hf, r, s⟩ := n cs; ⟨fr, w1, v, w2, hf, r, .trans (h cs) s⟩

theorem Runs.skip (n : Runs P fn ro k a w R) : Runs P fn ro (.code .skip :: k) a w R :=
  .step (fun _ => step_lone_go (by simp [stepG, stepG.exec, mkF])) n
theorem Runs.label {l : Nat} (n : Runs P fn ro k a w R) : Runs P fn ro (.code (.label l) :: k) a w R :=
  .step (fun _ => step_lone_go (by simp [stepG, stepG.exec, mkF])) n
theorem Runs.inBlock {id : Nat} (n : Runs P fn ro k a w R) : Runs P fn ro (.inBlock id :: k) a w R :=
  .step (fun _ => step_lone_go (by simp [stepG, stepG.exec, mkF])) n
theorem Runs.inScope {c : Code} (n : Runs P fn ro k a w R) : Runs P fn ro (.inScope c :: k) a w R :=
  .step (fun _ => step_lone_go (by simp [stepG, stepG.exec, mkF])) n
theorem Runs.seq {x y : Code} (n : Runs P fn ro (.code x :: .code y :: k) a w R) : Runs P fn ro (.code (.seq x y) :: k) a w R :=
  .step (fun _ => step_lone_go (by simp [stepG, stepG.exec, mkF])) n
theorem Runs.block {id : Nat} {c : Code} (n : Runs P fn ro (.code c :: .inBlock id :: k) a w R) : Runs P fn ro (.code (.block id c) :: k) a w R :=
  .step (fun _ => step_lone_go (by simp [stepG, stepG.exec, mkF])) n
theorem Runs.scope {c : Code} (n : Runs P fn ro (.code c :: .inScope c :: k) a w R) : Runs P fn ro (.code (.scope c) :: k) a w R :=
  .step (fun _ => step_lone_go (by simp [stepG, stepG.exec, mkF])) n
theorem Runs.loop1 {c : Code} (n : Runs P fn ro (.code c :: .inLoop c :: k) a w R) : Runs P fn ro (.code (.loop c) :: k) a w R :=
  .step (fun _ => step_lone_go (by simp [stepG, stepG.exec, mkF])) n
theorem Runs.inLoop {c : Code} (n : Runs P fn ro (.code c :: .inLoop c :: k) a w R) : Runs P fn ro (.inLoop c :: k) a w R :=
  .step (fun _ => step_lone_go (by simp [stepG, stepG.exec, mkF])) n
theorem Runs.exit {id : Nat} (h : exitTo id k = some k') (n : Runs P fn ro k' a w R) : Runs P fn ro (.code (.exit id) :: k) a w R :=
  .step (fun _ => step_lone_go (by simp [stepG, stepG.exec, mkF, h])) n
theorem Runs.goto {l : Nat} (h : gotoIn l k = some k') (n : Runs P fn ro k' a w R) : Runs P fn ro (.code (.goto l) :: k) a w R :=
  .step (fun _ => step_lone_go (by simp [stepG, stepG.exec, mkF, h])) n
theorem Runs.cond {c : Operand} {x y : Code} {t : Bool} (h : a.eval c = .bool t) (n : Runs P fn ro (.code (if t then x else y) :: k) a w R) :
    Runs P fn ro (.code (.cond c x y) :: k) a w R :=
  .step (fun _ => step_lone_go (by
    have := congrFun (mkF_eval fn ro a (.code (.cond c x y) :: k)) c
    simp only [mkF] at this
    simp [stepG, stepG.exec, mkF, this, h])) n

/-- A loop, by a measure: I d of the state at the head of a round. -/
theorem Runs.loop {c : Code} (I : Nat → Act → World → Prop) (d : Nat) (h0 : I d a w)
    (round : ∀ d a w, I d a w → (∀ d', d' < d → ∀ a w, I d' a w → Runs P fn ro (.inLoop c :: k) a w R) → Runs P fn ro (.code c :: .inLoop c :: k) a w R) :
    Runs P fn ro (.code (.loop c) :: k) a w R := by
  have key : ∀ d a w, I d a w → Runs P fn ro (.code c :: .inLoop c :: k) a w R := by
    intro d
    induction d using Nat.strongRecOn with
    | _ d ih => exact fun a w h => round d a w h fun d' hd a w h' => .inLoop (ih d' hd a w h')
  exact .loop1 (key d a w h0)

/-- The end of a function without deferred calls. -/
theorem Runs.ret {f : Func} {v : Value} (hf : P.funcs[fn]? = some f) (hd : a.defers = []) (hr : (results f a.tmps).run P w = .ok v w) (r : R v w) :
    Runs P fn none (.code .ret :: k) a w R :=
  fun _ => ⟨{ mkF fn none a (.code .ret :: k) with mode := .returning }, w, v, w, ⟨⟨rfl, hd, rfl, f, hf, hr⟩, rfl, rfl⟩, r,
    .one (step_lone_go (by simp [stepG, stepG.exec, mkF]))⟩
theorem Runs.fin {f : Func} {v : Value} (hf : P.funcs[fn]? = some f) (hd : a.defers = []) (hr : (results f a.tmps).run P w = .ok v w) (r : R v w) :
    Runs P fn none [] a w R :=
  fun _ => ⟨{ mkF fn none a [] with mode := .returning }, w, v, w, ⟨⟨rfl, hd, rfl, f, hf, hr⟩, rfl, rfl⟩, r,
    .one (step_lone_go (by simp [stepG, stepG.exec, mkF]))⟩

end moves

/-- A function's contract out of its body. -/
theorem calls_of_runs {P : Program} {f : FuncId} {fn : Func} {c : Code} {args : Array Value} {w : World} {R : Value → World → Prop}
    (hf : P.funcs[f]? = some fn) (hb : fn.body = some c)
    (h : Runs P f none [.code c] { tmps := args ++ Array.replicate (fn.ntmps - args.size) undef, defers := [] } w R) : Calls P f args w (Ret R) := by
  intro cs
  obtain ⟨fr, w', v, w'', ⟨hl, hfn, hw⟩, r, s⟩ := h cs
  subst hw
  have henter : Frame.enter P f args .normal = mkF f none { tmps := args ++ Array.replicate (fn.ntmps - args.size) undef, defers := [] } [.code c] := by
    simp [Frame.enter, mkF, hf, hb]
  exact ⟨.returned v, w'', fr, r, by rw [henter]; exact s, hfn, hl⟩

/-! ### Operations -/

/-- What comes of an operation's answer: the value that it puts, the world behind it. -/
def Enters (P : Program) (K : Value → World → Prop) : Next → World → Prop
  | .value v, w => K v w
  | .skip, w => K undef w
  | .enter f args, w => Calls P f args w (Ret K)
  | .round l f tmps assign body, w => Runs P f (some l) [.code assign, .beginRound, .code body] { tmps, defers := [] } w K
  | _, _ => False

def notDefer (o : Oper) : Bool := match o.op with | .defer _ => false | _ => true

/-- An operation that does not panic. -/
def OpW (P : Program) (o : Oper) (a : Act) (w : World) (K : Value → World → Prop) : Prop :=
  notDefer o = true ∧ ∃ n w', (execOp a.eval o).run P w = .ok n w' ∧ Enters P K n w'

theorem OpW.mono {P : Program} {o : Oper} {a : Act} {w : World} {K K' : Value → World → Prop} (h : ∀ v w, K v w → K' v w) (hh : OpW P o a w K) : OpW P o a w K' := by
  obtain ⟨hn, n, w', hr, he⟩ := hh
  refine ⟨hn, n, w', hr, ?_⟩
  cases n <;> simp only [Enters] at he ⊢
  case value v => exact h _ _ he
  case skip => exact h _ _ he
  case enter f args => exact Calls.mono he (Ret.mono h)
  case round => exact Runs.mono he h

section ops
variable {P : Program} {fn : FuncId} {ro : Option Nat} {a : Act} {k : List Item} {w : World} {R : Value → World → Prop} {ops : Array Oper}

theorem mkF_finish (i : Nat) (rest : List Nat) (v : Value) :
    (mkF fn ro a (.inRegion ops (i :: rest) :: k)).finish v = mkF fn ro (a.put ((ops[i]?).bind (·.dst)) v) (.inRegion ops rest :: k) := by
  cases h : (ops[i]?).bind (·.dst) <;> simp [Frame.finish, mkF, Act.put, h]

theorem step_mkF_op {i : Nat} {rest : List Nat} {o : Oper} (ho : ops[i]? = some o) (hw : Region.wanted o (yielded ops a.tmps) = true) (hn : notDefer o = true) (cs : List Frame) :
    stepG P true { frame := mkF fn ro a (.inRegion ops (i :: rest) :: k), callers := cs, status := .running, dying := none } w =
      stepG.apply P true (mkF fn ro a (.inRegion ops (i :: rest) :: k)) cs none (execOp a.eval o) w := by
  have he := mkF_eval fn ro a (.inRegion ops (i :: rest) :: k)
  simp only [mkF] at he
  have h1 : ∀ c, o.op ≠ .defer c := fun c h => by simp [notDefer, h] at hn
  simp only [stepG, stepG.exec, stepG.oper, Frame.oper?, mkF, ho, hw, Option.map_some, Option.getD_some, if_true]
  split
  · rename_i c hc; exact absurd hc (h1 _)
  · rw [he]

theorem Runs.op {i : Nat} {rest : List Nat} {o : Oper} (ho : ops[i]? = some o) (hw : Region.wanted o (yielded ops a.tmps) = true)
    (h : OpW P o a w fun v w' => Runs P fn ro (.inRegion ops rest :: k) (a.put o.dst v) w' R) : Runs P fn ro (.inRegion ops (i :: rest) :: k) a w R := by
  obtain ⟨hn, n, w', hr, he⟩ := h
  have hstep := fun cs => step_mkF_op (P := P) (fn := fn) (ro := ro) (k := k) (w := w) (rest := rest) ho hw hn cs
  have hfin : ∀ v, (mkF fn ro a (.inRegion ops (i :: rest) :: k)).finish v = mkF fn ro (a.put o.dst v) (.inRegion ops rest :: k) := by
    intro v; rw [mkF_finish, ho]; rfl
  cases n <;> simp only [Enters] at he
  case value v =>
    refine .step (fun cs => step_lone_go ?_) he
    rw [hstep, ← hfin]; simp [stepG.apply, hr]
  case skip =>
    refine .step (fun cs => step_lone_go ?_) he
    rw [hstep, ← hfin]; simp [stepG.apply, hr]
  case enter f args =>
    intro cs
    have h1 : Go.step P (lone (mkF fn ro a (.inRegion ops (i :: rest) :: k)) cs w) = .next (lone (Frame.enter P f args .normal) (mkF fn ro a (.inRegion ops (i :: rest) :: k) :: cs) w') :=
      step_lone_go (by rw [hstep]; simp [stepG.apply, hr, mkF])
    obtain ⟨e, w1, fr, hR, hs, _, hl⟩ := he (mkF fn ro a (.inRegion ops (i :: rest) :: k) :: cs)
    cases e with
    | returned v =>
      obtain ⟨fr2, w2, v2, w3, hf, r, s⟩ := hR cs
      have h2 := step_leave_returned (c := mkF fn ro a (.inRegion ops (i :: rest) :: k)) (cs := cs) hl
      rw [hfin] at h2
      exact ⟨fr2, w2, v2, w3, hf, r, .head h1 (.trans hs (.head h2 s))⟩
    | panicked c => exact hR.elim
    | outgrown => exact hR.elim
  case round l f tmps assign body =>
    intro cs
    have h1 : Go.step P (lone (mkF fn ro a (.inRegion ops (i :: rest) :: k)) cs w) = .next (lone (mkF f (some l) { tmps, defers := [] } [.code assign, .beginRound, .code body]) (mkF fn ro a (.inRegion ops (i :: rest) :: k) :: cs) w') :=
      step_lone_go (by rw [hstep]; simp [stepG.apply, hr, mkF, Frame.round])
    obtain ⟨fr, w1, v, w2, hf, hR, hs⟩ := he (mkF fn ro a (.inRegion ops (i :: rest) :: k) :: cs)
    have h2 := hf (mkF fn ro a (.inRegion ops (i :: rest) :: k)) cs
    rw [hfin] at h2
    obtain ⟨fr3, w3, v3, w4, hf3, r3, s3⟩ := hR cs
    exact ⟨fr3, w3, v3, w4, hf3, r3, .head h1 (.trans hs (.head h2 s3))⟩
end ops
end Go.Proofs.YtmcfbinkofoagaaGreat.Sx
namespace Go.Proofs.YtmcfbinkofoagaaGreat.Sx
open Go

abbrev Env := List (Nat × Value)
def Env.get : Env → Nat → Option Value
  | [], _ => none
  | (k, v) :: r, t => match Nat.beq k t with
    | true => some v
    | false => Env.get r t
def Env.ev (e : Env) : Operand → Option Value
  | .tmp t => e.get t
  | .const v => some v
  | .global g => some (.pointer (some ⟨g, 0, none⟩))
  | .func f => some (.func (.func f) #[] #[])

/-- What is known of the temporaries is so. -/
def Fits (n : Nat) (e : Env) (a : Act) : Prop := a.tmps.size = n ∧ ∀ t v, e.get t = some v → a.tmps[t]? = some v
def marks (ds : List Nat) : List Deferred := ds.map fun r => { target := .collected r, args := #[] }

theorem Fits.ev {n : Nat} {e : Env} {a : Act} (h : Fits n e a) {x : Operand} {u : Value} (hx : e.ev x = some u) : a.eval x = u := by
  cases x with
  | tmp t =>
    have := h.2 t u hx
    simp [Act.eval, this]
  | const v => simpa [Env.ev, Act.eval] using hx
  | global g => simpa [Env.ev, Act.eval] using hx
  | func f => simpa [Env.ev, Act.eval] using hx

theorem Fits.put {n : Nat} {e : Env} {a : Act} (h : Fits n e a) {d : Nat} (hd : d < n) (v : Value) : Fits n ((d, v) :: e) (a.put (some d) v) := by
  refine ⟨by simp [Act.put, h.1], fun t u hu => ?_⟩
  simp only [Env.get] at hu
  cases hb : Nat.beq d t with
  | true =>
    have := Nat.eq_of_beq_eq_true hb; subst this
    simp only [hb] at hu
    cases hu
    have h1 := h.1
    have h2 : d < a.tmps.size := by omega
    simp [Act.put, h2]
  | false =>
    simp only [hb] at hu
    have hne : d ≠ t := Nat.ne_of_beq_eq_false hb
    simp [Act.put, Array.getElem?_setIfInBounds_ne hne, h.2 t u hu]

def KeepAll (e : Env) : Env → Prop
  | [] => True
  | (t, v) :: r => e.get t = some v ∧ KeepAll e r
theorem KeepAll.get {e : Env} : ∀ {e' : Env}, KeepAll e e' → ∀ t v, e'.get t = some v → e.get t = some v
  | [], _, _, _, h => by cases h
  | (k, u) :: r, hk, t, v, h => by
    simp only [Env.get] at h
    cases hb : Nat.beq k t with
    | true =>
      have := Nat.eq_of_beq_eq_true hb; subst this
      simp only [hb] at h; cases h
      exact hk.1
    | false => simp only [hb] at h; exact hk.2.get t v h
theorem Fits.keep {n : Nat} {e e' : Env} {a : Act} (h : Fits n e a) (hk : KeepAll e e') : Fits n e' a := ⟨h.1, fun t v ht => h.2 t v (hk.get t v ht)⟩

/-! ### Every temporary that the code writes lies within the frame -/
def dstOk (n : Nat) (o : Oper) : Bool := match o.dst with | some d => Nat.blt d n | none => true
def wfC (n : Nat) : Code → Bool
  | .region _ ops _ => ops.toList.all (dstOk n)
  | .seq a b | .cond _ a b => wfC n a && wfC n b
  | .block _ b | .loop b | .scope b => wfC n b
  | .rangeFunc _ ps a b => ps.toList.all (fun p => Nat.blt p n) && wfC n a && wfC n b
  | .goto _ => false
  | _ => true
def wfI (n : Nat) : Item → Bool
  | .code c | .inLoop c | .inScope c => wfC n c
  | .inRegion ops _ => ops.toList.all (dstOk n)
  | _ => true
def wfT (n : Nat) (l : List Item) : Bool := l.all (wfI n)

theorem wfT_cons (n : Nat) (x : Item) (k : List Item) : wfT n (x :: k) = (wfI n x && wfT n k) := rfl

theorem wfT_exit {n id : Nat} : ∀ {k k' : List Item}, exitTo id k = some k' → wfT n k = true → wfT n k' = true
  | [], _, h, _ => by simp [exitTo] at h
  | x :: k, k', h, hw => by
    simp only [wfT_cons, Bool.and_eq_true] at hw
    cases x <;> simp only [exitTo] at h
    case inBlock id' =>
      split at h
      · cases h; exact hw.2
      · exact wfT_exit h hw.2
    all_goals exact wfT_exit h hw.2

/-- A frame over known temporaries comes to its end. -/
def RX (P : Program) (fn : FuncId) (ro : Option Nat) (n : Nat) (todo : List Item) (e : Env) (ds : List Nat) (w : World) (R : Value → World → Prop) : Prop :=
  wfT n todo = true → ∀ a, Fits n e a → a.defers = marks ds → Runs P fn ro todo a w R

section rx
variable {P : Program} {fn : FuncId} {ro : Option Nat} {n : Nat} {e e' : Env} {ds : List Nat} {k k' : List Item} {w : World} {R : Value → World → Prop}

theorem RX.keep (e' : Env) (hk : KeepAll e e') (h : RX P fn ro n k e' ds w R) : RX P fn ro n k e ds w R :=
  fun hw a hf hd => h hw a (hf.keep hk) hd
theorem RX.skip (h : RX P fn ro n k e ds w R) : RX P fn ro n (.code .skip :: k) e ds w R :=
  fun hw a hf hd => .skip (h (by simpa [wfT_cons, wfI, wfC] using hw) a hf hd)
theorem RX.label {l : Nat} (h : RX P fn ro n k e ds w R) : RX P fn ro n (.code (.label l) :: k) e ds w R :=
  fun hw a hf hd => .label (h (by simpa [wfT_cons, wfI, wfC] using hw) a hf hd)
theorem RX.inBlock {id : Nat} (h : RX P fn ro n k e ds w R) : RX P fn ro n (.inBlock id :: k) e ds w R :=
  fun hw a hf hd => .inBlock (h (by simpa [wfT_cons, wfI] using hw) a hf hd)
theorem RX.inScope {c : Code} (h : RX P fn ro n k e ds w R) : RX P fn ro n (.inScope c :: k) e ds w R :=
  fun hw a hf hd => .inScope (h (by simp [wfT_cons, wfI] at hw ⊢; exact hw.2) a hf hd)
theorem RX.seq {x y : Code} (h : RX P fn ro n (.code x :: .code y :: k) e ds w R) : RX P fn ro n (.code (.seq x y) :: k) e ds w R :=
  fun hw a hf hd => .seq (h (by simpa [wfT_cons, wfI, wfC, Bool.and_assoc, and_assoc] using hw) a hf hd)
theorem RX.block {id : Nat} {c : Code} (h : RX P fn ro n (.code c :: .inBlock id :: k) e ds w R) : RX P fn ro n (.code (.block id c) :: k) e ds w R :=
  fun hw a hf hd => .block (h (by simpa [wfT_cons, wfI, wfC] using hw) a hf hd)
theorem RX.scope {c : Code} (h : RX P fn ro n (.code c :: .inScope c :: k) e ds w R) : RX P fn ro n (.code (.scope c) :: k) e ds w R :=
  fun hw a hf hd => .scope (h (by simp [wfT_cons, wfI, wfC] at hw ⊢; simp [hw.1, hw.2]) a hf hd)
theorem RX.exit {id : Nat} (hx : exitTo id k = some k') (h : RX P fn ro n k' e ds w R) : RX P fn ro n (.code (.exit id) :: k) e ds w R :=
  fun hw a hf hd => .exit hx (h (wfT_exit hx (by simpa [wfT_cons, wfI, wfC] using hw)) a hf hd)
theorem RX.condT {c : Operand} {x y : Code} (hc : e.ev c = some (.bool true)) (h : RX P fn ro n (.code x :: k) e ds w R) :
    RX P fn ro n (.code (.cond c x y) :: k) e ds w R :=
  fun hw a hf hd => .cond (hf.ev hc) (h (by simp [wfT_cons, wfI, wfC] at hw ⊢; exact ⟨hw.1.1, hw.2⟩) a hf hd)
theorem RX.condF {c : Operand} {x y : Code} (hc : e.ev c = some (.bool false)) (h : RX P fn ro n (.code y :: k) e ds w R) :
    RX P fn ro n (.code (.cond c x y) :: k) e ds w R :=
  fun hw a hf hd => .cond (hf.ev hc) (h (by simp [wfT_cons, wfI, wfC] at hw ⊢; exact ⟨hw.1.2, hw.2⟩) a hf hd)
theorem RX.cond {c : Operand} {x y : Code} {b : Bool} (hc : e.ev c = some (.bool b)) (ht : b = true → RX P fn ro n (.code x :: k) e ds w R)
    (hf : b = false → RX P fn ro n (.code y :: k) e ds w R) : RX P fn ro n (.code (.cond c x y) :: k) e ds w R := by
  cases b
  · exact .condF hc (hf rfl)
  · exact .condT hc (ht rfl)
theorem RX.condD {c : Operand} {x y : Code} {p : Prop} [Decidable p] (hc : e.ev c = some (.bool (decide p))) (ht : p → RX P fn ro n (.code x :: k) e ds w R)
    (hf : ¬ p → RX P fn ro n (.code y :: k) e ds w R) : RX P fn ro n (.code (.cond c x y) :: k) e ds w R :=
  .cond hc (fun h => ht (of_decide_eq_true h)) (fun h => hf (of_decide_eq_false h))

/-- A loop, by a measure. -/
theorem RX.loop {c : Code} (I : Nat → Env → World → Prop) (d : Nat) (h0 : I d e w)
    (round : ∀ d e w, I d e w → (∀ d', d' < d → ∀ e w, I d' e w → RX P fn ro n (.inLoop c :: k) e ds w R) → RX P fn ro n (.code c :: .inLoop c :: k) e ds w R) :
    RX P fn ro n (.code (.loop c) :: k) e ds w R := by
  intro hw a hf hd
  have hc : wfC n c = true ∧ wfT n k = true := by simpa [wfT_cons, wfI, wfC] using hw
  have h1 : wfT n (.code c :: .inLoop c :: k) = true := by simp [wfT_cons, wfI, hc.1, hc.2]
  refine Runs.loop (I := fun d a w => ∃ e, I d e w ∧ Fits n e a ∧ a.defers = marks ds) d ⟨e, h0, hf, hd⟩ ?_
  rintro d a w ⟨e, hI, hf, hd⟩ ih
  refine round d e w hI (fun d' hd' e w hI' => ?_) h1 a hf hd
  intro _ a hf hd
  exact ih d' hd' a w ⟨e, hI', hf, hd⟩

theorem RX.ret {f : Func} {v : Value} (hfn : P.funcs[fn]? = some f) (hr : ∀ a : Act, Fits n e a → (results f a.tmps).run P w = .ok v w) (r : R v w) :
    RX P fn none n (.code .ret :: k) e [] w R :=
  fun _ a hf hd => .ret hfn hd (hr a hf) r
theorem RX.fin {f : Func} {v : Value} (hfn : P.funcs[fn]? = some f) (hr : ∀ a : Act, Fits n e a → (results f a.tmps).run P w = .ok v w) (r : R v w) :
    RX P fn none n [] e [] w R :=
  fun _ a hf hd => .fin hfn hd (hr a hf) r

end rx

/-- The environment at a function's entry: the arguments. -/
def argsFrom : Nat → List Value → Env
  | _, [] => []
  | i, v :: r => (i, v) :: argsFrom (i + 1) r
theorem argsFrom_get : ∀ (l : List Value) (i t : Nat) (v : Value), (argsFrom i l).get t = some v → i ≤ t ∧ l[t - i]? = some v
  | [], _, _, _, h => by cases h
  | x :: r, i, t, v, h => by
    simp only [argsFrom, Env.get] at h
    cases hb : Nat.beq i t with
    | true =>
      have := Nat.eq_of_beq_eq_true hb; subst this
      simp only [hb] at h; cases h
      simp
    | false =>
      simp only [hb] at h
      have hne : i ≠ t := Nat.ne_of_beq_eq_false hb
      obtain ⟨h1, h2⟩ := argsFrom_get r (i + 1) t v h
      refine ⟨by omega, ?_⟩
      obtain ⟨d, hd⟩ : ∃ d, t - i = d + 1 := ⟨t - i - 1, by omega⟩
      rw [hd, List.getElem?_cons_succ]
      rwa [show t - (i + 1) = d by omega] at h2

theorem calls_of_rx {P : Program} {f : FuncId} {fn : Func} {c : Code} {args : List Value} {e : Env} {w : World} {R : Value → World → Prop} {n : Nat}
    (hf : P.funcs[f]? = some fn) (hb : fn.body = some c) (hn : fn.ntmps = n) (ha : Nat.ble args.length n = true) (hw : wfC n c = true) (he : argsFrom 0 args = e)
    (h : RX P f none n [.code c] e [] w R) : Calls P f args.toArray w (Ret R) := by
  subst he
  have ha := Nat.le_of_ble_eq_true ha
  refine calls_of_runs hf hb (h (by simp [wfT_cons, wfI, hw]; rfl) _ ?_ rfl)
  refine ⟨by simp [hn]; omega, fun t v ht => ?_⟩
  obtain ⟨_, h2⟩ := argsFrom_get args 0 t v ht
  have : t < args.length := (List.getElem?_eq_some_iff.1 h2).1
  rw [List.getElem?_eq_getElem (by simpa using this)] at h2
  simpa [Array.getElem?_append, this] using h2

/-! ### Operations of a region in the text's order -/

/-- A value that an operation answers in every world that meets W, doing nothing else. -/
def ReadOp (P : Program) (o : Op) (ty : TypeId) (e : Env) (W : World → Prop) (v : Value) : Prop :=
  (match o with | .defer _ | .select .. => false | _ => true) = true ∧
  ∀ ρ : Operand → Value, (∀ x u, e.ev x = some u → ρ x = u) → ∀ (d : Option Tmp) (pos : String) (af : Array Edge) (g : Option (Nat × Bool)) (w : World), W w →
    (execOp ρ ⟨d, o, ty, pos, af, g⟩).run P w = .ok (.value v) w

/-- An operation that does something, and what holds behind it of its answer and the world. -/
def LoudOp (P : Program) (o : Op) (ty : TypeId) (e : Env) (w : World) (K : Value → World → Prop) : Prop :=
  (match o with | .defer _ | .select .. => false | _ => true) = true ∧
  ∀ ρ : Operand → Value, (∀ x u, e.ev x = some u → ρ x = u) → ∀ (d : Option Tmp) (pos : String) (af : Array Edge) (g : Option (Nat × Bool)),
    ∃ m w', (execOp ρ ⟨d, o, ty, pos, af, g⟩).run P w = .ok m w' ∧ Enters P K m w'

theorem ReadOp.loud {P : Program} {o : Op} {ty : TypeId} {e : Env} {W : World → Prop} {v : Value} {w : World} {K : Value → World → Prop} (h : ReadOp P o ty e W v) (hw : W w) (hk : K v w) :
    LoudOp P o ty e w K := ⟨h.1, fun ρ hρ d pos af g => ⟨.value v, w, h.2 ρ hρ d pos af g w hw, hk⟩⟩

theorem LoudOp.opW {P : Program} {o : Op} {ty : TypeId} {e : Env} {w : World} {K : Value → World → Prop} (h : LoudOp P o ty e w K) {n : Nat} {a : Act} (hf : Fits n e a)
    (d : Option Tmp) (pos : String) (af : Array Edge) (g : Option (Nat × Bool)) : OpW P ⟨d, o, ty, pos, af, g⟩ a w K := by
  refine ⟨?_, ?_⟩
  · have := h.1; cases o <;> simp_all [notDefer]
  · exact h.2 a.eval (fun x u hx => hf.ev hx) d pos af g

/-- The rest of a region (the operations l of ops), in the text's order, and what is to do behind it. -/
def RU (P : Program) (fn : FuncId) (ro : Option Nat) (n : Nat) (ops : Array Oper) (l : List Oper) (k : List Item) (e : Env) (ds : List Nat) (w : World) (R : Value → World → Prop) : Prop :=
  wfT n k = true → ops.toList.all (dstOk n) = true → ∀ i, ops.toList.drop i = l → ∀ a, Fits n e a → a.defers = marks ds →
    Runs P fn ro (.inRegion ops (List.range' i l.length) :: k) a w R

section ru
variable {P : Program} {fn : FuncId} {ro : Option Nat} {n : Nat} {e : Env} {ds : List Nat} {k : List Item} {w : World} {R : Value → World → Prop} {ops : Array Oper} {l : List Oper}

theorem RX.region {id : Nat} (h : RU P fn ro n l.toArray l k e ds w R) : RX P fn ro n (.code (.region id l.toArray false) :: k) e ds w R := by
  intro hw a hf hd
  have hw' : l.all (dstOk n) = true ∧ wfT n k = true := by simpa [wfT_cons, wfI, wfC] using hw
  refine .step (fun _ => step_lone_go (by simp [stepG, stepG.exec, mkF])) (a' := a) (k' := .inRegion l.toArray (List.range l.length) :: k) (w' := w) ?_
  rw [List.range_eq_range']
  exact h hw'.2 (by simpa using hw'.1) 0 (by simp) a hf hd

theorem RU.nil (h : RX P fn ro n k e ds w R) : RU P fn ro n ops [] k e ds w R := by
  intro hw _ i _ a hf hd
  exact .step (fun _ => step_lone_go (by simp [stepG, stepG.exec, mkF])) (h hw a hf hd)

theorem drop_head {α : Type} {xs : List α} {i : Nat} {o : α} {l : List α} (h : xs.drop i = o :: l) : xs[i]? = some o ∧ xs.drop (i + 1) = l := by
  refine ⟨by have := congrArg (·[0]?) h; simpa using this, ?_⟩
  have := congrArg List.tail h
  simpa [List.tail_drop] using this

theorem RU.loudAux {d : Option Nat} {o : Op} {ty : TypeId} {pos : String} {af : Array Edge} {g : Option (Nat × Bool)}
    (hg : ∀ a, Fits n e a → Region.wanted ⟨d, o, ty, pos, af, g⟩ (yielded ops a.tmps) = true)
    (h : LoudOp P o ty e w fun v w' => RU P fn ro n ops l k (match d with | some d => (d, v) :: e | none => e) ds w' R) :
    RU P fn ro n ops (⟨d, o, ty, pos, af, g⟩ :: l) k e ds w R := by
  intro hw ho i hi a hf hd
  obtain ⟨h1, h2⟩ := drop_head hi
  have h1' : ops[i]? = some ⟨d, o, ty, pos, af, g⟩ := by simpa using h1
  rw [List.length_cons, List.range'_succ]
  refine .op h1' (hg a hf) ((h.opW hf d pos af g).mono fun v w' hv => ?_)
  refine hv hw ho (i + 1) h2 _ ?_ ?_
  · cases d with
    | none => exact hf
    | some d =>
      have : dstOk n ⟨some d, o, ty, pos, af, g⟩ = true := List.all_eq_true.1 ho _ (List.mem_of_getElem? h1)
      exact hf.put (by simpa [dstOk] using this) v
  · cases d <;> simpa [Act.put] using hd

/-- The operation wants no test. -/
theorem RU.lo {d : Nat} {o : Op} {ty : TypeId} {pos : String} {af : Array Edge} (h : LoudOp P o ty e w fun v w' => RU P fn ro n ops l k ((d, v) :: e) ds w' R) :
    RU P fn ro n ops (⟨some d, o, ty, pos, af, none⟩ :: l) k e ds w R := .loudAux (d := some d) (fun _ _ => rfl) h
theorem RU.lo0 {o : Op} {ty : TypeId} {pos : String} {af : Array Edge} (h : LoudOp P o ty e w fun _ w' => RU P fn ro n ops l k e ds w' R) :
    RU P fn ro n ops (⟨none, o, ty, pos, af, none⟩ :: l) k e ds w R := .loudAux (d := none) (fun _ _ => rfl) h

theorem wanted_of {j t : Nat} {b want : Bool} {d : Option Nat} {o : Op} {ty : TypeId} {pos : String} {af : Array Edge} {a : Act} (hj : (ops[j]?).bind (·.dst) = some t) (he : e.get t = some (.bool b)) (hf : Fits n e a) :
    Region.wanted ⟨d, o, ty, pos, af, some (j, want)⟩ (yielded ops a.tmps) = (b == want) := by
  have := hf.2 t _ he
  simp only [Region.wanted, yielded, hj, Option.bind_some, this]
  cases b <;> cases want <;> rfl

/-- The operation's test has come out as it wants. -/
theorem RU.loG {d j t : Nat} {want : Bool} {o : Op} {ty : TypeId} {pos : String} {af : Array Edge} (hj : (ops[j]?).bind (·.dst) = some t) (he : e.get t = some (.bool want))
    (h : LoudOp P o ty e w fun v w' => RU P fn ro n ops l k ((d, v) :: e) ds w' R) :
    RU P fn ro n ops (⟨some d, o, ty, pos, af, some (j, want)⟩ :: l) k e ds w R :=
  .loudAux (d := some d) (fun _ hf => by rw [wanted_of hj he hf]; simp) h
theorem RU.loG0 {j t : Nat} {want : Bool} {o : Op} {ty : TypeId} {pos : String} {af : Array Edge} (hj : (ops[j]?).bind (·.dst) = some t) (he : e.get t = some (.bool want))
    (h : LoudOp P o ty e w fun _ w' => RU P fn ro n ops l k e ds w' R) :
    RU P fn ro n ops (⟨none, o, ty, pos, af, some (j, want)⟩ :: l) k e ds w R :=
  .loudAux (d := none) (fun _ hf => by rw [wanted_of hj he hf]; simp) h

theorem RU.rd {d : Nat} {o : Op} {ty : TypeId} {pos : String} {af : Array Edge} {v : Value} (h : ReadOp P o ty e (· = w) v) (m : RU P fn ro n ops l k ((d, v) :: e) ds w R) :
    RU P fn ro n ops (⟨some d, o, ty, pos, af, none⟩ :: l) k e ds w R := .lo (h.loud rfl m)
theorem RU.rdG {d j t : Nat} {want : Bool} {o : Op} {ty : TypeId} {pos : String} {af : Array Edge} {v : Value} (hj : (ops[j]?).bind (·.dst) = some t) (he : e.get t = some (.bool want)) (h : ReadOp P o ty e (· = w) v) (m : RU P fn ro n ops l k ((d, v) :: e) ds w R) :
    RU P fn ro n ops (⟨some d, o, ty, pos, af, some (j, want)⟩ :: l) k e ds w R := .loG hj he (h.loud rfl m)

/-- The operation's test has come out otherwise: it is passed by. -/
theorem RU.skAux {d : Option Nat} {j t : Nat} {b want : Bool} {o : Op} {ty : TypeId} {pos : String} {af : Array Edge} (hj : (ops[j]?).bind (·.dst) = some t) (he : e.get t = some (.bool b)) (hb : (b == want) = false)
    (h : RU P fn ro n ops l k (match d with | some d => (d, undef) :: e | none => e) ds w R) : RU P fn ro n ops (⟨d, o, ty, pos, af, some (j, want)⟩ :: l) k e ds w R := by
  intro hw ho i hi a hf hd
  obtain ⟨h1, h2⟩ := drop_head hi
  have h1' : ops[i]? = some ⟨d, o, ty, pos, af, some (j, want)⟩ := by simpa using h1
  rw [List.length_cons, List.range'_succ]
  have hwn := wanted_of (n := n) (d := d) (o := o) (ty := ty) (pos := pos) (af := af) (want := want) hj he hf
  rw [hb] at hwn
  refine .step (fun cs => step_lone_go ?_) (a' := a.put d undef) (k' := .inRegion ops (List.range' (i + 1) l.length) :: k) (w' := w) ?_
  · have := mkF_finish (fn := fn) (ro := ro) (a := a) (k := k) (ops := ops) i (List.range' (i + 1) l.length) undef
    rw [h1'] at this
    simp only [Option.bind_some] at this
    rw [← this]
    simp only [stepG, stepG.exec, mkF, h1', Option.map_some, Option.getD_some, hwn]
    simp
  · refine h hw ho (i + 1) h2 _ ?_ ?_
    · cases d with
      | none => exact hf
      | some d =>
        have : dstOk n ⟨some d, o, ty, pos, af, some (j, want)⟩ = true := List.all_eq_true.1 ho _ (List.mem_of_getElem? h1)
        exact hf.put (by simpa [dstOk] using this) undef
    · cases d <;> simpa [Act.put] using hd
theorem RU.sk {d j t : Nat} {b want : Bool} {o : Op} {ty : TypeId} {pos : String} {af : Array Edge} (hj : (ops[j]?).bind (·.dst) = some t) (he : e.get t = some (.bool b)) (hb : (b == want) = false)
    (h : RU P fn ro n ops l k ((d, undef) :: e) ds w R) : RU P fn ro n ops (⟨some d, o, ty, pos, af, some (j, want)⟩ :: l) k e ds w R := .skAux (d := some d) hj he hb h
theorem RU.sk0 {j t : Nat} {b want : Bool} {o : Op} {ty : TypeId} {pos : String} {af : Array Edge} (hj : (ops[j]?).bind (·.dst) = some t) (he : e.get t = some (.bool b)) (hb : (b == want) = false)
    (h : RU P fn ro n ops l k e ds w R) : RU P fn ro n ops (⟨none, o, ty, pos, af, some (j, want)⟩ :: l) k e ds w R := .skAux (d := none) hj he hb h

/-- A test's two ways. -/
theorem RU.split {d : Nat} {b : Bool} (ht : b = true → RU P fn ro n ops l k ((d, .bool true) :: e) ds w R) (hf : b = false → RU P fn ro n ops l k ((d, .bool false) :: e) ds w R) :
    RU P fn ro n ops l k ((d, .bool b) :: e) ds w R := by
  cases b
  · exact hf rfl
  · exact ht rfl
theorem RU.splitD {d : Nat} {p : Prop} [Decidable p] (ht : p → RU P fn ro n ops l k ((d, .bool true) :: e) ds w R) (hf : ¬ p → RU P fn ro n ops l k ((d, .bool false) :: e) ds w R) :
    RU P fn ro n ops l k ((d, .bool (decide p)) :: e) ds w R :=
  .split (fun h => ht (of_decide_eq_true h)) (fun h => hf (of_decide_eq_false h))
theorem RU.keep (e' : Env) (hk : KeepAll e e') (h : RU P fn ro n ops l k e' ds w R) : RU P fn ro n ops l k e ds w R :=
  fun hw ho i hi a hf hd => h hw ho i hi a (hf.keep hk) hd
theorem RX.splitD {t : Nat} {p : Prop} [Decidable p] (e' : Env) (he : e = (t, .bool (decide p)) :: e') (ht : p → RX P fn ro n k ((t, .bool true) :: e') ds w R) (hf : ¬ p → RX P fn ro n k ((t, .bool false) :: e') ds w R) :
    RX P fn ro n k e ds w R := by
  subst he
  by_cases h : p
  · simpa [h] using ht h
  · simpa [h] using hf h
end ru
end Go.Proofs.YtmcfbinkofoagaaGreat.Sx
namespace Go.Proofs.YtmcfbinkofoagaaGreat.Sx
open Go Go.RowKit

/-! ### Worlds -/

/-- Block b is a row of these cells. -/
def Blk (w : World) (b : Nat) (cs : List Value) (T : TypeId) : Prop := w.heap[b]? = some (.cells cs.toArray T (0, 0))

/-- What the blocks outside S held they hold still; new blocks may have come. -/
structure Ch (S : Nat → Prop) (w w' : World) : Prop where
  os : w'.os = w.os
  tape : w'.tape = w.tape
  output : w'.output = w.output
  size : w.heap.size ≤ w'.heap.size
  keep : ∀ b, b < w.heap.size → ¬ S b → w'.heap[b]? = w.heap[b]?

abbrev Nil : Nat → Prop := fun _ => False
abbrev Grow (w w' : World) : Prop := Ch Nil w w'

section ch
variable {S S' : Nat → Prop} {w w' w'' : World}
theorem Ch.refl (S : Nat → Prop) (w : World) : Ch S w w := ⟨rfl, rfl, rfl, Nat.le_refl _, fun _ _ _ => rfl⟩
theorem Ch.trans (h : Ch S w w') (k : Ch S w' w'') : Ch S w w'' :=
  ⟨k.os.trans h.os, k.tape.trans h.tape, k.output.trans h.output, Nat.le_trans h.size k.size,
   fun b hb hs => (k.keep b (Nat.lt_of_lt_of_le hb h.size) hs).trans (h.keep b hb hs)⟩
theorem Ch.mono (h : Ch S w w') (hs : ∀ b, b < w.heap.size → S b → S' b) : Ch S' w w' :=
  ⟨h.os, h.tape, h.output, h.size, fun b hb hn => h.keep b hb fun hh => hn (hs b hb hh)⟩
theorem Ch.of_grow (h : Grow w w') : Ch S w w' := h.mono fun _ _ h => h.elim
/-- Behind w only blocks beyond w have been touched, or such of S. -/
theorem Ch.trans' (h : Ch S w w') (k : Ch S' w' w'') (hs : ∀ b, b < w.heap.size → S' b → S b) : Ch S w w'' :=
  ⟨k.os.trans h.os, k.tape.trans h.tape, k.output.trans h.output, Nat.le_trans h.size k.size,
   fun b hb hn => (k.keep b (Nat.lt_of_lt_of_le hb h.size) fun hh => hn (hs b hb hh)).trans (h.keep b hb hn)⟩
theorem Blk.lt {b : Nat} {cs : List Value} {T : TypeId} (h : Blk w b cs T) : b < w.heap.size := by
  unfold Blk at h
  exact (Array.getElem?_eq_some_iff.1 h).1
theorem Blk.ch {b : Nat} {cs : List Value} {T : TypeId} (h : Blk w b cs T) (hc : Ch S w w') (hs : ¬ S b) : Blk w' b cs T := by
  have := hc.keep b h.lt hs
  unfold Blk at *
  rw [this]; exact h
theorem Blk.gr {b : Nat} {cs : List Value} {T : TypeId} (h : Blk w b cs T) (hc : Grow w w') : Blk w' b cs T := h.ch hc id
theorem Ch.below (h : Grow w w') : Below w.heap.size w w' := ⟨h.os, h.tape, h.output, h.size, fun b hb => h.keep b hb id⟩
theorem Ch.drew (S : Nat → Prop) (w : World) : Ch S w w.drew := ⟨rfl, rfl, rfl, Nat.le_refl _, fun _ _ _ => rfl⟩
theorem Ch.alloc (S : Nat → Prop) (w : World) (o : Obj) : Ch S w (w.alloc o) :=
  ⟨rfl, rfl, rfl, by simp, fun b hb _ => Below.heap_alloc w o b hb⟩
theorem Blk.alloc (w : World) (cs : List Value) (T : TypeId) : Blk (w.alloc (.cells cs.toArray T)) w.heap.size cs T := by
  show (w.heap.push _)[w.heap.size]? = _
  simp
theorem Blk.cell {b : Nat} {cs : List Value} {T : TypeId} (h : Blk w b cs T) (i : Nat) : w.cell? ⟨b, i, none⟩ = cs[i]? := by
  unfold Blk at h
  simp [World.cell?, h]
theorem Blk.free {b : Nat} {cs : List Value} {T : TypeId} (h : Blk w b cs T) (i : Nat) : w.frozen? ⟨b, i, none⟩ = false := by
  unfold Blk at h
  simp [World.frozen?, h]
theorem Blk.shape {b : Nat} {cs : List Value} {T : TypeId} (h : Blk w b cs T) : w.shape? b = some (T, cs.length) := by
  unfold Blk at h
  simp [World.shape?, h]
theorem Blk.set {b : Nat} {cs : List Value} {T : TypeId} (h : Blk w b cs T) (i : Nat) (v : Value) : Blk (w.setCell ⟨b, i, none⟩ v) b (cs.set i v) T := by
  unfold Blk at *
  simp [World.setCell, Array.getElem?_modify, h]
theorem Ch.setCell (w : World) (a : Addr) (v : Value) : Ch (· = a.block) w (w.setCell a v) :=
  ⟨rfl, rfl, rfl, by simp, fun b _ hs => Below.heap_setCell w a v b hs⟩
theorem Blk.inj {b : Nat} {cs cs' : List Value} {T T' : TypeId} (h : Blk w b cs T) (h' : Blk w b cs' T') : cs = cs' := by
  unfold Blk at *
  rw [h] at h'
  have h2 := Option.some.inj h'
  simp at h2
  exact h2.1
/-- Block b can be read so. -/
structure BlkR (w : World) (b : Nat) (cs : List Value) : Prop where
  lt : b < w.heap.size
  cell : ∀ i, w.cell? ⟨b, i, none⟩ = cs[i]?
theorem Blk.r {b : Nat} {cs : List Value} {T : TypeId} (h : Blk w b cs T) : BlkR w b cs := ⟨h.lt, h.cell⟩
theorem BlkR.ch {b : Nat} {cs : List Value} (h : BlkR w b cs) (hc : Ch S w w') (hs : ¬ S b) : BlkR w' b cs := by
  refine ⟨Nat.lt_of_lt_of_le h.lt hc.size, fun i => ?_⟩
  rw [← h.cell i]
  simp only [World.cell?, hc.keep b h.lt hs]
theorem BlkR.gr {b : Nat} {cs : List Value} (h : BlkR w b cs) (hc : Grow w w') : BlkR w' b cs := h.ch hc id
/-- A cell that can be read: its block. -/
theorem BlkR.of_cell {a : Addr} {v : Value} (h : w.cell? a = some v) : a.spot = none ∧ ∃ cs, BlkR w a.block cs := by
  unfold World.cell? at h
  split at h
  · rename_i c T fr hb
    split at h
    · cases h
    · rename_i hs
      refine ⟨by simpa using hs, c.toList, (Array.getElem?_eq_some_iff.1 hb).1, fun i => ?_⟩
      simp [World.cell?, hb]
  · cases h
end ch
end Go.Proofs.YtmcfbinkofoagaaGreat.Sx
namespace Go.Proofs.YtmcfbinkofoagaaGreat.Sx
open Go Go.RowKit

/-! ### Facts on the table of types, to be asked of the kernel once each -/
def scal (P : Program) (t : TypeId) : Bool := match P.underlying t with
  | some (.struct _) | some (.array _ _) | none => false
  | _ => true
def aggN (P : Program) (t : TypeId) : Option Nat := match P.underlying t with
  | some (.struct _) | some (.array _ _) => (P.info? t).map (·.size)
  | _ => none
/-- A struct's field: its place; it is not of size 0. -/
def fldO (P : Program) (s f : Nat) : Option Nat := match P.underlying s with
  | some (.struct fs) => (fs[f]?).bind fun x => match (P.info? x.type).map (·.size) with
    | some (_ + 1) => some x.offset
    | _ => none
  | _ => none
/-- A struct's field: its place, and how many cells, if it is a struct or an array. -/
def fldV (P : Program) (s f : Nat) : Option (Nat × Option Nat) := match P.underlying s with
  | some (.struct fs) => (fs[f]?).bind fun x => if scal P x.type then some (x.offset, none) else (aggN P x.type).map fun n => (x.offset, some n)
  | _ => none
/-- A slice type's element: its size. -/
def slE (P : Program) (t : TypeId) : Option (TypeId × Nat) := match P.underlying t with
  | some (.slice e) => ((P.info? e).map (·.size)).map (e, ·)
  | _ => none
/-- An array type's length, element, and its size. -/
def arE (P : Program) (t : TypeId) : Option (Nat × TypeId × Nat) := match P.underlying t with
  | some (.array n e) => ((P.info? e).map (·.size)).map (n, e, ·)
  | _ => none
def szOf (P : Program) (t : TypeId) : Option Nat := (P.info? t).map (·.size)
/-- The zero value's cells. -/
def zeroC (P : Program) (t : TypeId) : Option (List Value) := ((P.info? t).bind (·.zero)).map (·.cells.toList)

section
variable {P : Program} {e : Env} {W : World → Prop} {ty : TypeId}

theorem run_underlying {t : TypeId} {d : TypeDesc} (h : P.underlying t = some d) (w : World) : (underlying t).run P w = .ok d w := by
  simp [underlying, h]
theorem run_sizeOf {t : TypeId} {n : Nat} (h : szOf P t = some n) (w : World) : (sizeOf t).run P w = .ok n w := by
  unfold szOf at h
  cases hi : P.info? t with
  | none => simp [hi] at h
  | some i => simp [hi] at h; simp [sizeOf, typeInfo, hi, h]

/-! ### Copies, tests, numbers -/

theorem V.mv {x : Operand} {v : Value} (hx : e.ev x = some v) : ReadOp P (.move x) ty e W v :=
  ⟨rfl, fun ρ hρ d pos af g w _ => by simp [execOp, hρ _ _ hx]⟩
theorem V.as {x : Operand} {v : Value} (hx : e.ev x = some v) : ReadOp P (.assign x) ty e W v :=
  ⟨rfl, fun ρ hρ d pos af g w _ => by simp [execOp, hρ _ _ hx]⟩
theorem V.pickT {c x y : Operand} {v : Value} (hc : e.ev c = some (.bool true)) (hx : e.ev x = some v) : ReadOp P (.pick c x y) ty e W v :=
  ⟨rfl, fun ρ hρ d pos af g w _ => by simp [execOp, hρ _ _ hx, hρ _ _ hc, asBool]⟩
theorem V.pickF {c x y : Operand} {v : Value} (hc : e.ev c = some (.bool false)) (hx : e.ev y = some v) : ReadOp P (.pick c x y) ty e W v :=
  ⟨rfl, fun ρ hρ d pos af g w _ => by simp [execOp, hρ _ _ hx, hρ _ _ hc, asBool]⟩
theorem V.not {x : Operand} {b : Bool} {t : TypeId} (hx : e.ev x = some (.bool b)) : ReadOp P (.unOp .not t x) ty e W (.bool (!b)) :=
  ⟨rfl, fun ρ hρ d pos af g w _ => by simp [execOp, hρ _ _ hx, Op.unary]⟩
theorem V.notD {x : Operand} {p : Prop} [Decidable p] {t : TypeId} (hx : e.ev x = some (.bool (decide p))) : ReadOp P (.unOp .not t x) ty e W (.bool (decide (¬ p))) :=
  ⟨rfl, fun ρ hρ d pos af g w _ => by simp [execOp, hρ _ _ hx, Op.unary]⟩
theorem V.neg {x : Operand} {a : Int} {t : TypeId} (hx : e.ev x = some (.int .i64 a)) (h1 : -9223372036854775808 < a) (h2 : a ≤ 9223372036854775807) : ReadOp P (.unOp .neg t x) ty e W (.int .i64 (-a)) :=
  ⟨rfl, fun ρ hρ d pos af g w _ => by
    simp [execOp, hρ _ _ hx, Op.unary, Op.intArith, IntKind.wrap, IntKind.bits, IntKind.signed]; omega⟩

section num
variable {x y : Operand} {a b : Int} {k : IntKind} {t t' : TypeId}
theorem V.lss (hx : e.ev x = some (.int k a)) (hy : e.ev y = some (.int k b)) : ReadOp P (.binOp .lss t x y t') ty e W (.bool (decide (a < b))) :=
  ⟨rfl, fun ρ hρ d pos af g w _ => by simp [execOp, hρ _ _ hx, hρ _ _ hy, eqGuard, binOp, Op.intCmp]⟩
theorem V.leq (hx : e.ev x = some (.int k a)) (hy : e.ev y = some (.int k b)) : ReadOp P (.binOp .leq t x y t') ty e W (.bool (decide (a ≤ b))) :=
  ⟨rfl, fun ρ hρ d pos af g w _ => by simp [execOp, hρ _ _ hx, hρ _ _ hy, eqGuard, binOp, Op.intCmp]⟩
theorem V.gtr (hx : e.ev x = some (.int k a)) (hy : e.ev y = some (.int k b)) : ReadOp P (.binOp .gtr t x y t') ty e W (.bool (decide (b < a))) :=
  ⟨rfl, fun ρ hρ d pos af g w _ => by simp [execOp, hρ _ _ hx, hρ _ _ hy, eqGuard, binOp, Op.intCmp]⟩
theorem V.geq (hx : e.ev x = some (.int k a)) (hy : e.ev y = some (.int k b)) : ReadOp P (.binOp .geq t x y t') ty e W (.bool (decide (b ≤ a))) :=
  ⟨rfl, fun ρ hρ d pos af g w _ => by simp [execOp, hρ _ _ hx, hρ _ _ hy, eqGuard, binOp, Op.intCmp]⟩
theorem V.eql (hx : e.ev x = some (.int k a)) (hy : e.ev y = some (.int k b)) : ReadOp P (.binOp .eql t x y t') ty e W (.bool (decide (a = b))) :=
  ⟨rfl, fun ρ hρ d pos af g w _ => by simp [execOp, hρ _ _ hx, hρ _ _ hy, eqGuard, binOp, Op.intCmp]; rfl⟩
theorem V.neq (hx : e.ev x = some (.int k a)) (hy : e.ev y = some (.int k b)) : ReadOp P (.binOp .neq t x y t') ty e W (.bool (decide (a ≠ b))) :=
  ⟨rfl, fun ρ hρ d pos af g w _ => by
    simp [execOp, hρ _ _ hx, hρ _ _ hy, eqGuard, binOp, Op.intCmp, bne]
    cases h : (a == b) <;> simp_all⟩
theorem wrap_in {n : Int} (h1 : -9223372036854775808 ≤ n) (h2 : n ≤ 9223372036854775807) : IntKind.i64.wrap n = n := by
  simp [IntKind.wrap, IntKind.bits, IntKind.signed]; omega
theorem V.add (hx : e.ev x = some (.int .i64 a)) (hy : e.ev y = some (.int .i64 b)) (h : -9223372036854775808 ≤ a + b ∧ a + b ≤ 9223372036854775807) : ReadOp P (.binOp .add t x y t') ty e W (.int .i64 (a + b)) :=
  ⟨rfl, fun ρ hρ d pos af g w _ => by simp [execOp, hρ _ _ hx, hρ _ _ hy, eqGuard, binOp, Op.intArith, wrap_in h.1 h.2]⟩
theorem V.sub (hx : e.ev x = some (.int .i64 a)) (hy : e.ev y = some (.int .i64 b)) (h : -9223372036854775808 ≤ a - b ∧ a - b ≤ 9223372036854775807) : ReadOp P (.binOp .sub t x y t') ty e W (.int .i64 (a - b)) :=
  ⟨rfl, fun ρ hρ d pos af g w _ => by simp [execOp, hρ _ _ hx, hρ _ _ hy, eqGuard, binOp, Op.intArith, wrap_in h.1 h.2]⟩
theorem V.mul (hx : e.ev x = some (.int .i64 a)) (hy : e.ev y = some (.int .i64 b)) (h : -9223372036854775808 ≤ a * b ∧ a * b ≤ 9223372036854775807) : ReadOp P (.binOp .mul t x y t') ty e W (.int .i64 (a * b)) :=
  ⟨rfl, fun ρ hρ d pos af g w _ => by simp [execOp, hρ _ _ hx, hρ _ _ hy, eqGuard, binOp, Op.intArith, wrap_in h.1 h.2]⟩
/-- Sums and the like whatever they come to. -/
theorem V.addW (hx : e.ev x = some (.int .i64 a)) (hy : e.ev y = some (.int .i64 b)) : ReadOp P (.binOp .add t x y t') ty e W (.int .i64 (IntKind.i64.wrap (a + b))) :=
  ⟨rfl, fun ρ hρ d pos af g w _ => by simp [execOp, hρ _ _ hx, hρ _ _ hy, eqGuard, binOp, Op.intArith]⟩
theorem V.subW (hx : e.ev x = some (.int .i64 a)) (hy : e.ev y = some (.int .i64 b)) : ReadOp P (.binOp .sub t x y t') ty e W (.int .i64 (IntKind.i64.wrap (a - b))) :=
  ⟨rfl, fun ρ hρ d pos af g w _ => by simp [execOp, hρ _ _ hx, hρ _ _ hy, eqGuard, binOp, Op.intArith]⟩
/-- Numbers that are not below nothing, by one that is above it. -/
theorem V.quo (hx : e.ev x = some (.int .i64 a)) (hy : e.ev y = some (.int .i64 b)) (h : 0 ≤ a ∧ a ≤ 9223372036854775807 ∧ 0 < b) : ReadOp P (.binOp .quo t x y t') ty e W (.int .i64 (a / b)) :=
  ⟨rfl, fun ρ hρ d pos af g w _ => by
    have h1 : a.tdiv b = a / b := Int.tdiv_eq_ediv_of_nonneg h.1
    have h2 : 0 ≤ a / b := Int.ediv_nonneg h.1 (by omega)
    have h3 : a / b ≤ a := Int.ediv_le_self _ h.1
    have h4 : b ≠ 0 := by omega
    simp [execOp, hρ _ _ hx, hρ _ _ hy, eqGuard, binOp, Op.intDiv, h4, h1, wrap_in (by omega : -9223372036854775808 ≤ a / b) (by omega)]⟩
theorem V.rem (hx : e.ev x = some (.int .i64 a)) (hy : e.ev y = some (.int .i64 b)) (h : 0 ≤ a ∧ 0 < b) : ReadOp P (.binOp .rem t x y t') ty e W (.int .i64 (a % b)) :=
  ⟨rfl, fun ρ hρ d pos af g w _ => by
    have h1 : a.tmod b = a % b := Int.tmod_eq_emod_of_nonneg h.1
    have h4 : b ≠ 0 := by omega
    simp [execOp, hρ _ _ hx, hρ _ _ hy, eqGuard, binOp, Op.intDiv, h4, h1]⟩
theorem and_low (m : Nat) (a : Int) (hm : m < 63) : IntKind.i64.wrap (BitVec.ofInt 64 a &&& BitVec.ofInt 64 ((2 ^ m : Nat) - 1)).toNat = a % (2 ^ m : Nat) := by
  have hp : 0 < 2 ^ m := Nat.two_pow_pos m
  have hlt : 2 ^ m < 2 ^ 63 := Nat.pow_lt_pow_right (by decide) hm
  have key : (BitVec.ofInt 64 a &&& BitVec.ofInt 64 ((2 ^ m : Nat) - 1)).toNat = (a % (2 ^ m : Nat)).toNat := by
    have h1 : BitVec.ofInt 64 (((2 ^ m : Nat) : Int) - 1) = BitVec.ofNat 64 (2 ^ m - 1) := by
      rw [show (((2 ^ m : Nat) : Int) - 1) = ((2 ^ m - 1 : Nat) : Int) by omega]
      exact BitVec.ofInt_natCast 64 (2 ^ m - 1)
    rw [h1, BitVec.toNat_and, BitVec.toNat_ofNat, Nat.mod_eq_of_lt (by omega : 2 ^ m - 1 < 2 ^ 64), Nat.and_two_pow_sub_one_eq_mod, BitVec.toNat_ofInt]
    have h3 : ((2 ^ m : Nat) : Int) ∣ ((2 ^ 64 : Nat) : Int) := Int.natCast_dvd_natCast.2 (Nat.pow_dvd_pow 2 (by omega))
    have h4 : 0 ≤ a % ((2 ^ 64 : Nat) : Int) := Int.emod_nonneg _ (by decide)
    rw [← Int.emod_emod_of_dvd a h3]
    rw [Int.toNat_emod h4 (by omega), Int.toNat_natCast]
  have h2 : 0 ≤ a % ((2 ^ m : Nat) : Int) := Int.emod_nonneg _ (by omega)
  have h5 : a % ((2 ^ m : Nat) : Int) < (2 ^ m : Nat) := Int.emod_lt_of_pos _ (by omega)
  rw [key, wrap_in (by omega) (by omega)]; omega
/-- The low bits. -/
theorem V.and {m : Nat} {c : Int} (hc : c = ((2 ^ m : Nat) : Int) - 1) (hm : m < 63) (hx : e.ev x = some (.int .i64 a)) (hy : e.ev y = some (.int .i64 c)) : ReadOp P (.binOp .and t x y t') ty e W (.int .i64 (a % (2 ^ m : Nat))) :=
  ⟨rfl, fun ρ hρ d pos af g w _ => by
    have h := and_low m a hm
    simp only [execOp, hρ _ _ hx, hρ _ _ hy, hc]
    show Sem.run P (Sem.bind (Sem.bind (Sem.pure ()) fun _ => Sem.pure (Value.int .i64 (IntKind.i64.wrap (BitVec.ofInt 64 a &&& BitVec.ofInt 64 ((2 ^ m : Nat) - 1)).toNat))) fun v => Sem.pure (Next.value v)) w = _
    rw [h]; rfl⟩
end num

theorem run_equal {t : TypeId} {a b : Value} {r : Bool} {w : World} (h : (Op.equalIn (9999 + 1) t a b).run P w = .ok r w) : (Op.equal t a b).run P w = .ok r w := h
theorem run_eq_ptr {t el : TypeId} (ht : P.underlying t = some (.pointer el)) (p : Option Addr) (w : World) : (Op.equal t (.pointer p) (.pointer none)).run P w = .ok p.isNone w := by
  refine run_equal ?_
  rw [Op.equalIn]
  cases p <;> simp [run_underlying ht]
theorem run_eq_slice {t el : TypeId} (ht : P.underlying t = some (.slice el)) (p : Option Addr) (l c l' c' : Nat) (w : World) : (Op.equal t (.slice p l c) (.slice none l' c')).run P w = .ok p.isNone w := by
  refine run_equal ?_
  rw [Op.equalIn]
  cases p <;> simp [run_underlying ht]
theorem V.eqNil {x : Operand} {t t' el : TypeId} (ht : P.underlying t = some (.pointer el)) {y : Operand} {p : Option Addr} (hx : e.ev x = some (.pointer p)) (hy : e.ev y = some (.pointer none)) : ReadOp P (.binOp .eql t x y t') ty e W (.bool p.isNone) :=
  ⟨rfl, fun ρ hρ d pos af g w _ => by
    simp only [execOp, hρ _ _ hx, hρ _ _ hy, eqGuard, binOp]; simp [run_eq_ptr ht]⟩
theorem V.neNil {x : Operand} {t t' el : TypeId} (ht : P.underlying t = some (.pointer el)) {y : Operand} {p : Option Addr} (hx : e.ev x = some (.pointer p)) (hy : e.ev y = some (.pointer none)) : ReadOp P (.binOp .neq t x y t') ty e W (.bool p.isSome) :=
  ⟨rfl, fun ρ hρ d pos af g w _ => by
    simp only [execOp, hρ _ _ hx, hρ _ _ hy, eqGuard, binOp]; simp [run_eq_ptr ht]⟩
theorem V.slNil {x : Operand} {t t' el : TypeId} (ht : P.underlying t = some (.slice el)) {y : Operand} {p : Option Addr} {l c l' c' : Nat} (hx : e.ev x = some (.slice p l c)) (hy : e.ev y = some (.slice none l' c')) : ReadOp P (.binOp .eql t x y t') ty e W (.bool p.isNone) :=
  ⟨rfl, fun ρ hρ d pos af g w _ => by
    simp only [execOp, hρ _ _ hx, hρ _ _ hy, eqGuard, binOp]; simp [run_eq_slice ht]⟩
theorem V.ext {x : Operand} {vs : List Value} {i : Nat} {v : Value} (hx : e.ev x = some (.tuple vs.toArray)) (hv : vs[i]? = some v) : ReadOp P (.extract x i) ty e W v :=
  ⟨rfl, fun ρ hρ d pos af g w _ => by simp [execOp, hρ _ _ hx, Instr.extract, hv]⟩
theorem V.nck {x : Operand} {a : Addr} (hx : e.ev x = some (.pointer (some a))) : ReadOp P (.nilCheck x) ty e W (.pointer (some a)) :=
  ⟨rfl, fun ρ hρ d pos af g w _ => by simp [execOp, hρ _ _ hx]⟩
theorem V.fn {f : Nat} {cap : List Operand} {vs : List Value} (hx : cap.mapM e.ev = some vs) : ReadOp P (.makeFunc (.func f) #[] cap.toArray) ty e W (.func (.func f) #[] vs.toArray) :=
  ⟨rfl, fun ρ hρ d pos af g w _ => by
    have : cap.map ρ = vs := by
      clear g af pos d
      induction cap generalizing vs with
      | nil => simp at hx; simp [hx]
      | cons c r ih =>
        simp only [List.mapM_cons, Option.bind_eq_bind] at hx
        cases hc : e.ev c with
        | none => simp [hc] at hx
        | some u =>
          cases hr : r.mapM e.ev with
          | none => simp [hc, hr] at hx
          | some us => simp [hc, hr] at hx; subst hx; simp [hρ _ _ hc, ih hr]
    simp [execOp, Instr.makeFunc, this]⟩

/-! ### Addresses -/

theorem V.fld {s f off o : Nat} {x : Operand} {b : Nat} (ht : fldO P s f = some o) (hx : e.ev x = some (.pointer (some ⟨b, off, none⟩))) : ReadOp P (.fieldAddr s x f) ty e W (.pointer (some ⟨b, off + o, none⟩)) :=
  ⟨rfl, fun ρ hρ d pos af g w _ => by
    unfold fldO at ht
    cases hu : P.underlying s with
    | none => simp [hu] at ht
    | some ds =>
      cases ds <;> simp only [hu] at ht <;> try cases ht
      rename_i fs
      obtain ⟨fd, hfd, hz⟩ := Option.bind_eq_some_iff.1 ht
      cases hi : P.info? fd.type with
      | none => simp [hi] at hz
      | some i =>
        simp [hi] at hz
        cases hs : i.size with
        | zero => simp [hs] at hz
        | succ m =>
          simp [hs] at hz
          subst hz
          have h1 : (sizeOf fd.type).run P w = .ok (m + 1) w := by simp [sizeOf, typeInfo, hi, hs]
          by_cases h0 : fd.offset = 0 <;>
            simp [execOp, hρ _ _ hx, Instr.fieldAt, run_underlying hu, hfd, Instr.sureAddr, fieldPlace, h1, Addr.add, h0]⟩
/-- At a block's head. -/
theorem V.fld0 {s f o : Nat} {x : Operand} {b : Nat} (ht : fldO P s f = some o) (hx : e.ev x = some (.pointer (some ⟨b, 0, none⟩))) : ReadOp P (.fieldAddr s x f) ty e W (.pointer (some ⟨b, o, none⟩)) := by
  have := V.fld (ty := ty) (W := W) (P := P) ht hx
  rwa [Nat.zero_add] at this

theorem V.idx {t : TypeId} {el : TypeId} {sz : Nat} {x ix : Operand} {b off len cap : Nat} {i : Int} {k : IntKind} (ht : slE P t = some (el, sz)) (hx : e.ev x = some (.slice (some ⟨b, off, none⟩) len cap)) (hi : e.ev ix = some (.int k i))
    (h : 0 ≤ i ∧ i < len) : ReadOp P (.indexAddr t x ix) ty e W (.pointer (some ⟨b, off + i.toNat * sz, none⟩)) :=
  ⟨rfl, fun ρ hρ d pos af g w _ => by
    unfold slE at ht
    cases hu : P.underlying t with
    | none => simp [hu] at ht
    | some ds =>
      cases ds <;> simp [hu] at ht
      rename_i el'
      obtain ⟨a, ha, hb, hc⟩ := ht
      subst hb
      subst hc
      have h1 : (sizeOf el').run P w = .ok a.size w := run_sizeOf (by simp [szOf, *]) w
      by_cases h0 : i.toNat * a.size = 0 <;>
        simp [execOp, hρ _ _ hx, hρ _ _ hi, Instr.indexAt, run_underlying hu, asIntOf, h.1, h.2, h1, Addr.add, h0]⟩
theorem V.idxA {t : TypeId} {n : Nat} {el : TypeId} {sz : Nat} {x ix : Operand} {b off : Nat} {i : Int} {k : IntKind} (ht : arE P t = some (n, el, sz)) (hx : e.ev x = some (.pointer (some ⟨b, off, none⟩))) (hi : e.ev ix = some (.int k i))
    (h : 0 ≤ i ∧ i < n) : ReadOp P (.indexAddr t x ix) ty e W (.pointer (some ⟨b, off + i.toNat * sz, none⟩)) :=
  ⟨rfl, fun ρ hρ d pos af g w _ => by
    unfold arE at ht
    cases hu : P.underlying t with
    | none => simp [hu] at ht
    | some ds =>
      cases ds <;> simp [hu] at ht
      rename_i n' el'
      obtain ⟨a, ha, hn, hb, hc⟩ := ht
      subst hn; subst hb; subst hc
      have h1 : (sizeOf el').run P w = .ok a.size w := run_sizeOf (by simp [szOf, *]) w
      by_cases h0 : i.toNat * a.size = 0 <;>
        simp [execOp, hρ _ _ hx, hρ _ _ hi, Instr.indexAt, run_underlying hu, asIntOf, h.1, h.2, h1, Addr.add, h0, Instr.sureAddr]⟩
theorem V.len {t el : TypeId} {x : Operand} {p : Option Addr} {l c : Nat} (ht : P.underlying t = some (.slice el)) (hx : e.ev x = some (.slice p l c)) :
    ReadOp P (.call ⟨.builtin .len, #[x], #[t]⟩) ty e W (.int .i64 l) :=
  ⟨rfl, fun ρ hρ d pos af g w _ => by
    simp [execOp, hρ _ _ hx, resolve, invoke, builtin, Builtin.len_, run_underlying ht, goInt]⟩

/-! ### Loads -/

theorem loadVar_sc {t : TypeId} {a : Addr} {v : Value} {w : World} (ht : scal P t = true) (hc : w.cell? a = some v) : (loadVar t a).run P w = .ok v w := by
  unfold scal at ht
  cases hu : P.underlying t with
  | none => simp [hu] at ht
  | some d => cases d <;> simp [hu] at ht <;> simp [loadVar, isAgg, run_underlying hu, hc]
theorem loadCellsFrom_blk {b off : Nat} {cs : List Value} {w : World} (hb : ∀ i, w.cell? ⟨b, i, none⟩ = cs[i]?) : ∀ (n i : Nat) (acc : Array Value), off + i + n ≤ cs.length →
    (loadCellsFrom ⟨b, off, none⟩ i n acc).run P w = .ok (acc ++ ((cs.drop (off + i)).take n).toArray) w
  | 0, _, acc, _ => by simp [loadCellsFrom]
  | n + 1, i, acc, h => by
    have hlt : off + i < cs.length := by omega
    have hcell : w.cell? (Addr.add ⟨b, off, none⟩ i) = some cs[off + i] := by
      have := hb (off + i)
      rw [List.getElem?_eq_getElem hlt] at this
      by_cases h0 : i = 0
      · subst h0; simpa [Addr.add] using this
      · simpa [Addr.add, h0] using this
    simp only [loadCellsFrom]
    have hl : (load (Addr.add ⟨b, off, none⟩ i)).run P w = .ok cs[off + i] w := by simp [hcell]
    simp only [Sem.run_bind, hl, Result.andThen_ok]
    rw [loadCellsFrom_blk hb n (i + 1) (acc.push cs[off + i]) (by omega)]
    rw [← Nat.add_assoc, List.drop_eq_getElem_cons hlt, List.take_succ_cons]
    congr 1
    apply Array.toList_inj.1
    simp
theorem loadVar_aggR {t : TypeId} {n b off : Nat} {cs : List Value} {w : World} (ht : aggN P t = some n) (hb : ∀ i, w.cell? ⟨b, i, none⟩ = cs[i]?) (h : off + n ≤ cs.length) :
    (loadVar t ⟨b, off, none⟩).run P w = .ok (.agg ((cs.drop off).take n).toArray) w := by
  unfold aggN at ht
  have hl := loadCellsFrom_blk (P := P) (off := off) hb n 0 #[] (by omega)
  have key : ∀ {d}, P.underlying t = some d → (match d with | .struct _ | .array _ _ => true | _ => false) = true → (P.info? t).map (·.size) = some n → (loadVar t ⟨b, off, none⟩).run P w = .ok (.agg ((cs.drop off).take n).toArray) w := by
    intro d hu hd hs
    have h1 := run_sizeOf (P := P) (t := t) (n := n) hs w
    cases d <;> simp at hd <;> simp [loadVar, isAgg, run_underlying hu, h1, loadCells, hl]
  cases hu : P.underlying t with
  | none => simp [hu] at ht
  | some d =>
    cases d <;> simp only [hu] at ht <;> first
      | cases ht
      | exact key hu rfl ht

theorem loadVar_agg {t : TypeId} {n b off : Nat} {cs : List Value} {T : TypeId} {w : World} (ht : aggN P t = some n) (hb : Blk w b cs T) (h : off + n ≤ cs.length) :
    (loadVar t ⟨b, off, none⟩).run P w = .ok (.agg ((cs.drop off).take n).toArray) w := loadVar_aggR ht hb.cell h

theorem V.ldR {t : TypeId} {x : Operand} {b off : Nat} {cs : List Value} {v : Value} (ht : scal P t = true) (hx : e.ev x = some (.pointer (some ⟨b, off, none⟩))) (hb : ∀ w, W w → BlkR w b cs) (hv : cs[off]? = some v) :
    ReadOp P (.load t x) ty e W v :=
  ⟨rfl, fun ρ hρ d pos af g w hw => by
    have := loadVar_sc (P := P) ht (((hb w hw).cell off).trans hv)
    simp [execOp, hρ _ _ hx, Instr.loadAt, Instr.sureAddr, this]⟩
theorem V.ldAR {t : TypeId} {n : Nat} {x : Operand} {b off : Nat} {cs vs : List Value} (ht : aggN P t = some n) (hx : e.ev x = some (.pointer (some ⟨b, off, none⟩))) (hb : ∀ w, W w → BlkR w b cs) (hn : vs.length = n) (hv : (cs.drop off).take n = vs) :
    ReadOp P (.load t x) ty e W (.agg vs.toArray) :=
  ⟨rfl, fun ρ hρ d pos af g w hw => by
    by_cases h : off + n ≤ cs.length
    · have := loadVar_aggR (P := P) ht (hb w hw).cell h
      simp [execOp, hρ _ _ hx, Instr.loadAt, Instr.sureAddr, this, hv]
    · have hz : n = 0 ∨ off ≥ cs.length ∨ cs.length - off < n := by omega
      have h2 := congrArg List.length hv
      simp [hn] at h2
      have h3 : n = 0 := by omega
      subst h3
      have hvs : vs = [] := List.length_eq_zero_iff.1 hn
      subst hvs
      unfold aggN at ht
      have key : ∀ {d}, P.underlying t = some d → (match d with | .struct _ | .array _ _ => true | _ => false) = true → (P.info? t).map (·.size) = some 0 → (loadVar t ⟨b, off, none⟩).run P w = .ok (.agg #[]) w := by
        intro d hu hd hs
        have h1 := run_sizeOf (P := P) (t := t) (n := 0) hs w
        cases d <;> simp at hd <;> simp [loadVar, isAgg, run_underlying hu, h1, loadCells, loadCellsFrom]
      have : (loadVar t ⟨b, off, none⟩).run P w = .ok (.agg #[]) w := by
        cases hu : P.underlying t with
        | none => simp [hu] at ht
        | some d =>
          cases d <;> simp only [hu] at ht <;> first
            | cases ht
            | exact key hu rfl ht
      simp [execOp, hρ _ _ hx, Instr.loadAt, Instr.sureAddr, this]⟩
theorem V.ld {t : TypeId} {x : Operand} {b off : Nat} {cs : List Value} {T : TypeId} {v : Value} (ht : scal P t = true) (hx : e.ev x = some (.pointer (some ⟨b, off, none⟩))) (hb : ∀ w, W w → Blk w b cs T) (hv : cs[off]? = some v) :
    ReadOp P (.load t x) ty e W v := V.ldR ht hx (fun w hw => (hb w hw).r) hv
theorem V.ldA {t : TypeId} {n : Nat} {x : Operand} {b off : Nat} {cs vs : List Value} {T : TypeId} (ht : aggN P t = some n) (hx : e.ev x = some (.pointer (some ⟨b, off, none⟩))) (hb : ∀ w, W w → Blk w b cs T) (hn : vs.length = n) (hv : (cs.drop off).take n = vs) :
    ReadOp P (.load t x) ty e W (.agg vs.toArray) := V.ldAR ht hx (fun w hw => (hb w hw).r) hn hv
/-- In the world at hand. -/
theorem cur {w : World} {φ : World → Prop} (h : φ w) : ∀ w', w' = w → φ w' := fun _ hw => hw ▸ h
end
end Go.Proofs.YtmcfbinkofoagaaGreat.Sx
namespace Go.Proofs.YtmcfbinkofoagaaGreat.Sx
open Go Go.RowKit

/-- vs over cs from place i on. -/
def setAt : List Value → Nat → List Value → List Value
  | [], _, _ => []
  | c :: r, _, [] => c :: r
  | _ :: r, 0, v :: vs => v :: setAt r 0 vs
  | c :: r, n + 1, v :: vs => c :: setAt r n (v :: vs)

theorem setAt_nil (cs : List Value) (i : Nat) : setAt cs i [] = cs := by
  cases cs <;> simp [setAt]
theorem setAt_cons : ∀ (cs : List Value) (i : Nat) (v : Value) (vs : List Value), setAt cs i (v :: vs) = setAt (cs.set i v) (i + 1) vs
  | [], _, _, _ => by simp [setAt]
  | c :: r, 0, v, vs => by
    cases vs with
    | nil => simp [setAt, setAt_nil]
    | cons u us => simp [setAt]
  | c :: r, n + 1, v, vs => by
    cases vs with
    | nil => simp [setAt, setAt_nil, setAt_cons r n v []]
    | cons u us => simp [setAt, setAt_cons r n v (u :: us)]
theorem setAt_length : ∀ (vs cs : List Value) (i : Nat), (setAt cs i vs).length = cs.length
  | [], cs, i => by simp [setAt_nil]
  | v :: vs, cs, i => by rw [setAt_cons, setAt_length vs]; simp

section
variable {P : Program} {e : Env} {ty : TypeId} {w : World} {K : Value → World → Prop}

/-! ### What is built -/

/-- The parts over the zero cells. -/
def fillL : List (Nat × List Value) → List Value → List Value
  | [], cs => cs
  | (o, vs) :: r, cs => fillL r (setAt cs o vs)
def cellsL (v : Value) : List Value := v.cells.toList

theorem foldl_setAt (off : Nat) : ∀ (vs : List Value) (i : Nat) (cs : List Value), off + i + vs.length ≤ cs.length →
    (vs.zipIdx i).foldl (fun (cs : Array Value) (x : Value × Nat) => cs.setIfInBounds (off + x.2) x.1) cs.toArray = (setAt cs (off + i) vs).toArray
  | [], i, cs, _ => by simp [setAt_nil]
  | v :: vs, i, cs, h => by
    simp only [List.length_cons] at h
    have ih := foldl_setAt off vs (i + 1) (cs.set (off + i) v) (by simp; omega)
    rw [setAt_cons]
    rw [show off + (i + 1) = off + i + 1 by omega] at ih
    rw [← ih]
    simp [List.zipIdx_cons]
theorem foldl_cells (off : Nat) (v : Value) (cs : List Value) (h : off + (cellsL v).length ≤ cs.length) :
    v.cells.zipIdx.foldl (fun cs (c, j) => cs.setIfInBounds (off + j) c) cs.toArray = (setAt cs off (cellsL v)).toArray := by
  have := foldl_setAt off (cellsL v) 0 cs (by omega)
  rw [Nat.add_zero] at this
  rw [← this, ← Array.foldl_toList]
  simp [cellsL]

/-- The places and cells of a struct's parts; every part has its field's size. -/
def partsOk (fs : Array (Nat × Nat)) (z : Nat) : List (Nat × Value) → Option (List (Nat × List Value))
  | [] => some []
  | (i, v) :: r => match fs[i]? with
    | some (o, s) => if Nat.beq (cellsL v).length s && Nat.ble (o + s) z then (partsOk fs z r).map ((o, cellsL v) :: ·) else none
    | none => none

theorem fill_ok (fs : Array (Nat × Nat)) : ∀ (ps : List (Nat × Value)) (cs : List Value) (qs : List (Nat × List Value)), partsOk fs cs.length ps = some qs →
    Instr.fill (fs[·]?) cs.toArray ps = some (fillL qs cs).toArray
  | [], cs, qs, h => by simp [partsOk] at h; subst h; simp [Instr.fill, fillL]
  | (i, v) :: r, cs, qs, h => by
    simp only [partsOk] at h
    cases hf : fs[i]? with
    | none => simp [hf] at h
    | some os =>
      obtain ⟨o, s⟩ := os
      simp only [hf] at h
      split at h
      · rename_i hc
        rw [Bool.and_eq_true] at hc
        cases hr : partsOk fs cs.length r with
        | none => simp [hr] at h
        | some q =>
          simp [hr] at h; subst h
          have h1 : (cellsL v).length = s := Nat.eq_of_beq_eq_true hc.1
          have h2 : o + s ≤ cs.length := Nat.le_of_ble_eq_true hc.2
          have hz := foldl_cells o v cs (by omega)
          have ih := fill_ok fs r (setAt cs o (cellsL v)) q (by rw [setAt_length]; exact hr)
          have h4 : v.cells.size = s := by simpa [cellsL] using h1
          simp only [Instr.fill, hf]
          rw [if_neg (by simp [h4]; omega)]
          rw [hz]
          simpa [fillL] using ih
      · cases h

def fieldsOf (P : Program) (t : TypeId) : Option (Array (Nat × Nat)) := match P.underlying t with
  | some (.struct fs) => fs.mapM fun f => (szOf P f.type).map (f.offset, ·)
  | _ => none

theorem mapM_fieldsL (w : World) : ∀ (xs : List Field) (l : List (Nat × Nat)), (xs.mapM fun f => (szOf P f.type).map (f.offset, ·)) = some l →
    (xs.mapM fun f => (do pure (f.offset, ← sizeOf f.type) : Sem (Nat × Nat))).run P w = .ok l w
  | [], l, h => by simp at h; subst h; rfl
  | x :: xs, l, h => by
    simp only [List.mapM_cons, Option.bind_eq_bind] at h
    cases hs : szOf P x.type with
    | none => simp [hs] at h
    | some s =>
      cases hr : (xs.mapM fun f => (szOf P f.type).map (f.offset, ·)) with
      | none => simp [hs, hr] at h
      | some q =>
        simp [hs, hr] at h; subst h
        have ih := mapM_fieldsL w xs q hr
        simp only [List.mapM_cons, Sem.run_bind, run_sizeOf hs w, Result.andThen_ok, Sem.run_pure, ih]
theorem mapM_fields {fs : Array Field} {r : Array (Nat × Nat)} (h : (fs.mapM fun f => (szOf P f.type).map (f.offset, ·)) = some r) (w : World) :
    (fs.mapM fun f => (do pure (f.offset, ← sizeOf f.type) : Sem (Nat × Nat))).run P w = .ok r w := by
  rw [Array.mapM_eq_mapM_toList] at h ⊢
  simp only [Option.map_eq_map, Option.map_eq_some_iff] at h
  obtain ⟨l, hl, rfl⟩ := h
  have := mapM_fieldsL (P := P) w fs.toList l hl
  simp only [Sem.run_map, this, Result.andThen_ok]

/-- A struct's value out of its parts. -/
theorem V.bld {W : World → Prop} {t : TypeId} {fs : Array (Nat × Nat)} {zs : List Value} {ops : List (Nat × Operand)} {ps : List (Nat × Value)} {qs : List (Nat × List Value)}
    (hf : fieldsOf P t = some fs) (hz : zeroC P t = some zs) (hp : ops.mapM (fun x => (e.ev x.2).map (x.1, ·)) = some ps) (hq : partsOk fs zs.length ps = some qs) :
    ReadOp P (.build t ops.toArray) ty e W (.agg (fillL qs zs).toArray) :=
  ⟨rfl, fun ρ hρ d pos af g w _ => by
    have hps : ops.map (fun x => (x.1, ρ x.2)) = ps := by
      clear hq
      induction ops generalizing ps with
      | nil => simp at hp; simp [hp]
      | cons c r ih =>
        simp only [List.mapM_cons, Option.bind_eq_bind] at hp
        cases hc : e.ev c.2 with
        | none => simp [hc] at hp
        | some u =>
          cases hr : (r.mapM fun x => (e.ev x.2).map (x.1, ·)) with
          | none => simp [hc, hr] at hp
          | some us => simp [hc, hr] at hp; subst hp; simp [hρ _ _ hc, ih hr]
    unfold fieldsOf at hf
    cases hu : P.underlying t with
    | none => simp [hu] at hf
    | some ds =>
      cases ds <;> simp only [hu] at hf <;> try cases hf
      rename_i fds
      have hm := mapM_fields hf w
      have hfill := fill_ok fs ps zs qs hq
      have hzero : ∃ zv : Value, (zeroValue t).run P w = .ok zv w ∧ zv.cells.toList = zs := by
        unfold zeroC at hz
        cases hi : P.info? t with
        | none => simp [hi] at hz
        | some i =>
          cases hzz : i.zero with
          | none => simp [hi, hzz] at hz
          | some zv => simp [hi, hzz] at hz; exact ⟨zv, by simp [zeroValue, typeInfo, hi, hzz], hz⟩
      obtain ⟨zv, hz1, hz2⟩ := hzero
      have hz3 : zv.cells = zs.toArray := by rw [← hz2]
      simp only [execOp, List.map_toArray, hps, Instr.build]
      simp only [Sem.run_bind, hz1, Result.andThen_ok, run_underlying hu, hm, hz3, hfill]
      rfl⟩

/-! ### Stores -/

theorem storeCells_blk {b off : Nat} {T : TypeId} : ∀ (vs : List Value) (i : Nat) (cs : List Value) (w : World), Blk w b cs T → off + i + vs.length ≤ cs.length → (∀ v ∈ vs, v.oneCell' = true) →
    ∃ w1, (storeCells ⟨b, off, none⟩ vs i).run P w = .ok () w1 ∧ Ch (· = b) w w1 ∧ w1.heap.size = w.heap.size ∧ Blk w1 b (setAt cs (off + i) vs) T
  | [], i, cs, w, hb, _, _ => ⟨w, rfl, .refl _ _, rfl, by rwa [setAt_nil]⟩
  | v :: vs, i, cs, w, hb, h, h1 => by
    simp only [List.length_cons] at h
    have ha : Addr.add ⟨b, off, none⟩ i = ⟨b, off + i, none⟩ := by
      by_cases h0 : i = 0
      · subst h0; rfl
      · simp [Addr.add, h0]
    have hlt : off + i < cs.length := by omega
    have hc := hb.cell (off + i)
    rw [List.getElem?_eq_getElem hlt] at hc
    have hst : (store ⟨b, off + i, none⟩ v).run P w = .ok () (w.setCell ⟨b, off + i, none⟩ v) := by
      rw [run_store P w _ v _ (h1 v (by simp))]
      simp [hc, hb.free]
    obtain ⟨w1, hr, hch, hz, hb1⟩ := storeCells_blk (off := off) vs (i + 1) (cs.set (off + i) v) (w.setCell ⟨b, off + i, none⟩ v) (hb.set _ _) (by simp; omega) (fun u hu => h1 u (by simp [hu]))
    refine ⟨w1, ?_, (Ch.setCell w ⟨b, off + i, none⟩ v).trans hch, by simp [hz], ?_⟩
    · simp only [storeCells, ha, Sem.run_bind, hst, Result.andThen_ok, hr]
    · rw [setAt_cons]; exact hb1

theorem run_storeVar {t : TypeId} {n b off : Nat} {cs : List Value} {T : TypeId} {v : Value} (hs : szOf P t = some n) (hn : (cellsL v).length = n) (hb : Blk w b cs T) (h : off + n ≤ cs.length) (h1 : ∀ u ∈ cellsL v, u.oneCell' = true) :
    ∃ w1, (storeVar t ⟨b, off, none⟩ v).run P w = .ok () w1 ∧ Ch (· = b) w w1 ∧ w1.heap.size = w.heap.size ∧ Blk w1 b (setAt cs off (cellsL v)) T := by
  obtain ⟨w1, hr, hch, hz, hb1⟩ := storeCells_blk (P := P) (off := off) (cellsL v) 0 cs w hb (by omega) h1
  refine ⟨w1, ?_, hch, hz, hb1⟩
  have hsz : v.cells.size = n := by simpa [cellsL] using hn
  simp only [storeVar, Sem.run_bind, run_sizeOf hs w, Result.andThen_ok]
  simp [hsz]
  exact hr

/-- A store; C: what has become of the world since w0. -/
theorem L.st {S : Nat → Prop} {w0 : World} {t : TypeId} {n b off : Nat} {x y : Operand} {cs : List Value} {T : TypeId} {v : Value} (hC : Ch S w0 w) (hs : szOf P t = some n)
    (hx : e.ev x = some (.pointer (some ⟨b, off, none⟩))) (hy : e.ev y = some v) (hn : (cellsL v).length = n) (h1 : (cellsL v).all (·.oneCell') = true) (hb : Blk w b cs T) (h : off + n ≤ cs.length) (hS : w0.heap.size ≤ b ∨ S b)
    (hk : ∀ w1, Ch S w0 w1 → Ch (· = b) w w1 → w1.heap.size = w.heap.size → Blk w1 b (setAt cs off (cellsL v)) T → K undef w1) :
    LoudOp P (.store t x y) ty e w K :=
  ⟨rfl, fun ρ hρ d pos af g => by
    obtain ⟨w1, hr, hch, hz, hb1⟩ := run_storeVar (P := P) hs hn hb h (by simpa using h1)
    refine ⟨.skip, w1, ?_, hk w1 (hC.trans' hch fun b' hb' he => ?_) hch hz hb1⟩
    · simp [execOp, hρ _ _ hx, hρ _ _ hy, Instr.storeAt, Instr.sureAddr, hr]
    · subst he; rcases hS with h | h
      · omega
      · exact h⟩
/-- A store into a new block, at a known place. -/
theorem L.stN {S : Nat → Prop} {w0 : World} {t : TypeId} {n b off : Nat} {x y : Operand} {cs : List Value} {T : TypeId} {v : Value} (hC : Ch S w0 w) (hs : szOf P t = some n)
    (hx : e.ev x = some (.pointer (some ⟨b, off, none⟩))) (hy : e.ev y = some v) (hn : (cellsL v).length = n) (h1 : (cellsL v).all (·.oneCell') = true) (hb : Blk w b cs T) (h : Nat.ble (off + n) cs.length = true) (hS : w0.heap.size ≤ b)
    (hk : ∀ w1, Ch S w0 w1 → Ch (· = b) w w1 → w1.heap.size = w.heap.size → Blk w1 b (setAt cs off (cellsL v)) T → K undef w1) :
    LoudOp P (.store t x y) ty e w K := L.st hC hs hx hy hn h1 hb (Nat.le_of_ble_eq_true h) (.inl hS) hk

/-! ### New blocks -/

theorem L.al {S : Nat → Prop} {w0 : World} {t : TypeId} {zs : List Value} (hC : Ch S w0 w) (hz : zeroC P t = some zs)
    (hk : ∀ b w1, b = w.heap.size → w0.heap.size ≤ b → Ch S w0 w1 → Grow w w1 → w1.heap.size = b + 1 → Blk w1 b zs t → K (.pointer (some ⟨b, 0, none⟩)) w1) :
    LoudOp P (.alloc t) ty e w K :=
  ⟨rfl, fun ρ hρ d pos af g => by
    have hzero : ∃ zv : Value, (zeroValue t).run P w = .ok zv w ∧ zv.cells.toList = zs := by
      unfold zeroC at hz
      cases hi : P.info? t with
      | none => simp [hi] at hz
      | some i =>
        cases hzz : i.zero with
        | none => simp [hi, hzz] at hz
        | some zv => simp [hi, hzz] at hz; exact ⟨zv, by simp [zeroValue, typeInfo, hi, hzz], hz⟩
    obtain ⟨zv, hz1, hz2⟩ := hzero
    have hz3 : zv.cells = zs.toArray := by rw [← hz2]
    refine ⟨.value (.pointer (some ⟨w.heap.size, 0, none⟩)), w.alloc (.cells zs.toArray t), ?_, hk w.heap.size _ rfl hC.size (hC.trans (Ch.alloc S w _)) (Ch.alloc Nil w _) (by simp) (Blk.alloc w zs t)⟩
    simp [execOp, Instr.alloc, hz1, newVar, newRow, hz3]⟩

theorem L.bx {S : Nat → Prop} {w0 : World} {t : TypeId} {x : Operand} {v : Value} (hC : Ch S w0 w) (hx : e.ev x = some v)
    (hk : ∀ b w1, b = w.heap.size → w0.heap.size ≤ b → Ch S w0 w1 → Grow w w1 → w1.heap.size = b + 1 → Blk w1 b (cellsL v) t → K (.pointer (some ⟨b, 0, none⟩)) w1) :
    LoudOp P (.box t x) ty e w K :=
  ⟨rfl, fun ρ hρ d pos af g => by
    refine ⟨.value (.pointer (some ⟨w.heap.size, 0, none⟩)), w.alloc (.cells (cellsL v).toArray t), ?_, hk w.heap.size _ rfl hC.size (hC.trans (Ch.alloc S w _)) (Ch.alloc Nil w _) (by simp) (Blk.alloc w _ t)⟩
    simp [execOp, Instr.box, hρ _ _ hx, newVar, newRow, cellsL]⟩

/-! ### Calls -/

/-- A function of the program: its body is there, and it is none of the runtime's own. -/
def isFn (P : Program) (f : Nat) : Bool := match P.funcs[f]? with
  | some fn => fn.body.isSome && !(fn.name == "runtime.NumGoroutine")
  | none => false
theorem callFunc_isFn {f : Nat} {args : Array Value} (h : isFn P f = true) (w : World) : (callFunc f args).run P w = .ok (.enter f args) w := by
  unfold isFn at h
  cases hf : P.funcs[f]? with
  | none => simp [hf] at h
  | some fn =>
    simp [hf] at h
    simp only [callFunc, Sem.run_bind, run_program, Result.andThen_ok, hf]
    have h2 : ¬ fn.name = "runtime.NumGoroutine" := h.2
    have h3 : fn.body.isNone = false := by cases hb : fn.body <;> simp_all
    simp [h2, h3]

theorem mapM_ev {ops : List Operand} {vs : List Value} {ρ : Operand → Value} (hρ : ∀ x u, e.ev x = some u → ρ x = u) (hp : ops.mapM e.ev = some vs) : ops.map ρ = vs := by
  induction ops generalizing vs with
  | nil => simp at hp; simp [hp]
  | cons c r ih =>
    simp only [List.mapM_cons, Option.bind_eq_bind] at hp
    cases hc : e.ev c with
    | none => simp [hc] at hp
    | some u =>
      cases hr : r.mapM e.ev with
      | none => simp [hc, hr] at hp
      | some us => simp [hc, hr] at hp; subst hp; simp [hρ _ _ hc, ih hr]

theorem L.call {f : Nat} {ops : List Operand} {ts : Array TypeId} {vs : List Value} {K' : Value → World → Prop} (hf : isFn P f = true) (ha : ops.mapM e.ev = some vs) (hc : Calls P f vs.toArray w (Ret K')) (hk : ∀ v w1, K' v w1 → K v w1) :
    LoudOp P (.call ⟨.value (.func f), ops.toArray, ts⟩) ty e w K :=
  ⟨rfl, fun ρ hρ d pos af g => by
    refine ⟨.enter f vs.toArray, w, ?_, hc.mono (Ret.mono hk)⟩
    have h1 : ρ (.func f) = .func (.func f) #[] #[] := hρ _ _ rfl
    have h2 := mapM_ev hρ ha
    simp [execOp, resolve, h1, Deferred.ofValue, invoke, h2, callFunc_isFn hf]⟩
/-- A call of a closure. -/
theorem L.callV {f : Nat} {x : Operand} {ops : List Operand} {ts : Array TypeId} {vs cap : List Value} (hf : isFn P f = true) (hx : e.ev x = some (.func (.func f) #[] cap.toArray)) (ha : ops.mapM e.ev = some vs) {K' : Value → World → Prop} (hc : Calls P f (vs ++ cap).toArray w (Ret K')) (hk : ∀ v w1, K' v w1 → K v w1) :
    LoudOp P (.call ⟨.value x, ops.toArray, ts⟩) ty e w K :=
  ⟨rfl, fun ρ hρ d pos af g => by
    refine ⟨.enter f (vs ++ cap).toArray, w, ?_, hc.mono (Ret.mono hk)⟩
    have h1 := hρ _ _ hx
    have h2 := mapM_ev hρ ha
    simp [execOp, resolve, h1, Deferred.ofValue, invoke, h2, callFunc_isFn hf]⟩
end
end Go.Proofs.YtmcfbinkofoagaaGreat.Sx
namespace Go.Proofs.YtmcfbinkofoagaaGreat.Sx
open Go Go.RowKit

def tup : List Value → Value
  | [v] => v
  | vs => .tuple vs.toArray

/-- What a result variable holds at the end. -/
inductive ResOk (P : Program) (e : Env) (w : World) : List ResultVar → List Value → Prop
  | nil : ResOk P e w [] []
  | tmp {t : Tmp} {v : Value} {rs : List ResultVar} {vs : List Value} (h : e.get t = some v) (r : ResOk P e w rs vs) : ResOk P e w (.tmp t :: rs) (v :: vs)
  | cell {a : Tmp} {t : TypeId} {p : Addr} {v : Value} {rs : List ResultVar} {vs : List Value} (h : e.get a = some (.pointer (some p))) (hl : (loadVar t p).run P w = .ok v w) (r : ResOk P e w rs vs) : ResOk P e w (.cell a t :: rs) (v :: vs)

theorem ResOk.run {P : Program} {e : Env} {w : World} {n : Nat} {a : Act} (hf : Fits n e a) (g : ResultVar → Sem Value) (h1 : ∀ t, g (.tmp t) = pure (a.tmps.getD t undef))
    (h2 : ∀ x t, g (.cell x t) = (asAddr (a.tmps.getD x undef) >>= loadVar t)) : ∀ {rs : List ResultVar} {vs : List Value}, ResOk P e w rs vs → (rs.mapM g).run P w = .ok vs w
  | _, _, .nil => rfl
  | _, _, .tmp h r => by
    have h3 := hf.2 _ _ h
    have ih := r.run hf g h1 h2
    simp only [List.mapM_cons, h1, Sem.run_bind, Sem.run_pure, Result.andThen_ok, ih]
    simp [h3]
  | _, _, .cell h hl r => by
    have h3 := hf.2 _ _ h
    have ih := r.run hf g h1 h2
    simp only [List.mapM_cons, h2, Sem.run_bind, Array.getD_eq_getD_getElem?, h3, Option.getD_some, asAddr, Sem.run_pure, Result.andThen_ok, hl, ih]

theorem results_run {P : Program} {e : Env} {w : World} {n : Nat} {a : Act} {f : Func} {rs : List ResultVar} {vs : List Value} (hf : Fits n e a) (hr : f.results = rs.toArray) (h : ResOk P e w rs vs) :
    (results f a.tmps).run P w = .ok (tup vs) w := by
  simp only [results, hr]
  rw [Array.mapM_eq_mapM_toList]
  simp only [Sem.run_bind, Sem.run_map]
  rw [h.run hf _ (fun _ => rfl) (fun _ _ => rfl)]
  simp only [Result.andThen_ok, Sem.run_pure]
  congr 1
  match vs with
  | [] => rfl
  | [v] => rfl
  | _ :: _ :: _ => simp [tup]

section
variable {P : Program} {fn : FuncId} {n : Nat} {e : Env} {k : List Item} {w : World} {R : Value → World → Prop}
theorem RX.rt {f : Func} {rs : List ResultVar} {vs : List Value} (hfn : P.funcs[fn]? = some f) (hr : f.results = rs.toArray) (h : ResOk P e w rs vs) (r : R (tup vs) w) : RX P fn none n (.code .ret :: k) e [] w R :=
  .ret hfn (fun _ hf => results_run hf hr h) r
theorem RX.rtEnd {f : Func} {rs : List ResultVar} {vs : List Value} (hfn : P.funcs[fn]? = some f) (hr : f.results = rs.toArray) (h : ResOk P e w rs vs) (r : R (tup vs) w) : RX P fn none n [] e [] w R :=
  .fin hfn (fun _ hf => results_run hf hr h) r
end

theorem ResOk.cellS {P : Program} {e : Env} {w : World} {a : Tmp} {t : TypeId} {b off : Nat} {cs : List Value} {T : TypeId} {v : Value} {rs : List ResultVar} {vs : List Value} (h : e.get a = some (.pointer (some ⟨b, off, none⟩)))
    (ht : scal P t = true) (hb : Blk w b cs T) (hv : cs[off]? = some v) (r : ResOk P e w rs vs) : ResOk P e w (.cell a t :: rs) (v :: vs) :=
  .cell h (loadVar_sc ht ((hb.cell off).trans hv)) r
theorem ResOk.cellA {P : Program} {e : Env} {w : World} {a : Tmp} {t : TypeId} {n b off : Nat} {cs us : List Value} {T : TypeId} {rs : List ResultVar} {vs : List Value} (h : e.get a = some (.pointer (some ⟨b, off, none⟩)))
    (ht : aggN P t = some n) (hb : Blk w b cs T) (hn : off + n ≤ cs.length) (hv : (cs.drop off).take n = us) (r : ResOk P e w rs vs) : ResOk P e w (.cell a t :: rs) (.agg us.toArray :: vs) :=
  .cell h (by rw [loadVar_agg ht hb hn, hv]) r

/-- Parts of an aggregate. -/
theorem V.part {P : Program} {e : Env} {W : World → Prop} {ty : TypeId} {s f o : Nat} {x : Operand} {vs : List Value} {v : Value} (ht : fldV P s f = some (o, none)) (hx : e.ev x = some (.agg vs.toArray)) (hv : vs[o]? = some v) : ReadOp P (.field s x f) ty e W v :=
  ⟨rfl, fun ρ hρ d pos af g w _ => by
    unfold fldV at ht
    cases hu : P.underlying s with
    | none => simp [hu] at ht
    | some ds =>
      cases ds <;> simp only [hu] at ht <;> try cases ht
      rename_i fs
      obtain ⟨fd, hfd, hz⟩ := Option.bind_eq_some_iff.1 ht
      by_cases hs : scal P fd.type = true
      · simp [hs] at hz
        subst hz
        have h1 : (isAgg fd.type).run P w = .ok false w := by
          unfold scal at hs
          cases hu2 : P.underlying fd.type with
          | none => simp [hu2] at hs
          | some d => cases d <;> simp [hu2] at hs <;> simp [isAgg, run_underlying hu2]
        simp [execOp, hρ _ _ hx, Instr.field, run_underlying hu, hfd, asAgg, Go.part, h1, hv]
      · simp [hs] at hz⟩
theorem V.partA {P : Program} {e : Env} {W : World → Prop} {ty : TypeId} {s f o n : Nat} {x : Operand} {vs us : List Value} (ht : fldV P s f = some (o, some n)) (hx : e.ev x = some (.agg vs.toArray)) (hv : (vs.drop o).take n = us) : ReadOp P (.field s x f) ty e W (.agg us.toArray) :=
  ⟨rfl, fun ρ hρ d pos af g w _ => by
    unfold fldV at ht
    cases hu : P.underlying s with
    | none => simp [hu] at ht
    | some ds =>
      cases ds <;> simp only [hu] at ht <;> try cases ht
      rename_i fs
      obtain ⟨fd, hfd, hz⟩ := Option.bind_eq_some_iff.1 ht
      by_cases hs : scal P fd.type = true
      · simp [hs] at hz
      · simp [hs] at hz
        obtain ⟨ha, ho⟩ := hz
        subst ho
        have key : (isAgg fd.type).run P w = .ok true w ∧ (sizeOf fd.type).run P w = .ok n w := by
          unfold aggN at ha
          cases hu2 : P.underlying fd.type with
          | none => simp [hu2] at ha
          | some d =>
            cases d <;> simp only [hu2] at ha <;> first
              | cases ha
              | exact ⟨by simp [isAgg, run_underlying hu2], run_sizeOf ha w⟩
        simp [execOp, hρ _ _ hx, Instr.field, run_underlying hu, hfd, asAgg, Go.part, key.1, key.2]
        rw [← hv]⟩
end Go.Proofs.YtmcfbinkofoagaaGreat.Sx
namespace Go.Proofs.YtmcfbinkofoagaaGreat.Sx
open Go Go.RowKit

section
variable {P : Program} {ops : Array Oper} {S : World → Prop} {K : Act → World → Prop}

/-- Operation i is carried out, or passed by. -/
def StepR (P : Program) (ops : Array Oper) (i : Nat) (C : Act → World → Prop) (a : Act) (w : World) : Prop :=
  match ops[i]? with
  | none => C a w
  | some o => if Region.wanted o (yielded ops a.tmps) = true then OpW P o a w fun v w' => C (a.put o.dst v) w' else C (a.put o.dst undef) w

theorem StepR.mono {i : Nat} {C C' : Act → World → Prop} {a : Act} {w : World} (h : ∀ a w, C a w → C' a w) (hh : StepR P ops i C a w) : StepR P ops i C' a w := by
  unfold StepR at *
  split
  · exact h _ _ (by simpa [*] using hh)
  · rename_i o ho
    simp only [ho] at hh
    split
    · rename_i hw; simp only [hw, if_true] at hh; exact hh.mono fun v w' => h _ _
    · rename_i hw; simp only [hw] at hh; exact h _ _ hh

/-- Whatever comes up next: behind each operation of L holds S. -/
def AnyR (P : Program) (ops : Array Oper) (L : Nat → Bool) (S : World → Prop) (K : Act → World → Prop) : Nat → Array Bool → Act → World → Prop
  | 0, listed, a, w => Region.ready .any ops listed = [] ∧ K a w
  | n + 1, listed, a, w => (Region.ready .any ops listed = [] → K a w) ∧
    ∀ i ∈ Region.ready .any ops listed, StepR P ops i (fun a' w' => (L i = true → S w → S w') ∧ AnyR P ops L S K n (listed.setIfInBounds i true) a' w') a w

/-- Operation j waits for i, over others too. -/
def depR (ops : Array Oper) : Nat → Nat → Nat → Bool
  | 0, _, _ => false
  | n + 1, j, i => match ops[j]? with
    | some o => o.after.any fun e => Region.binds .any e && (e.on == i || depR ops n e.on i)
    | none => false
/-- What has come up has come up behind what it waits for. -/
def Down (ops : Array Oper) (listed : Array Bool) : Prop := ∀ k o, ops[k]? = some o → listed.getD k false = true → ∀ e ∈ o.after, Region.binds .any e = true → listed.getD e.on false = true

theorem Down.dep {listed : Array Bool} (hd : Down ops listed) : ∀ (n j i : Nat), depR ops n j i = true → (∀ o, ops[j]? = some o → ∀ e ∈ o.after, Region.binds .any e = true → listed.getD e.on false = true) → listed.getD i false = true
  | 0, _, _, h, _ => by simp [depR] at h
  | n + 1, j, i, h, hp => by
    simp only [depR] at h
    cases ho : ops[j]? with
    | none => simp [ho] at h
    | some o =>
      simp only [ho] at h
      obtain ⟨e, he, hb⟩ := Array.any_eq_true'.1 h
      simp only [Bool.and_eq_true, Bool.or_eq_true, beq_iff_eq] at hb
      have hl := hp o ho e he hb.1
      rcases hb.2 with h1 | h1
      · rw [← h1]; exact hl
      · exact Down.dep hd n e.on i h1 fun o' ho' e' he' hb' => hd e.on o' ho' hl e' he' hb'
theorem Down.set {listed : Array Bool} {j : Nat} (hd : Down ops listed) (hj : j ∈ Region.ready .any ops listed) : Down ops (listed.setIfInBounds j true) := by
  intro k o ho hk e he hb
  obtain ⟨_, oj, hoj, hall⟩ := mem_ready.1 hj
  by_cases hjk : j = k
  · subst hjk
    rw [ho] at hoj; cases hoj
    exact getD_set_true (hall e he hb)
  · rw [getD_set_ne false hjk] at hk
    exact getD_set_true (hd k o ho hk e he hb)

/-- In every world that meets S the operation answers v and does nothing else; or it is passed by. -/
def Still (P : Program) (ops : Array Oper) (S : World → Prop) (o : Oper) (v : Value) (a : Act) : Prop :=
  notDefer o = true ∧ ((Region.wanted o (yielded ops a.tmps) = true ∧ ∀ w, S w → (execOp a.eval o).run P w = .ok (.value v) w) ∨ (Region.wanted o (yielded ops a.tmps) = false ∧ v = undef))

theorem Still.step {i : Nat} {o : Oper} {v : Value} {a : Act} {w : World} {C : Act → World → Prop} (hi : ops[i]? = some o) (hy : Still P ops S o v a) (hS : S w) (h : C (a.put o.dst v) w) : StepR P ops i C a w := by
  unfold StepR
  simp only [hi]
  rcases hy with ⟨hn, ⟨hw, hv⟩ | ⟨hw, rfl⟩⟩
  · rw [if_pos hw]; exact ⟨hn, .value v, w, hv w hS, h⟩
  · rw [if_neg (by simp [hw])]; exact h

theorem Still.same {o : Oper} {v : Value} {a a' : Act} (hy : Still P ops S o v a) (he : execOp a'.eval o = execOp a.eval o)
    (hw : Region.wanted o (yielded ops a'.tmps) = Region.wanted o (yielded ops a.tmps)) : Still P ops S o v a' := by
  unfold Still at *; rw [he, hw]; exact hy

theorem StepR.put {j : Nat} {oi oj : Oper} {v : Value} {C : Act → World → Prop} {a : Act} {w : World} (hj : ops[j]? = some oj) (hap : oi.apart ops oj = true)
    (hsi : ∀ cs b, oi.op ≠ .select cs b) (hsj : ∀ cs b, oj.op ≠ .select cs b) (hy : Still P ops S oi v a) (h : StepR P ops j C (a.put oi.dst v) w) :
    StepR P ops j (fun a' w' => Still P ops S oi v a' ∧ C (a'.put oi.dst v) w') a w := by
  obtain ⟨h1, h2, h3⟩ := Oper.apart_spec hap
  have keep : ∀ u, Still P ops S oi v (a.put oj.dst u) := fun u => hy.same (execOp_put oi hsi a oj.dst u h3) (wanted_put oi a oj.dst u h3)
  unfold StepR at *
  simp only [hj] at *
  rw [wanted_put oj a oi.dst v h1] at h
  split
  · rename_i hw
    simp only [hw, if_true] at h
    unfold OpW at h ⊢
    rw [execOp_put oj hsj a oi.dst v h1] at h
    obtain ⟨hn, n, w', hr, he⟩ := h
    refine ⟨hn, n, w', hr, ?_⟩
    have key : ∀ u w'', C ((a.put oi.dst v).put oj.dst u) w'' → Still P ops S oi v (a.put oj.dst u) ∧ C ((a.put oj.dst u).put oi.dst v) w'' := fun u w'' hc => ⟨keep u, by rw [← Act.put_comm a v u h2]; exact hc⟩
    cases n <;> simp only [Enters] at he ⊢
    case value u => exact key _ _ he
    case skip => exact key _ _ he
    case enter f args => exact Calls.mono he (Ret.mono key)
    case round => exact Runs.mono he key
  · rename_i hw
    simp only [hw] at h
    exact ⟨keep _, by rw [← Act.put_comm a v undef h2]; exact h⟩

theorem AnyR.first {L : Nat → Bool} {S' : World → Prop} {i : Nat} {oi : Oper} {v : Value} (hi : ops[i]? = some oi) (hsel : ∀ (j : Nat) (o : Oper) cs b, ops[j]? = some o → o.op ≠ .select cs b)
    (hL : (∀ w, S' w) ∨ (S' = S ∧ ∀ j, j < ops.size → L j = true ∨ j = i ∨ ∃ n, depR ops n j i = true)) :
    ∀ (fuel : Nat) (listed : Array Bool) (a : Act) (w : World), Down ops listed →
      (∀ j oj, ops[j]? = some oj → j ≠ i → listed.getD j true = false → (∀ e ∈ oj.after, Region.binds .any e = true → e.on ≠ i) → oi.apart ops oj = true) →
      i ∈ Region.ready .any ops listed → Still P ops S' oi v a → S' w →
      AnyR P ops L S K fuel (listed.setIfInBounds i true) (a.put oi.dst v) w → AnyR P ops L S K (fuel + 1) listed a w := by
  intro fuel
  induction fuel with
  | zero =>
    intro listed a w _ _ hr hy hS H
    refine ⟨fun h => (by rw [h] at hr; cases hr), fun j hj => ?_⟩
    by_cases hji : j = i
    · subst hji; exact hy.step hi hS ⟨fun _ h => h, H⟩
    · have := ready_mono hj hji
      rw [H.1] at this; cases this
  | succ fuel ih =>
    intro listed a w hdown hfree hr hy hS H
    refine ⟨fun h => (by rw [h] at hr; cases hr), fun j hj => ?_⟩
    by_cases hji : j = i
    · subst hji; exact hy.step hi hS ⟨fun _ h => h, H⟩
    · have h1 := H.2 j (ready_mono hj hji)
      obtain ⟨hjun, oj, hoj, hall⟩ := mem_ready.1 hj
      have hiun := (mem_ready.1 hr).1
      have hilt : i < listed.size := by
        rcases Nat.lt_or_ge i listed.size with h' | h'
        · exact h'
        · simp [Array.getElem?_eq_none h'] at hiun
      have hif : listed.getD i false = false := by
        simp [hilt] at hiun ⊢; exact hiun
      have hnot : ∀ e ∈ oj.after, Region.binds .any e = true → e.on ≠ i := fun e he hb heq => by
        have h1 := hall e he hb
        rw [heq, hif] at h1; cases h1
      have hSw : ∀ w', (L j = true → S w → S w') → S' w' := by
        rcases hL with h | ⟨hSS, hL⟩
        · exact fun w' _ => h w'
        · have hLj : L j = true := by
            rcases hL j (Array.getElem?_eq_some_iff.1 hoj).1 with h | h | ⟨n, h⟩
            · exact h
            · exact absurd h hji
            · have := hdown.dep n j i h fun o ho e he hb => by rw [hoj] at ho; cases ho; exact hall e he hb
              rw [hif] at this; cases this
          exact fun w' h => hSS ▸ h hLj (hSS ▸ hS)
      have h2 := StepR.put hoj (hfree j oj hoj hji hjun hnot) (fun cs b => hsel i oi cs b hi) (fun cs b => hsel j oj cs b hoj) hy h1
      refine StepR.mono (fun a' w' h3 => ⟨h3.2.1, ih (listed.setIfInBounds j true) a' w' (hdown.set hj) ?_ (ready_mono hr (Ne.symm hji)) h3.1 (hSw w' h3.2.1) ?_⟩) h2
      · intro k ok hk hki hun hno
        refine hfree k ok hk hki ?_ hno
        by_cases hjk : j = k
        · subst hjk; exact hjun
        · rw [getD_set_ne true hjk] at hun; exact hun
      · rw [Array.setIfInBounds_comm _ _ hji]
        exact h3.2.2

/-- The order in which the walk goes, each operation marked quiet or not: in it a quiet one may be taken first, and a loud one comes alone. -/
def okOrd (ops : Array Oper) : List (Nat × Bool) → Nat → Array Bool → Bool
  | [], _, listed => (Region.ready .any ops listed).isEmpty
  | (i, true) :: r, n + 1, listed => Region.free .any ops listed i && (Region.ready .any ops listed).contains i && okOrd ops r n (listed.setIfInBounds i true)
  | (i, false) :: r, n + 1, listed => (Region.ready .any ops listed == [i]) && okOrd ops r n (listed.setIfInBounds i true)
  | _ :: _, 0, _ => false

/-- Operation i is one of those that ask for S. -/
def cOf (C : List Nat) (i : Nat) : Bool := C.any (Nat.beq i)
/-- Behind which operations S is to hold: those that do not wait for every one that asks for it. -/
def lateR (ops : Array Oper) (C : List Nat) (l : List (Nat × Bool)) (j : Nat) : Bool := l.any fun x => x.2 && (!(x.1 == j) && (cOf C x.1 && !depR ops ops.size j x.1))

/-- The walk in that order. -/
def OrdR (P : Program) (ops : Array Oper) (L c : Nat → Bool) (S : World → Prop) (K : Act → World → Prop) : List (Nat × Bool) → Act → World → Prop
  | [], a, w => K a w
  | (i, true) :: r, a, w => (c i = true ∧ S w ∧ ∃ o v, ops[i]? = some o ∧ Still P ops S o v a ∧ OrdR P ops L c S K r (a.put o.dst v) w) ∨
    (∃ o v, ops[i]? = some o ∧ Still P ops (fun _ => True) o v a ∧ OrdR P ops L c S K r (a.put o.dst v) w)
  | (i, false) :: r, a, w => StepR P ops i (fun a' w' => (L i = true → S w → S w') ∧ OrdR P ops L c S K r a' w') a w

theorem OrdR.any {L c : Nat → Bool} (hs : Region.noSelect ops = true) : ∀ (l : List (Nat × Bool)) (n : Nat) (listed : Array Bool) (a : Act) (w : World), Down ops listed → (∀ x ∈ l, x.2 = true → c x.1 = true → ∀ j, j < ops.size → L j = true ∨ j = x.1 ∨ ∃ n, depR ops n j x.1 = true) →
    okOrd ops l n listed = true → OrdR P ops L c S K l a w → AnyR P ops L S K n listed a w
  | [], n, listed, a, w, _, _, hok, h => by
    have hr : Region.ready .any ops listed = [] := by simpa [okOrd] using hok
    cases n with
    | zero => exact ⟨hr, h⟩
    | succ n => exact ⟨fun _ => h, by rw [hr]; simp⟩
  | (i, true) :: r, n + 1, listed, a, w, hd, hL, hok, h => by
    simp only [okOrd, Bool.and_eq_true] at hok
    have hir : i ∈ Region.ready .any ops listed := by simpa using hok.1.2
    rcases h with ⟨hc, hS, o, v, ho, hy, hk⟩ | ⟨o, v, ho, hy, hk⟩
    · exact AnyR.first ho (Region.noSelect_spec hs) (.inr ⟨rfl, hL (i, true) (by simp) rfl hc⟩) n listed a w hd (Region.free_spec ho hok.1.1) hir hy hS (OrdR.any hs r n _ _ w (hd.set hir) (fun x hx => hL x (by simp [hx])) hok.2 hk)
    · exact AnyR.first ho (Region.noSelect_spec hs) (.inl fun _ => trivial) n listed a w hd (Region.free_spec ho hok.1.1) hir hy trivial (OrdR.any hs r n _ _ w (hd.set hir) (fun x hx => hL x (by simp [hx])) hok.2 hk)
  | (i, false) :: r, n + 1, listed, a, w, hd, hL, hok, h => by
    simp only [okOrd, Bool.and_eq_true, beq_iff_eq] at hok
    refine ⟨fun h0 => (by rw [hok.1] at h0; cases h0), fun j hj => ?_⟩
    have hj' := hj
    rw [hok.1] at hj
    simp only [List.mem_singleton] at hj
    subst hj
    exact StepR.mono (fun a' w' h' => ⟨h'.1, OrdR.any hs r n _ a' w' (hd.set hj') (fun x hx => hL x (by simp [hx])) hok.2 h'.2⟩) h
  | (i, true) :: r, 0, _, _, _, _, _, hok, _ => by simp [okOrd] at hok
  | (i, false) :: r, 0, _, _, _, _, _, hok, _ => by simp [okOrd] at hok

theorem down_none (n : Nat) : Down ops (Array.replicate n false) := by
  intro k o _ hk
  by_cases h : k < n <;> simp [h] at hk

theorem late_spec {C : List Nat} {l : List (Nat × Bool)} : ∀ x ∈ l, x.2 = true → cOf C x.1 = true → ∀ j, j < ops.size → lateR ops C l j = true ∨ j = x.1 ∨ ∃ n, depR ops n j x.1 = true := by
  intro x hx h2 hc j _
  by_cases h : depR ops ops.size j x.1 = true
  · exact .inr (.inr ⟨_, h⟩)
  · by_cases hj : j = x.1
    · exact .inr (.inl hj)
    · refine .inl (List.any_eq_true.2 ⟨x, hx, ?_⟩)
      have : (x.1 == j) = false := by simp; exact fun h => hj h.symm
      simp [h2, h, this, hc]

variable {fn : FuncId} {ro : Option Nat} {k : List Item} {R : Value → World → Prop}

theorem StepR.runs {i : Nat} {rest : List Nat} {a : Act} {w : World} (h : StepR P ops i (fun a' w' => Runs P fn ro (.inRegion ops rest :: k) a' w' R) a w) : Runs P fn ro (.inRegion ops (i :: rest) :: k) a w R := by
  unfold StepR at h
  split at h
  · rename_i ho
    refine .step (fun cs => step_lone_go ?_) (a' := a) (k' := .inRegion ops rest :: k) (w' := w) h
    simp [stepG, stepG.exec, mkF, ho, Frame.finish]
  · rename_i o ho
    split at h
    · rename_i hw; exact .op ho hw h
    · rename_i hw
      refine .step (fun cs => step_lone_go ?_) (a' := a.put o.dst undef) (k' := .inRegion ops rest :: k) (w' := w) h
      have := mkF_finish (fn := fn) (ro := ro) (a := a) (k := k) (ops := ops) i rest undef
      rw [ho] at this
      simp only [Option.bind_some] at this
      rw [← this]
      simp only [stepG, stepG.exec, mkF, ho, Option.map_some, Option.getD_some]
      simp [hw]

theorem AnyR.runs {L : Nat → Bool} : ∀ (fuel t : Nat) (listed : Array Bool) (a : Act) (w : World), AnyR P ops L S (fun a w => Runs P fn ro k a w R) fuel listed a w →
    Runs P fn ro (.inRegion ops (Region.linearise.go .any ops fuel t listed []) :: k) a w R := by
  intro fuel
  have done : ∀ a w, Runs P fn ro k a w R → Runs P fn ro (.inRegion ops [] :: k) a w R := fun a w h => .step (fun _ => step_lone_go (by simp [stepG, stepG.exec, mkF])) h
  induction fuel with
  | zero => intro t listed a w h; simpa [Region.linearise.go] using done a w h.2
  | succ fuel ih =>
    intro t listed a w h
    obtain ⟨h0, h1⟩ := h
    simp only [Region.linearise.go]
    change Runs P fn ro (.inRegion ops (match (Region.ready .any ops listed)[t % (Region.ready .any ops listed).length]? with
      | some i => Region.linearise.go .any ops fuel (t / (Region.ready .any ops listed).length) (listed.setIfInBounds i true) [i]
      | none => [].reverse) :: k) a w R
    cases hi : (Region.ready .any ops listed)[t % (Region.ready .any ops listed).length]? with
    | none =>
      have hnil : Region.ready .any ops listed = [] := by
        cases hr : Region.ready .any ops listed with
        | nil => rfl
        | cons x xs =>
          rw [hr] at hi
          have hlt : t % (x :: xs).length < (x :: xs).length := Nat.mod_lt _ (by simp)
          simp at hi
          simp at hlt
          omega
      exact done a w (h0 hnil)
    | some i =>
      simp only []
      rw [linearise_go_acc, List.reverse_singleton, List.singleton_append]
      exact StepR.runs (StepR.mono (fun a w h => ih _ _ a w h.2) (h1 i (List.mem_of_getElem? hi)))
end

theorem Enters.mono {P : Program} {K K' : Value → World → Prop} (h : ∀ v w, K v w → K' v w) : ∀ {m : Next} {w : World}, Enters P K m w → Enters P K' m w := by
  intro m w he
  cases m <;> simp only [Enters] at he ⊢
  case value v => exact h _ _ he
  case skip => exact h _ _ he
  case enter f args => exact Calls.mono he (Ret.mono h)
  case round => exact Runs.mono he h
theorem LoudOp.mono {P : Program} {o : Op} {ty : TypeId} {e : Env} {w : World} {K K' : Value → World → Prop} (h : LoudOp P o ty e w K) (hk : ∀ v w, K v w → K' v w) : LoudOp P o ty e w K' :=
  ⟨h.1, fun ρ hρ d pos af g => let ⟨m, w', hr, he⟩ := h.2 ρ hρ d pos af g; ⟨m, w', hr, he.mono hk⟩⟩

/-! ### Over known temporaries -/

/-- The rest of a region that draws, in the walk's order; S: what holds of the world throughout. -/
def RD (P : Program) (fn : FuncId) (ro : Option Nat) (n : Nat) (ops : Array Oper) (L c : Nat → Bool) (S : World → Prop) (l : List (Nat × Bool)) (k : List Item) (e : Env) (ds : List Nat) (w : World) (R : Value → World → Prop) : Prop :=
  wfT n k = true → ops.toList.all (dstOk n) = true → ∀ a, Fits n e a → a.defers = marks ds → OrdR P ops L c S (fun a w => Runs P fn ro k a w R) l a w

section rd
variable {P : Program} {fn : FuncId} {ro : Option Nat} {n : Nat} {e : Env} {ds : List Nat} {k : List Item} {w : World} {R : Value → World → Prop} {ops : Array Oper} {l : List (Nat × Bool)} {L c : Nat → Bool} {S : World → Prop} {i : Nat}

/-- A region that draws: the order in which the walk goes, and what holds throughout. -/
theorem RX.draw {id : Nat} (S : World → Prop) (C : List Nat) (l : List (Nat × Bool)) (hm : P.follows .mixedOrders = true) (hok : (Region.noSelect ops && okOrd ops l ops.size (Array.replicate ops.size false)) = true)
    (h : ∀ w1, Grow w w1 → w1.heap.size = w.heap.size → RD P fn ro n ops (lateR ops C l) (cOf C) S l k e ds w1 R) : RX P fn ro n (.code (.region id ops true) :: k) e ds w R := by
  intro hw a hf hd
  rw [Bool.and_eq_true] at hok
  have hw' : ops.toList.all (dstOk n) = true ∧ wfT n k = true := by simpa [wfT_cons, wfI, wfC] using hw
  have h1 := h w.drew (Ch.drew _ w) rfl hw'.2 hw'.1 a hf hd
  have h2 := OrdR.any hok.1 l ops.size _ a w.drew (down_none _) late_spec hok.2 h1
  refine .step (fun _ => step_lone_go ?_) (a' := a) (k' := .inRegion ops (Region.linearise .any ops (w.tape w.drawn (.order fn id))) :: k) (w' := w.drew) (AnyR.runs ops.size _ _ a w.drew h2)
  simp [stepG, stepG.exec, mkF, choose, Sem.run, Question.forced, Question.cut, Region.schedule, hm]

theorem RD.nil (h : RX P fn ro n k e ds w R) : RD P fn ro n ops L c S [] k e ds w R := fun hw _ a hf hd => h hw a hf hd

theorem RD.rdAux {d : Nat} {o : Op} {ty : TypeId} {pos : String} {af : Array Edge} {g : Option (Nat × Bool)} {v : Value} {S' : World → Prop} (ho : ops[i]? = some ⟨some d, o, ty, pos, af, g⟩)
    (hS : (c i = true ∧ S w ∧ S' = S) ∨ (S' = fun _ => True))
    (hg : ∀ a, Fits n e a → Region.wanted ⟨some d, o, ty, pos, af, g⟩ (yielded ops a.tmps) = true) (h : ReadOp P o ty e S' v)
    (m : RD P fn ro n ops L c S l k ((d, v) :: e) ds w R) : RD P fn ro n ops L c S ((i, true) :: l) k e ds w R := by
  intro hw hok a hf hd
  have hm : (⟨some d, o, ty, pos, af, g⟩ : Oper) ∈ ops.toList := by
    have := Array.mem_of_getElem? ho
    simpa using this
  have hdst : dstOk n ⟨some d, o, ty, pos, af, g⟩ = true := List.all_eq_true.1 hok _ hm
  have hy : Still P ops S' ⟨some d, o, ty, pos, af, g⟩ v a := ⟨by have := h.1; cases o <;> simp_all [notDefer], .inl ⟨hg a hf, fun w hw => h.2 a.eval (fun x u hx => hf.ev hx) _ _ _ _ w hw⟩⟩
  have hm := m hw hok _ (hf.put (by simpa [dstOk] using hdst) v) (by simpa [Act.put] using hd)
  rcases hS with ⟨hc, hS, rfl⟩ | rfl
  · exact .inl ⟨hc, hS, _, v, ho, hy, hm⟩
  · exact .inr ⟨_, v, ho, hy, hm⟩
theorem RD.rd {d : Nat} {o : Op} {ty : TypeId} {pos : String} {af : Array Edge} {v : Value} (ho : ops[i]? = some ⟨some d, o, ty, pos, af, none⟩) (hc : c i = true) (hS : S w) (h : ReadOp P o ty e S v)
    (m : RD P fn ro n ops L c S l k ((d, v) :: e) ds w R) : RD P fn ro n ops L c S ((i, true) :: l) k e ds w R := .rdAux ho (.inl ⟨hc, hS, rfl⟩) (fun _ _ => rfl) h m
theorem RD.rdG {d j t : Nat} {want : Bool} {o : Op} {ty : TypeId} {pos : String} {af : Array Edge} {v : Value} (ho : ops[i]? = some ⟨some d, o, ty, pos, af, some (j, want)⟩) (hj : (ops[j]?).bind (·.dst) = some t) (he : e.get t = some (.bool want)) (hc : c i = true) (hS : S w) (h : ReadOp P o ty e S v)
    (m : RD P fn ro n ops L c S l k ((d, v) :: e) ds w R) : RD P fn ro n ops L c S ((i, true) :: l) k e ds w R := .rdAux ho (.inl ⟨hc, hS, rfl⟩) (fun _ hf => by rw [wanted_of hj he hf]; simp) h m
/-- The same, where nothing holds throughout any more. -/
theorem RD.rq {d : Nat} {o : Op} {ty : TypeId} {pos : String} {af : Array Edge} {v : Value} (ho : ops[i]? = some ⟨some d, o, ty, pos, af, none⟩) (_hc : L i = false) (h : ReadOp P o ty e (fun _ => True) v)
    (m : RD P fn ro n ops L c S l k ((d, v) :: e) ds w R) : RD P fn ro n ops L c S ((i, true) :: l) k e ds w R := .rdAux ho (.inr rfl) (fun _ _ => rfl) h m
theorem RD.rqG {d j t : Nat} {want : Bool} {o : Op} {ty : TypeId} {pos : String} {af : Array Edge} {v : Value} (ho : ops[i]? = some ⟨some d, o, ty, pos, af, some (j, want)⟩) (hj : (ops[j]?).bind (·.dst) = some t) (he : e.get t = some (.bool want)) (_hc : L i = false) (h : ReadOp P o ty e (fun _ => True) v)
    (m : RD P fn ro n ops L c S l k ((d, v) :: e) ds w R) : RD P fn ro n ops L c S ((i, true) :: l) k e ds w R := .rdAux ho (.inr rfl) (fun _ hf => by rw [wanted_of hj he hf]; simp) h m
/-- The same, of one that reads nothing. -/
theorem RD.rz {d : Nat} {o : Op} {ty : TypeId} {pos : String} {af : Array Edge} {v : Value} (ho : ops[i]? = some ⟨some d, o, ty, pos, af, none⟩) (h : ReadOp P o ty e (fun _ => True) v)
    (m : RD P fn ro n ops L c S l k ((d, v) :: e) ds w R) : RD P fn ro n ops L c S ((i, true) :: l) k e ds w R := .rdAux ho (.inr rfl) (fun _ _ => rfl) h m
theorem RD.rzG {d j t : Nat} {want : Bool} {o : Op} {ty : TypeId} {pos : String} {af : Array Edge} {v : Value} (ho : ops[i]? = some ⟨some d, o, ty, pos, af, some (j, want)⟩) (hj : (ops[j]?).bind (·.dst) = some t) (he : e.get t = some (.bool want)) (h : ReadOp P o ty e (fun _ => True) v)
    (m : RD P fn ro n ops L c S l k ((d, v) :: e) ds w R) : RD P fn ro n ops L c S ((i, true) :: l) k e ds w R := .rdAux ho (.inr rfl) (fun _ hf => by rw [wanted_of hj he hf]; simp) h m
/-- Passed by, as a quiet one. -/
theorem RD.skAux {d j t : Nat} {b want : Bool} {o : Op} {ty : TypeId} {pos : String} {af : Array Edge} (ho : ops[i]? = some ⟨some d, o, ty, pos, af, some (j, want)⟩) (hj : (ops[j]?).bind (·.dst) = some t) (he : e.get t = some (.bool b)) (hb : (b == want) = false) (hS : (c i = true ∧ S w) ∨ True)
    (hn : notDefer ⟨some d, o, ty, pos, af, some (j, want)⟩ = true) (m : RD P fn ro n ops L c S l k ((d, undef) :: e) ds w R) : RD P fn ro n ops L c S ((i, true) :: l) k e ds w R := by
  intro hw hok a hf hd
  have hm : (⟨some d, o, ty, pos, af, some (j, want)⟩ : Oper) ∈ ops.toList := by
    have := Array.mem_of_getElem? ho
    simpa using this
  have hdst : dstOk n ⟨some d, o, ty, pos, af, some (j, want)⟩ = true := List.all_eq_true.1 hok _ hm
  have hm := m hw hok _ (hf.put (by simpa [dstOk] using hdst) undef) (by simpa [Act.put] using hd)
  have hwf := wanted_of (n := n) (d := some d) (o := o) (ty := ty) (pos := pos) (af := af) (want := want) hj he hf
  rw [hb] at hwf
  rcases hS with ⟨hc, hS⟩ | _
  · exact .inl ⟨hc, hS, _, undef, ho, ⟨hn, .inr ⟨hwf, rfl⟩⟩, hm⟩
  · exact .inr ⟨_, undef, ho, ⟨hn, .inr ⟨hwf, rfl⟩⟩, hm⟩
theorem RD.sk {d j t : Nat} {b want : Bool} {o : Op} {ty : TypeId} {pos : String} {af : Array Edge} (ho : ops[i]? = some ⟨some d, o, ty, pos, af, some (j, want)⟩) (hj : (ops[j]?).bind (·.dst) = some t) (he : e.get t = some (.bool b)) (hb : (b == want) = false) (hc : c i = true) (hS : S w)
    (hn : notDefer ⟨some d, o, ty, pos, af, some (j, want)⟩ = true) (m : RD P fn ro n ops L c S l k ((d, undef) :: e) ds w R) : RD P fn ro n ops L c S ((i, true) :: l) k e ds w R := by
  exact .skAux ho hj he hb (.inl ⟨hc, hS⟩) hn m
theorem RD.skq {d j t : Nat} {b want : Bool} {o : Op} {ty : TypeId} {pos : String} {af : Array Edge} (ho : ops[i]? = some ⟨some d, o, ty, pos, af, some (j, want)⟩) (hj : (ops[j]?).bind (·.dst) = some t) (he : e.get t = some (.bool b)) (hb : (b == want) = false) (_hc : L i = false)
    (hn : notDefer ⟨some d, o, ty, pos, af, some (j, want)⟩ = true) (m : RD P fn ro n ops L c S l k ((d, undef) :: e) ds w R) : RD P fn ro n ops L c S ((i, true) :: l) k e ds w R := .skAux ho hj he hb (.inr trivial) hn m
theorem RD.skz {d j t : Nat} {b want : Bool} {o : Op} {ty : TypeId} {pos : String} {af : Array Edge} (ho : ops[i]? = some ⟨some d, o, ty, pos, af, some (j, want)⟩) (hj : (ops[j]?).bind (·.dst) = some t) (he : e.get t = some (.bool b)) (hb : (b == want) = false)
    (hn : notDefer ⟨some d, o, ty, pos, af, some (j, want)⟩ = true) (m : RD P fn ro n ops L c S l k ((d, undef) :: e) ds w R) : RD P fn ro n ops L c S ((i, true) :: l) k e ds w R := .skAux ho hj he hb (.inr trivial) hn m
/-- Passed by, as a loud one. -/
theorem RD.skLAux {d : Option Nat} {j t : Nat} {b want : Bool} {o : Op} {ty : TypeId} {pos : String} {af : Array Edge} (ho : ops[i]? = some ⟨d, o, ty, pos, af, some (j, want)⟩) (hj : (ops[j]?).bind (·.dst) = some t) (he : e.get t = some (.bool b)) (hb : (b == want) = false) (hS : L i = true → S w)
    (m : RD P fn ro n ops L c S l k (match d with | some d => (d, undef) :: e | none => e) ds w R) : RD P fn ro n ops L c S ((i, false) :: l) k e ds w R := by
  intro hw hok a hf hd
  have hm : (⟨d, o, ty, pos, af, some (j, want)⟩ : Oper) ∈ ops.toList := by
    have := Array.mem_of_getElem? ho
    simpa using this
  have hdst : dstOk n ⟨d, o, ty, pos, af, some (j, want)⟩ = true := List.all_eq_true.1 hok _ hm
  show StepR P ops i _ a w
  unfold StepR
  simp only [ho]
  rw [if_neg (by rw [wanted_of hj he hf]; simp [hb])]
  refine ⟨fun h _ => hS h, m hw hok _ ?_ ?_⟩
  · cases d with
    | none => exact hf
    | some d => exact hf.put (by simpa [dstOk] using hdst) undef
  · cases d <;> simpa [Act.put] using hd
theorem RD.skL {d j t : Nat} {b want : Bool} {o : Op} {ty : TypeId} {pos : String} {af : Array Edge} (ho : ops[i]? = some ⟨some d, o, ty, pos, af, some (j, want)⟩) (hj : (ops[j]?).bind (·.dst) = some t) (he : e.get t = some (.bool b)) (hb : (b == want) = false) (hS : S w)
    (m : RD P fn ro n ops L c S l k ((d, undef) :: e) ds w R) : RD P fn ro n ops L c S ((i, false) :: l) k e ds w R := .skLAux (d := some d) ho hj he hb (fun _ => hS) m
theorem RD.skL0 {j t : Nat} {b want : Bool} {o : Op} {ty : TypeId} {pos : String} {af : Array Edge} (ho : ops[i]? = some ⟨none, o, ty, pos, af, some (j, want)⟩) (hj : (ops[j]?).bind (·.dst) = some t) (he : e.get t = some (.bool b)) (hb : (b == want) = false) (hS : S w)
    (m : RD P fn ro n ops L c S l k e ds w R) : RD P fn ro n ops L c S ((i, false) :: l) k e ds w R := .skLAux (d := none) ho hj he hb (fun _ => hS) m
theorem RD.skM {d j t : Nat} {b want : Bool} {o : Op} {ty : TypeId} {pos : String} {af : Array Edge} (ho : ops[i]? = some ⟨some d, o, ty, pos, af, some (j, want)⟩) (hj : (ops[j]?).bind (·.dst) = some t) (he : e.get t = some (.bool b)) (hb : (b == want) = false) (hL : L i = false)
    (m : RD P fn ro n ops L c S l k ((d, undef) :: e) ds w R) : RD P fn ro n ops L c S ((i, false) :: l) k e ds w R := .skLAux (d := some d) ho hj he hb (fun h => by rw [hL] at h; cases h) m
theorem RD.skM0 {j t : Nat} {b want : Bool} {o : Op} {ty : TypeId} {pos : String} {af : Array Edge} (ho : ops[i]? = some ⟨none, o, ty, pos, af, some (j, want)⟩) (hj : (ops[j]?).bind (·.dst) = some t) (he : e.get t = some (.bool b)) (hb : (b == want) = false) (hL : L i = false)
    (m : RD P fn ro n ops L c S l k e ds w R) : RD P fn ro n ops L c S ((i, false) :: l) k e ds w R := .skLAux (d := none) ho hj he hb (fun h => by rw [hL] at h; cases h) m

theorem RD.loAux {d : Option Nat} {o : Op} {ty : TypeId} {pos : String} {af : Array Edge} {g : Option (Nat × Bool)} (ho : ops[i]? = some ⟨d, o, ty, pos, af, g⟩)
    (hg : ∀ a, Fits n e a → Region.wanted ⟨d, o, ty, pos, af, g⟩ (yielded ops a.tmps) = true)
    (h : LoudOp P o ty e w fun v w' => (L i = true → S w') ∧ RD P fn ro n ops L c S l k (match d with | some d => (d, v) :: e | none => e) ds w' R) : RD P fn ro n ops L c S ((i, false) :: l) k e ds w R := by
  intro hw hok a hf hd
  have hm : (⟨d, o, ty, pos, af, g⟩ : Oper) ∈ ops.toList := by
    have := Array.mem_of_getElem? ho
    simpa using this
  have hdst : dstOk n ⟨d, o, ty, pos, af, g⟩ = true := List.all_eq_true.1 hok _ hm
  show StepR P ops i _ a w
  unfold StepR
  simp only [ho]
  rw [if_pos (hg a hf)]
  refine (h.opW hf d pos af g).mono fun v w' hv => ⟨fun h _ => hv.1 h, hv.2 hw hok _ ?_ ?_⟩
  · cases d with
    | none => exact hf
    | some d => exact hf.put (by simpa [dstOk] using hdst) v
  · cases d <;> simpa [Act.put] using hd
theorem RD.lo {d : Nat} {o : Op} {ty : TypeId} {pos : String} {af : Array Edge} (ho : ops[i]? = some ⟨some d, o, ty, pos, af, none⟩)
    (h : LoudOp P o ty e w fun v w' => S w' ∧ RD P fn ro n ops L c S l k ((d, v) :: e) ds w' R) : RD P fn ro n ops L c S ((i, false) :: l) k e ds w R := .loAux (d := some d) ho (fun _ _ => rfl) (h.mono fun _ _ h => ⟨fun _ => h.1, h.2⟩)
theorem RD.lo0 {o : Op} {ty : TypeId} {pos : String} {af : Array Edge} (ho : ops[i]? = some ⟨none, o, ty, pos, af, none⟩)
    (h : LoudOp P o ty e w fun _ w' => S w' ∧ RD P fn ro n ops L c S l k e ds w' R) : RD P fn ro n ops L c S ((i, false) :: l) k e ds w R := .loAux (d := none) ho (fun _ _ => rfl) (h.mono fun _ _ h => ⟨fun _ => h.1, h.2⟩)
theorem RD.loG {d j t : Nat} {want : Bool} {o : Op} {ty : TypeId} {pos : String} {af : Array Edge} (ho : ops[i]? = some ⟨some d, o, ty, pos, af, some (j, want)⟩) (hj : (ops[j]?).bind (·.dst) = some t) (he : e.get t = some (.bool want))
    (h : LoudOp P o ty e w fun v w' => S w' ∧ RD P fn ro n ops L c S l k ((d, v) :: e) ds w' R) : RD P fn ro n ops L c S ((i, false) :: l) k e ds w R :=
  .loAux (d := some d) ho (fun _ hf => by rw [wanted_of hj he hf]; simp) (h.mono fun _ _ h => ⟨fun _ => h.1, h.2⟩)
theorem RD.loG0 {j t : Nat} {want : Bool} {o : Op} {ty : TypeId} {pos : String} {af : Array Edge} (ho : ops[i]? = some ⟨none, o, ty, pos, af, some (j, want)⟩) (hj : (ops[j]?).bind (·.dst) = some t) (he : e.get t = some (.bool want))
    (h : LoudOp P o ty e w fun _ w' => S w' ∧ RD P fn ro n ops L c S l k e ds w' R) : RD P fn ro n ops L c S ((i, false) :: l) k e ds w R :=
  .loAux (d := none) ho (fun _ hf => by rw [wanted_of hj he hf]; simp) (h.mono fun _ _ h => ⟨fun _ => h.1, h.2⟩)
/-- Every quiet one has come up ahead of this one, whatever the order: behind it nothing is asked. -/
theorem RD.lf {d : Nat} {o : Op} {ty : TypeId} {pos : String} {af : Array Edge} (ho : ops[i]? = some ⟨some d, o, ty, pos, af, none⟩) (hL : L i = false)
    (h : LoudOp P o ty e w fun v w' => RD P fn ro n ops L c S l k ((d, v) :: e) ds w' R) : RD P fn ro n ops L c S ((i, false) :: l) k e ds w R := .loAux (d := some d) ho (fun _ _ => rfl) (h.mono fun _ _ h => ⟨fun h' => (by rw [hL] at h'; cases h'), h⟩)
theorem RD.lf0 {o : Op} {ty : TypeId} {pos : String} {af : Array Edge} (ho : ops[i]? = some ⟨none, o, ty, pos, af, none⟩) (hL : L i = false)
    (h : LoudOp P o ty e w fun _ w' => RD P fn ro n ops L c S l k e ds w' R) : RD P fn ro n ops L c S ((i, false) :: l) k e ds w R := .loAux (d := none) ho (fun _ _ => rfl) (h.mono fun _ _ h => ⟨fun h' => (by rw [hL] at h'; cases h'), h⟩)
theorem RD.lfG {d j t : Nat} {want : Bool} {o : Op} {ty : TypeId} {pos : String} {af : Array Edge} (ho : ops[i]? = some ⟨some d, o, ty, pos, af, some (j, want)⟩) (hj : (ops[j]?).bind (·.dst) = some t) (he : e.get t = some (.bool want)) (hL : L i = false)
    (h : LoudOp P o ty e w fun v w' => RD P fn ro n ops L c S l k ((d, v) :: e) ds w' R) : RD P fn ro n ops L c S ((i, false) :: l) k e ds w R :=
  .loAux (d := some d) ho (fun _ hf => by rw [wanted_of hj he hf]; simp) (h.mono fun _ _ h => ⟨fun h' => (by rw [hL] at h'; cases h'), h⟩)
theorem RD.lfG0 {j t : Nat} {want : Bool} {o : Op} {ty : TypeId} {pos : String} {af : Array Edge} (ho : ops[i]? = some ⟨none, o, ty, pos, af, some (j, want)⟩) (hj : (ops[j]?).bind (·.dst) = some t) (he : e.get t = some (.bool want)) (hL : L i = false)
    (h : LoudOp P o ty e w fun _ w' => RD P fn ro n ops L c S l k e ds w' R) : RD P fn ro n ops L c S ((i, false) :: l) k e ds w R :=
  .loAux (d := none) ho (fun _ hf => by rw [wanted_of hj he hf]; simp) (h.mono fun _ _ h => ⟨fun h' => (by rw [hL] at h'; cases h'), h⟩)
theorem RD.split {d : Nat} {b : Bool} (ht : b = true → RD P fn ro n ops L c S l k ((d, .bool true) :: e) ds w R) (hf : b = false → RD P fn ro n ops L c S l k ((d, .bool false) :: e) ds w R) :
    RD P fn ro n ops L c S l k ((d, .bool b) :: e) ds w R := by
  cases b
  · exact hf rfl
  · exact ht rfl
theorem RD.splitD {d : Nat} {p : Prop} [Decidable p] (ht : p → RD P fn ro n ops L c S l k ((d, .bool true) :: e) ds w R) (hf : ¬ p → RD P fn ro n ops L c S l k ((d, .bool false) :: e) ds w R) :
    RD P fn ro n ops L c S l k ((d, .bool (decide p)) :: e) ds w R :=
  .split (fun h => ht (of_decide_eq_true h)) (fun h => hf (of_decide_eq_false h))
end rd
end Go.Proofs.YtmcfbinkofoagaaGreat.Sx
namespace Go.Proofs.YtmcfbinkofoagaaGreat.Sx
open Go Go.RowKit

section
variable {P : Program} {e : Env} {W : World → Prop} {ty : TypeId} {w : World} {K : Value → World → Prop}

/-- What a slice's elements are, as cells. -/
inductive Rd (w : World) (sz : Nat) : Value → Nat → List Value → Prop
  | nil (c : Nat) : Rd w sz (.slice none 0 c) 0 []
  | some {b off n c : Nat} {cs xs : List Value} {T : TypeId} (hb : Blk w b cs T) (hn : off + n * sz ≤ cs.length) (hx : (cs.drop off).take (n * sz) = xs) : Rd w sz (.slice (some ⟨b, off, none⟩) n c) n xs

theorem Rd.length {sz n : Nat} {v : Value} {xs : List Value} (h : Rd w sz v n xs) : xs.length = n * sz := by
  cases h with
  | nil => simp
  | some hb hn hx => subst hx; simp; omega

/-- A slice whose block is new since w0 (or that is nil). -/
inductive Own (w0 : Nat) (w : World) (sz : Nat) (T : TypeId) : Value → List Value → Prop
  | nil : Own w0 w sz T (.slice none 0 0) []
  | some {b n c : Nat} {cs all : List Value} (h0 : w0 ≤ b) (hb : Blk w b all T) (hl : all.length = c * sz) (hc : cs.length = n * sz) (ht : all.take (n * sz) = cs) (hn : n ≤ c) : Own w0 w sz T (.slice (some ⟨b, 0, none⟩) n c) cs

/-- The block of a slice. -/
def inSl (v : Value) (b : Nat) : Prop := ∃ off n c, v = .slice (some ⟨b, off, none⟩) n c

theorem Own.rd {w0 : Nat} {sz : Nat} {T : TypeId} {v : Value} {cs : List Value} (h : Own w0 w sz T v cs) : ∃ n, Rd w sz v n cs := by
  cases h with
  | nil => exact ⟨0, .nil 0⟩
  | some h0 hb hl hc ht hn => exact ⟨_, .some hb (by rw [hl]; simpa using Nat.mul_le_mul_right sz hn) (by simpa using ht)⟩

theorem Own.ch {w0 : Nat} {sz : Nat} {T : TypeId} {v : Value} {cs : List Value} {S : Nat → Prop} {w1 : World} (h : Own w0 w sz T v cs) (hc : Ch S w w1) (hs : ∀ b, inSl v b → ¬ S b) : Own w0 w1 sz T v cs := by
  cases h with
  | nil => exact .nil
  | some h0 hb hl hcs ht hn => exact .some h0 (hb.ch hc (hs _ ⟨_, _, _, rfl⟩)) hl hcs ht hn
theorem Own.gr {w0 : Nat} {sz : Nat} {T : TypeId} {v : Value} {cs : List Value} {w1 : World} (h : Own w0 w sz T v cs) (hc : Grow w w1) : Own w0 w1 sz T v cs := h.ch hc (fun _ _ h => h)
theorem Own.lt {w0 : Nat} {sz : Nat} {T : TypeId} {v : Value} {cs : List Value} (h : Own w0 w sz T v cs) : ∀ b, inSl v b → w0 ≤ b ∧ b < w.heap.size := by
  rintro b ⟨off, n, c, rfl⟩
  cases h with
  | some h0 hb hl hc ht hn => exact ⟨h0, hb.lt⟩
theorem Rd.gr {sz n : Nat} {v : Value} {xs : List Value} {w1 : World} (h : Rd w sz v n xs) (hc : Grow w w1) : Rd w1 sz v n xs := by
  cases h with
  | nil => exact .nil _
  | some hb hn hx => exact .some (hb.gr hc) hn hx

/-! ### Parts of a slice -/

theorem run_slice_t {t el : TypeId} (ht : P.underlying t = some (.slice el)) (x : Value) (lo hi mx : Option Value) (w : World) : (Instr.sliceAt t x lo hi mx).run P w = (Instr.slice t x lo hi mx).run P w := by
  simp [Instr.sliceAt, run_underlying ht]
theorem slE_under {t el : TypeId} {sz : Nat} (ht : slE P t = some (el, sz)) : P.underlying t = some (.slice el) ∧ szOf P el = some sz := by
  unfold slE at ht
  cases hu : P.underlying t with
  | none => simp [hu] at ht
  | some ds =>
    cases ds <;> simp [hu] at ht
    obtain ⟨a, ha, rfl, hb⟩ := ht
    exact ⟨rfl, by simp [szOf, ha, hb]⟩

/-- x[lo:]; past the last place of the capacity the address stays. -/
def loAt (b off c l sz : Nat) : Addr := if c = l then ⟨b, off, none⟩ else ⟨b, off + l * sz, none⟩
theorem V.slLo {t el : TypeId} {sz b off n c : Nat} {x y : Operand} {k : IntKind} {i : Int} (ht : slE P t = some (el, sz)) (hx : e.ev x = some (.slice (some ⟨b, off, none⟩) n c)) (hy : e.ev y = some (.int k i)) (h : 0 ≤ i ∧ i ≤ n) :
    ReadOp P (.slice t x (some y) none none) ty e W (.slice (some (loAt b off c i.toNat sz)) (n - i.toNat) (c - i.toNat)) :=
  ⟨rfl, fun ρ hρ d pos af g w _ => by
    obtain ⟨hu, hs⟩ := slE_under ht
    simp only [execOp, hρ _ _ hx, Option.map_some, Option.map_none, hρ _ _ hy]
    simp only [Sem.run_bind, run_slice_t hu, Instr.slice, run_underlying hu, Result.andThen_ok, Instr.sliceBounds, Sem.run_pure, Instr.sliceBound, asIntOf, Sem.run_ite, h, and_self, if_true, run_sizeOf hs, loAt]
    by_cases hc : c = i.toNat
    · simp [hc]
    · by_cases hz : i.toNat * sz = 0
      · simp [hc, Addr.add, hz]
      · simp [hc, Addr.add, hz]⟩
/-- x[:hi] -/
theorem V.slHi {t el : TypeId} {sz b off n c : Nat} {x y : Operand} {k : IntKind} {i : Int} (ht : slE P t = some (el, sz)) (hx : e.ev x = some (.slice (some ⟨b, off, none⟩) n c)) (hy : e.ev y = some (.int k i)) (h : 0 ≤ i ∧ i ≤ c) :
    ReadOp P (.slice t x none (some y) none) ty e W (.slice (some ⟨b, off, none⟩) i.toNat c) :=
  ⟨rfl, fun ρ hρ d pos af g w _ => by
    obtain ⟨hu, hs⟩ := slE_under ht
    simp only [execOp, hρ _ _ hx, Option.map_some, Option.map_none, hρ _ _ hy]
    simp only [Sem.run_bind, run_slice_t hu, Instr.slice, run_underlying hu, Result.andThen_ok, Instr.sliceBounds, Sem.run_pure, Instr.sliceBound, asIntOf, Sem.run_ite, h, and_self, if_true, run_sizeOf hs]
    by_cases hc : c = 0 <;> simp [hc, Addr.add]⟩
theorem V.slHiNil {t el : TypeId} {sz c : Nat} {x y : Operand} {k : IntKind} {i : Int} (ht : slE P t = some (el, sz)) (hx : e.ev x = some (.slice none 0 c)) (hy : e.ev y = some (.int k i)) (h : 0 ≤ i ∧ i ≤ c) :
    ReadOp P (.slice t x none (some y) none) ty e W (.slice none i.toNat c) :=
  ⟨rfl, fun ρ hρ d pos af g w _ => by
    obtain ⟨hu, hs⟩ := slE_under ht
    simp only [execOp, hρ _ _ hx, Option.map_some, Option.map_none, hρ _ _ hy]
    simp only [Sem.run_bind, run_slice_t hu, Instr.slice, run_underlying hu, Result.andThen_ok, Instr.sliceBounds, Sem.run_pure, Instr.sliceBound, asIntOf, Sem.run_ite, h, and_self, if_true, run_sizeOf hs]
    by_cases hc : c = 0 <;> simp [hc]⟩
theorem V.cap {t el : TypeId} {x : Operand} {p : Option Addr} {l c : Nat} (ht : P.underlying t = some (.slice el)) (hx : e.ev x = some (.slice p l c)) :
    ReadOp P (.call ⟨.builtin .cap, #[x], #[t]⟩) ty e W (.int .i64 c) :=
  ⟨rfl, fun ρ hρ d pos af g w _ => by
    simp [execOp, hρ _ _ hx, resolve, invoke, builtin, Builtin.cap_, run_underlying ht, goInt]⟩
theorem V.min {x y : Operand} {ts : Array TypeId} {a b : Int} (hx : e.ev x = some (.int .i64 a)) (hy : e.ev y = some (.int .i64 b)) :
    ReadOp P (.call ⟨.builtin .min, #[x, y], ts⟩) ty e W (.int .i64 (Min.min a b)) :=
  ⟨rfl, fun ρ hρ d pos af g w _ => by
    have : (if b < a then b else a) = Min.min a b := by omega
    simp [execOp, hρ _ _ hx, hρ _ _ hy, resolve, invoke, builtin, Builtin.min_, Builtin.min2, this]⟩
theorem V.max {x y : Operand} {ts : Array TypeId} {a b : Int} (hx : e.ev x = some (.int .i64 a)) (hy : e.ev y = some (.int .i64 b)) :
    ReadOp P (.call ⟨.builtin .max, #[x, y], ts⟩) ty e W (.int .i64 (Max.max a b)) :=
  ⟨rfl, fun ρ hρ d pos af g w _ => by
    have : (if b > a then b else a) = Max.max a b := by omega
    simp [execOp, hρ _ _ hx, hρ _ _ hy, resolve, invoke, builtin, Builtin.max_, Builtin.max2, this]⟩
/-- One kind of int as another of the same kind. -/
theorem V.conv {s d : TypeId} {x : Operand} {a : Int} (hs : P.underlying s = some (.int .i64)) (hd : P.underlying d = some (.int .i64)) (hx : e.ev x = some (.int .i64 a)) (h : -9223372036854775808 ≤ a ∧ a ≤ 9223372036854775807) :
    ReadOp P (.convert s d x) ty e W (.int .i64 a) :=
  ⟨rfl, fun ρ hρ d' pos af g w _ => by
    simp [execOp, hρ _ _ hx, convert, run_underlying hs, run_underlying hd, Conv.intToInt, wrap_in h.1 h.2]⟩
theorem V.eqB {x y : Operand} {t t' : TypeId} {a b : Bool} (ht : P.underlying t = some .bool) (hx : e.ev x = some (.bool a)) (hy : e.ev y = some (.bool b)) : ReadOp P (.binOp .eql t x y t') ty e W (.bool (a == b)) :=
  ⟨rfl, fun ρ hρ d pos af g w _ => by
    have : (Op.equal t (.bool a) (.bool b)).run P w = .ok (a == b) w := run_equal (by rw [Op.equalIn]; simp [run_underlying ht])
    simp only [execOp, hρ _ _ hx, hρ _ _ hy, eqGuard, binOp]; simp [this]⟩
theorem V.neB {x y : Operand} {t t' : TypeId} {a b : Bool} (ht : P.underlying t = some .bool) (hx : e.ev x = some (.bool a)) (hy : e.ev y = some (.bool b)) : ReadOp P (.binOp .neq t x y t') ty e W (.bool (!(a == b))) :=
  ⟨rfl, fun ρ hρ d pos af g w _ => by
    have : (Op.equal t (.bool a) (.bool b)).run P w = .ok (a == b) w := run_equal (by rw [Op.equalIn]; simp [run_underlying ht])
    simp only [execOp, hρ _ _ hx, hρ _ _ hy, eqGuard, binOp]; simp [this]⟩

/-! ### Appending -/

theorem growBy_le (m : Nat) : ∀ (r c : Nat), c ≤ m + (m + 768) / 4 → Builtin.growBy m r c ≤ m + (m + 768) / 4
  | 0, c, h => h
  | r + 1, c, h => by
    simp only [Builtin.growBy]
    split
    · exact h
    · exact growBy_le m r _ (by omega)
theorem next_le {m c : Nat} (h : c < m) : Builtin.nextslicecap m c ≤ 2 * m + 768 := by
  unfold Builtin.nextslicecap
  split
  · omega
  · split
    · omega
    · have := growBy_le m 4 c (by omega); omega

theorem Rd.first {sz n : Nat} {v : Value} {xs : List Value} (h : Rd w sz v n xs) : (Builtin.firstCells sz n v).run P w = .ok xs.toArray w := by
  cases h with
  | nil => rfl
  | some hb hn hx =>
    rename_i b off c cs T
    have := loadCellsFrom_blk (P := P) (off := off) hb.cell (n * sz) 0 #[] (by omega)
    simp only [Nat.add_zero] at this
    simp only [Builtin.firstCells, loadCells, this, hx]
    simp
theorem Rd.lenOf {sz n : Nat} {v : Value} {xs : List Value} (h : Rd w sz v n xs) : (Builtin.lenOf v).run P w = .ok n w := by
  cases h <;> rfl

theorem setAt_split : ∀ (vs a b : List Value), vs.length ≤ b.length → setAt (a ++ b) a.length vs = a ++ vs ++ b.drop vs.length
  | [], a, b, _ => by simp [setAt_nil]
  | v :: vs, a, b, h => by
    cases b with
    | nil => simp at h
    | cons c r =>
      rw [setAt_cons]
      have := setAt_split vs (a ++ [v]) r (by simpa using h)
      rw [List.set_append_right _ _ (by simp)]
      simp at this ⊢
      exact this

theorem zeroCells_size (z : Array Value) (n : Nat) : (Builtin.zeroCells z n).size = n * z.size := by simp [Builtin.zeroCells]

/-- What an append gives. -/
theorem run_append {w0 : Nat} {t t2 el : TypeId} {sz byt n : Nat} {zs cs xs : List Value} {v u : Value} (ht : slE P t = some (el, sz)) (ht2 : ∃ el2, P.underlying t2 = some (.slice el2)) (hz : zeroC P el = some zs) (hzl : zs.length = sz)
    (hby : P.bytesOf el = byt) (hv : Own w0 w sz el v cs) (hu : Rd w sz u n xs) (h0 : 0 < byt) (hs0 : 0 < sz) (hw0 : w0 ≤ w.heap.size) (h1 : ∀ u ∈ xs, u.oneCell' = true) (hm : (2 * (cs.length + xs.length) + 768) * byt ≤ 281474976710656) :
    ∃ v' w1, (Builtin.append_ #[t, t2] ty #[v, u]).run P w = .ok v' w1 ∧ Ch (inSl v) w w1 ∧ Own w0 w1 sz el v' (cs ++ xs) ∧ (∀ b, inSl v' b → inSl v b ∨ w.heap.size ≤ b) := by
  obtain ⟨hu1, hs1⟩ := slE_under ht
  obtain ⟨el2, ht2⟩ := ht2
  have hz1 : ∃ zv : Value, (zeroValue el).run P w = .ok zv w ∧ zv.cells.toList = zs ∧ ∀ w, (zeroValue el).run P w = .ok zv w := by
    unfold zeroC at hz
    cases hi : P.info? el with
    | none => simp [hi] at hz
    | some i =>
      cases hzz : i.zero with
      | none => simp [hi, hzz] at hz
      | some zv => simp [hi, hzz] at hz; exact ⟨zv, by simp [zeroValue, typeInfo, hi, hzz], hz, fun w => by simp [zeroValue, typeInfo, hi, hzz]⟩
  obtain ⟨zv, _, hz2, hz3⟩ := hz1
  have hti : ∃ ti : TypeInfo, (∀ w, (typeInfo el).run P w = .ok ti w) ∧ ti.bytes = byt := by
    unfold szOf at hs1
    cases hi : P.info? el with
    | none => simp [hi] at hs1
    | some i => exact ⟨i, fun w => by simp [typeInfo, hi], by simpa [Program.bytesOf, hi] using hby⟩
  obtain ⟨ti, hti, htb⟩ := hti
  have hxl := hu.length
  have huf := hu.first (P := P)
  have hul := hu.lenOf (P := P)
  obtain ⟨base, len, cap, rfl, hcl, hle⟩ : ∃ base len cap, v = .slice base len cap ∧ cs.length = len * sz ∧ len ≤ cap := by
    cases hv with
    | nil => exact ⟨none, 0, 0, rfl, by simp, by omega⟩
    | some h0 hb hl hc htk hn => exact ⟨_, _, _, rfl, hc, hn⟩
  have hneed : (2 * (len + n) + 768) * byt ≤ 281474976710656 := by
    refine Nat.le_trans (Nat.mul_le_mul_right byt ?_) hm
    have : len ≤ len * sz := Nat.le_mul_of_pos_right _ hs0
    have : n ≤ n * sz := Nat.le_mul_of_pos_right _ hs0
    omega
  have hneed1 : len + n ≤ 281474976710656 := by
    have : 2 * (len + n) + 768 ≤ (2 * (len + n) + 768) * byt := Nat.le_mul_of_pos_right _ h0
    omega
  have hvr : (Builtin.firstCells sz len (.slice base len cap)).run P w = .ok cs.toArray w := by
    obtain ⟨m, hm⟩ := hv.rd
    have := hm.length
    have hm2 : m = len := by
      have h2 : m * sz = len * sz := by omega
      exact Nat.eq_of_mul_eq_mul_right hs0 h2
    subst hm2
    exact hm.first
  simp only [Builtin.append_]
  simp only [show (#[t, t2] : Array TypeId)[0]? = some t from rfl, show (#[t, t2] : Array TypeId)[1]? = some t2 from rfl, show ∀ a b : Value, (#[a, b] : Array Value)[0]? = some a from fun _ _ => rfl, show ∀ a b : Value, (#[a, b] : Array Value)[1]? = some b from fun _ _ => rfl]
  simp only [run_underlying hu1, Result.andThen_ok, Sem.run_bind, run_sizeOf hs1, run_underlying ht2, Sem.run_pure, Bool.false_eq_true, if_false, hul, Bool.not_false, if_true]
  by_cases hfit : len + n ≤ cap
  · -- there is room
    rw [if_pos hfit]
    simp only [Sem.run_bind, huf, Result.andThen_ok]
    cases hv with
    | nil =>
      have : n = 0 := by omega
      subst this
      have : xs = [] := List.length_eq_zero_iff.1 (by omega)
      subst this
      exact ⟨.slice none 0 0, w, rfl, .refl _ _, .nil, fun b h => .inl h⟩
    | some h0b hb hl hc htk hn =>
      rename_i b all
      have hspl : all = cs ++ all.drop (len * sz) := by rw [← htk]; exact (List.take_append_drop _ _).symm
      have hroom : (len + n) * sz ≤ cap * sz := Nat.mul_le_mul_right _ hfit
      have hroom2 : len * sz + n * sz ≤ all.length := by rw [hl, ← Nat.add_mul]; exact hroom
      obtain ⟨w1, hr, hch, hsz, hb1⟩ := storeCells_blk (P := P) (b := b) (off := len * sz) (T := el) xs 0 all w hb (by omega) h1
      have hset : setAt all (len * sz + 0) xs = cs ++ xs ++ (all.drop (len * sz)).drop xs.length := by
        rw [Nat.add_zero]
        conv => lhs; rw [hspl]
        rw [← hc]
        exact setAt_split xs cs _ (by simp; omega)
      have haddr : Addr.add ⟨b, 0, none⟩ (len * sz) = ⟨b, len * sz, none⟩ := by
        by_cases h : len * sz = 0
        · simp [Addr.add, h]
        · simp [Addr.add, h]
      refine ⟨.slice (some ⟨b, 0, none⟩) (len + n) cap, w1, ?_, hch.mono fun b' _ he => by subst he; exact ⟨0, len, cap, rfl⟩, ?_, fun b' h => by obtain ⟨o, n', c', h⟩ := h; cases h; exact .inl ⟨0, len, cap, rfl⟩⟩
      · simp only [haddr, Sem.run_bind, hr, Result.andThen_ok, Sem.run_pure]
      · refine .some h0b hb1 ?_ ?_ ?_ hfit
        · rw [setAt_length, hl]
        · simp [hc, hxl, Nat.add_mul]
        · rw [hset, List.take_append_of_le_length (by simp [hc, hxl, Nat.add_mul])]
          rw [List.take_of_length_le (by simp [hc, hxl, Nat.add_mul])]
  · -- a new row
    rw [if_neg hfit]
    have hnx := next_le (m := len + n) (c := cap) (by omega)
    have hb1 : Builtin.nextslicecap (len + n) cap * byt ≤ 281474976710656 := Nat.le_trans (Nat.mul_le_mul_right byt hnx) hneed
    simp only [Sem.run_bind, hti, Result.andThen_ok, htb]
    rw [if_neg (by simp; omega)]
    simp only [Sem.run_bind, Result.andThen_ok, hti, htb]
    rw [if_neg (by omega)]
    simp only [Sem.run_bind, Sem.run_pure, Result.andThen_ok, hti, run_choose, Question.forced, Bool.false_eq_true, if_false, run_askRoom]
    have hq : ∃ q, (Question.appendCap (len + n) cap el).cut (w.tape w.drawn (.appendCap (len + n) cap el)) = len + n + q := ⟨_, rfl⟩
    obtain ⟨q, hq⟩ := hq
    rw [hq]
    have hgd : Grow w w.drew := Ch.drew Nil w
    have hvr2 : (Builtin.firstCells sz len (.slice base len cap)).run P w.drew = .ok cs.toArray w.drew := by
      obtain ⟨m, hm⟩ := (hv.gr hgd).rd
      have := hm.length
      have hm2 : m = len := by
        have h2 : m * sz = len * sz := by omega
        exact Nat.eq_of_mul_eq_mul_right hs0 h2
      subst hm2
      exact hm.first
    have hur2 := (hu.gr hgd).first (P := P)
    simp only [hvr2, hur2, Result.andThen_ok, hz3, Sem.run_bind, newRow, run_newObj, Sem.run_pure, World.alloc_eq, World.drew_eq]
    have hza : zv.cells = zs.toArray := by rw [← hz2]
    have hrow : cs.toArray ++ xs.toArray ++ Builtin.zeroCells zv.cells (len + n + q - (len + n)) = (cs ++ xs ++ (Builtin.zeroCells zs.toArray q).toList).toArray := by
      rw [show len + n + q - (len + n) = q by omega, hza]
      apply Array.toList_inj.1
      simp
    refine ⟨.slice (some ⟨w.drew.heap.size, 0, none⟩) (len + n) (len + n + q), w.drew.alloc (.cells (cs ++ xs ++ (Builtin.zeroCells zs.toArray q).toList).toArray el), ?_, (Ch.drew _ w).trans (Ch.alloc _ _ _), ?_, fun b' h => by obtain ⟨o, n', c', h⟩ := h; cases h; exact .inr (Nat.le_refl _)⟩
    · rw [hrow]
    · refine .some (b := w.drew.heap.size) hw0 (Blk.alloc _ _ _) ?_ ?_ ?_ (by omega)
      · have := zeroCells_size zs.toArray q
        simp [hcl, hxl, this, hzl, Nat.add_mul, Nat.add_assoc]
      · simp [hcl, hxl, Nat.add_mul]
      · rw [List.take_append_of_le_length (by simp [hcl, hxl, Nat.add_mul])]
        rw [List.take_of_length_le (by simp [hcl, hxl, Nat.add_mul])]

/-- An append to a slice of the function's own. -/
theorem L.app {S : Nat → Prop} {w0 : World} {t t2 el el2 : TypeId} {sz byt n : Nat} {zs cs xs : List Value} {v u : Value} {x y : Operand} (hC : Ch S w0 w) (ht : slE P t = some (el, sz)) (ht2 : P.underlying t2 = some (.slice el2)) (hz : zeroC P el = some zs) (hzl : Nat.beq zs.length sz = true)
    (hby : P.bytesOf el = byt) (hx : e.ev x = some v) (hy : e.ev y = some u) (hv : Own w0.heap.size w sz el v cs) (hu : Rd w sz u n xs) (h0 : (Nat.blt 0 byt && Nat.blt 0 sz) = true) (h1 : xs.all (·.oneCell') = true) (hm : (2 * (cs.length + xs.length) + 768) * byt ≤ 281474976710656)
    (hk : ∀ v' w1, Ch S w0 w1 → Ch (inSl v) w w1 → Own w0.heap.size w1 sz el v' (cs ++ xs) → (∀ b, inSl v' b → inSl v b ∨ w.heap.size ≤ b) → K v' w1) :
    LoudOp P (.call ⟨.builtin .append, #[x, y], #[t, t2]⟩) ty e w K :=
  ⟨rfl, fun ρ hρ d pos af g => by
    rw [Bool.and_eq_true] at h0
    obtain ⟨v', w1, hr, hch, ho, hin⟩ := run_append (ty := ty) ht ⟨el2, ht2⟩ hz (Nat.eq_of_beq_eq_true hzl) hby hv hu (by simpa using h0.1) (by simpa using h0.2) hC.size (by simpa using h1) hm
    refine ⟨.value v', w1, ?_, hk v' w1 (hC.trans' hch fun b hb hs => ?_) hch ho hin⟩
    · simp [execOp, hρ _ _ hx, hρ _ _ hy, resolve, invoke, builtin, hr]
    · have := (hv.lt b hs).1; omega⟩

theorem fill_slice (sz : Nat) : ∀ (ps : List (Nat × Value)) (cs : List Value) (_ : ∀ p ∈ ps, (cellsL p.2).length = sz ∧ p.1 * sz + sz ≤ cs.length),
    Instr.fill (fun i => some (i * sz, sz)) cs.toArray ps = some (fillL (ps.map fun p => (p.1 * sz, cellsL p.2)) cs).toArray
  | [], cs, _ => by simp [Instr.fill, fillL]
  | (i, v) :: r, cs, hp => by
    obtain ⟨h1, h2⟩ := hp (i, v) (by simp)
    simp only at h1 h2
    have hz := foldl_cells (i * sz) v cs (by omega)
    have ih := fill_slice sz r (setAt cs (i * sz) (cellsL v)) (fun p hm => by rw [setAt_length]; exact hp p (by simp [hm]))
    have h4 : v.cells.size = sz := by simpa [cellsL] using h1
    simp only [Instr.fill]
    rw [if_neg (by simp [h4]; omega)]
    rw [hz]
    simpa [fillL] using ih

/-- n zero values. -/
def zerosL (zs : List Value) : Nat → List Value
  | 0 => []
  | n + 1 => zs ++ zerosL zs n
theorem zerosL_length (zs : List Value) : ∀ n, (zerosL zs n).length = n * zs.length
  | 0 => by simp [zerosL]
  | n + 1 => by simp [zerosL, zerosL_length zs n, Nat.succ_mul]; omega
theorem zerosL_get (zs : List Value) : ∀ (n k : Nat), k < n * zs.length → (zerosL zs n)[k]? = zs[k % zs.length]?
  | 0, k, h => by simp at h
  | n + 1, k, h => by
    rw [zerosL]
    by_cases hk : k < zs.length
    · rw [List.getElem?_append_left hk, Nat.mod_eq_of_lt hk]
    · rw [List.getElem?_append_right (by omega), zerosL_get zs n (k - zs.length) (by rw [Nat.succ_mul] at h; omega)]
      rw [Nat.mod_eq_sub_mod (by omega : k ≥ zs.length)]
theorem range_zeros (zs : List Value) (n : Nat) : (Array.range (n * zs.length)).map (zs.toArray[· % zs.toArray.size]!) = (zerosL zs n).toArray := by
  apply Array.toList_inj.1
  apply List.ext_getElem?
  intro k
  by_cases hk : k < n * zs.length
  · rw [show (zerosL zs n).toArray.toList = zerosL zs n from rfl, zerosL_get zs n k hk]
    have hp : 0 < zs.length := by
      rcases Nat.eq_zero_or_pos zs.length with h | h
      · rw [h] at hk; simp at hk
      · exact h
    have hlt := Nat.mod_lt k hp
    simp [hk, List.getElem?_eq_getElem hlt]
  · have h2 : (zerosL zs n).length ≤ k := by rw [zerosL_length]; omega
    simp [List.getElem?_eq_none h2]; omega

theorem run_zeroC {t : TypeId} {zs : List Value} (hz : zeroC P t = some zs) : ∃ zv : Value, zv.cells = zs.toArray ∧ ∀ w, (zeroValue t).run P w = .ok zv w := by
  unfold zeroC at hz
  cases hi : P.info? t with
  | none => simp [hi] at hz
  | some i =>
    cases hzz : i.zero with
    | none => simp [hi, hzz] at hz
    | some zv =>
      simp [hi, hzz] at hz
      exact ⟨zv, by rw [← hz], fun w => by simp [zeroValue, typeInfo, hi, hzz]⟩

/-- A slice literal. -/
theorem L.bsl {S : Nat → Prop} {w0 : World} {t el : TypeId} {sz n : Nat} {zs : List Value} {ops : List (Nat × Operand)} {ps : List (Nat × Value)} (hC : Ch S w0 w) (ht : slE P t = some (el, sz)) (hz : zeroC P el = some zs) (hzl : Nat.beq zs.length sz = true)
    (hn : (Nat.ble (n * sz) 16777216 && Nat.blt 0 sz) = true) (hp : ops.mapM (fun x => (e.ev x.2).map (x.1, ·)) = some ps) (hq : ps.all (fun p => Nat.beq (cellsL p.2).length sz && Nat.blt p.1 n) = true)
    (hk : ∀ b w1, b = w.heap.size → w0.heap.size ≤ b → Ch S w0 w1 → Grow w w1 → w1.heap.size = b + 1 → Blk w1 b (fillL (ps.map fun p => (p.1 * sz, cellsL p.2)) (zerosL zs n)) el → K (.slice (some ⟨b, 0, none⟩) n n) w1) :
    LoudOp P (.buildSlice t n ops.toArray) ty e w K :=
  ⟨rfl, fun ρ hρ d pos af g => by
    obtain ⟨hu, hs⟩ := slE_under ht
    obtain ⟨zv, hz1, hz2⟩ := run_zeroC hz
    rw [Bool.and_eq_true] at hn
    have hn1 : n * sz ≤ 16777216 := by simpa using hn.1
    have hn2 : 0 < sz := by simpa using hn.2
    have hzl' := Nat.eq_of_beq_eq_true hzl
    have hps : ops.map (fun x => (x.1, ρ x.2)) = ps := by
      clear hq hk
      induction ops generalizing ps with
      | nil => simp at hp; simp [hp]
      | cons c r ih =>
        simp only [List.mapM_cons, Option.bind_eq_bind] at hp
        cases hc : e.ev c.2 with
        | none => simp [hc] at hp
        | some u =>
          cases hr : (r.mapM fun x => (e.ev x.2).map (x.1, ·)) with
          | none => simp [hc, hr] at hp
          | some us => simp [hc, hr] at hp; subst hp; simp [hρ _ _ hc, ih hr]
    have hfill := fill_slice sz ps (zerosL zs n) (fun p hm => by
      have := List.all_eq_true.1 hq p hm
      rw [Bool.and_eq_true] at this
      refine ⟨Nat.eq_of_beq_eq_true this.1, ?_⟩
      have h2 : p.1 < n := by simpa using this.2
      rw [zerosL_length, hzl', ← Nat.succ_mul]
      exact Nat.mul_le_mul_right _ h2)
    refine ⟨.value (.slice (some ⟨w.heap.size, 0, none⟩) n n), w.alloc (.cells (fillL (ps.map fun p => (p.1 * sz, cellsL p.2)) (zerosL zs n)).toArray el), ?_, hk w.heap.size _ rfl hC.size (hC.trans (Ch.alloc S w _)) (Ch.alloc Nil w _) (by simp) (Blk.alloc w _ el)⟩
    simp only [execOp, List.map_toArray, hps, Instr.buildSlice]
    simp only [Sem.run_bind, run_underlying hu, Result.andThen_ok, run_sizeOf hs]
    rw [if_neg (by omega)]
    by_cases h0 : n * sz = 0
    · have : n = 0 := by rcases Nat.mul_eq_zero.1 h0 with h | h <;> omega
      subst this
      have hr : (Array.range (0 * sz)).map ((#[] : Array Value)[· % (#[] : Array Value).size]!) = (zerosL zs 0).toArray := by simp [zerosL]
      rw [if_pos h0]
      simp only [Sem.run_bind, Sem.run_pure, Result.andThen_ok, hr, hfill, newRow, run_newObj, World.alloc_eq]
    · have hr := range_zeros zs n
      rw [hzl'] at hr
      rw [if_neg h0]
      simp only [Sem.run_bind, Sem.run_pure, Result.andThen_ok, hz2, hz1, hr, hfill, newRow, run_newObj, World.alloc_eq]⟩
/-- A slice that is made. -/
theorem L.mks {S : Nat → Prop} {w0 : World} {t el : TypeId} {sz byt : Nat} {n : Int} {zs : List Value} {x y : Operand} (hC : Ch S w0 w) (ht : slE P t = some (el, sz)) (hz : zeroC P el = some zs) (hzl : Nat.beq zs.length sz = true) (hby : P.bytesOf el = byt)
    (hx : e.ev x = some (.int .i64 n)) (hy : e.ev y = some (.int .i64 n)) (h : 0 ≤ n ∧ n ≤ 1000000 ∧ byt * n ≤ 281474976710656) (h0 : Nat.blt 0 sz = true)
    (hk : ∀ b w1, b = w.heap.size → w0.heap.size ≤ b → Ch S w0 w1 → Grow w w1 → w1.heap.size = b + 1 → Blk w1 b (zerosL zs n.toNat) el → K (.slice (some ⟨b, 0, none⟩) n.toNat n.toNat) w1) :
    LoudOp P (.makeSlice t x y) ty e w K :=
  ⟨rfl, fun ρ hρ d pos af g => by
    obtain ⟨hu, hs⟩ := slE_under ht
    obtain ⟨zv, hz1, hz2⟩ := run_zeroC hz
    have hzl' := Nat.eq_of_beq_eq_true hzl
    have hs0 : 0 < sz := by simpa using h0
    obtain ⟨ti, hti, htb⟩ : ∃ ti : TypeInfo, (∀ w, (typeInfo el).run P w = .ok ti w) ∧ ti.bytes = byt := by
      unfold szOf at hs
      cases hi : P.info? el with
      | none => simp [hi] at hs
      | some i => exact ⟨i, fun w => by simp [typeInfo, hi], by simpa [Program.bytesOf, hi] using hby⟩
    refine ⟨.value (.slice (some ⟨w.heap.size, 0, none⟩) n.toNat n.toNat), w.alloc (.cells (zerosL zs n.toNat).toArray el), ?_, hk w.heap.size _ rfl hC.size (hC.trans (Ch.alloc S w _)) (Ch.alloc Nil w _) (by simp) (Blk.alloc w _ el)⟩
    have hw := wrap_in (n := n) (by omega) (by omega)
    simp only [execOp, hρ _ _ hx, hρ _ _ hy, Instr.makeSlice]
    simp only [Sem.run_bind, run_underlying hu, Result.andThen_ok, asInt, asIntOf, Sem.run_pure, hti, htb, hw]
    rw [if_neg (by simp; omega)]
    by_cases h0 : n.toNat * sz = 0
    · have : n.toNat = 0 := by rcases Nat.mul_eq_zero.1 h0 with h | h <;> omega
      rw [this] at h0 ⊢
      have hr : (Array.range (0 * sz)).map ((#[] : Array Value)[· % (#[] : Array Value).size]!) = (zerosL zs 0).toArray := by simp [zerosL]
      simp only [Sem.run_bind, Sem.run_pure, Result.andThen_ok, run_askRoom, run_sizeOf hs, h0, if_true]
      simp only [Sem.run_bind, Sem.run_pure, Result.andThen_ok, newRow, run_newObj, World.alloc_eq]
      rw [← hr]; simp
    · have hr := range_zeros zs n.toNat
      rw [hzl'] at hr
      simp only [Sem.run_bind, Sem.run_pure, Result.andThen_ok, run_askRoom, run_sizeOf hs, h0, if_false]
      simp only [Sem.run_bind, Sem.run_pure, Result.andThen_ok, hz2, hz1, hr, newRow, run_newObj, World.alloc_eq]⟩
end
end Go.Proofs.YtmcfbinkofoagaaGreat.Sx
namespace Go.Proofs.YtmcfbinkofoagaaGreat.Sx
open Go Go.RowKit

/-- Cells stay as they are, and whatever lies below m; loops' records from m on may turn, new blocks may come. -/
structure Cel (m : Nat) (w w' : World) : Prop where
  os : w'.os = w.os
  tape : w'.tape = w.tape
  output : w'.output = w.output
  size : w.heap.size ≤ w'.heap.size
  low : ∀ b, b < m → b < w.heap.size → w'.heap[b]? = w.heap[b]?
  rows : ∀ (b : Nat) (cs : Array Value) (T : TypeId) (f : Nat × Nat), w.heap[b]? = some (Obj.cells cs T f) → w'.heap[b]? = some (Obj.cells cs T f)

theorem Cel.refl (m : Nat) (w : World) : Cel m w w := ⟨rfl, rfl, rfl, Nat.le_refl _, fun _ _ _ => rfl, fun _ _ _ _ h => h⟩
theorem Cel.trans {m : Nat} {w w' w'' : World} (h : Cel m w w') (k : Cel m w' w'') : Cel m w w'' :=
  ⟨k.os.trans h.os, k.tape.trans h.tape, k.output.trans h.output, Nat.le_trans h.size k.size, fun b hb hs => (k.low b hb (Nat.lt_of_lt_of_le hs h.size)).trans (h.low b hb hs), fun b cs T f hc => k.rows b cs T f (h.rows b cs T f hc)⟩
theorem Cel.mono {m m' : Nat} {w w' : World} (h : Cel m w w') (hm : m' ≤ m) : Cel m' w w' := ⟨h.os, h.tape, h.output, h.size, fun b hb => h.low b (Nat.lt_of_lt_of_le hb hm), h.rows⟩
theorem Cel.of_grow {m : Nat} {w w' : World} (h : Grow w w') : Cel m w w' :=
  ⟨h.os, h.tape, h.output, h.size, fun b _ hs => h.keep b hs id, fun b cs T f hc => by
    rw [h.keep b (Array.getElem?_eq_some_iff.1 hc).1 id]; exact hc⟩
theorem Blk.cel {m b : Nat} {w w' : World} {cs : List Value} {T : TypeId} (h : Blk w b cs T) (hc : Cel m w w') : Blk w' b cs T := by
  unfold Blk at *; exact hc.rows _ _ _ _ h
theorem Rd.cel {m sz n : Nat} {v : Value} {xs : List Value} {w w1 : World} (h : Rd w sz v n xs) (hc : Cel m w w1) : Rd w1 sz v n xs := by
  cases h with
  | nil => exact .nil _
  | some hb hn hx => exact .some (hb.cel hc) hn hx
theorem Own.cel {m w0 : Nat} {sz : Nat} {T : TypeId} {v : Value} {cs : List Value} {w w1 : World} (h : Own w0 w sz T v cs) (hc : Cel m w w1) : Own w0 w1 sz T v cs := by
  cases h with
  | nil => exact .nil
  | some h0 hb hl hcs ht hn => exact .some h0 (hb.cel hc) hl hcs ht hn
theorem Ch.cel {S : Nat → Prop} {w0 w w' : World} {m : Nat} (h : Ch S w0 w) (hc : Cel m w w') (hm : w0.heap.size ≤ m) : Ch S w0 w' :=
  ⟨hc.os.trans h.os, hc.tape.trans h.tape, hc.output.trans h.output, Nat.le_trans h.size hc.size, fun b hb hs => (hc.low b (Nat.lt_of_lt_of_le hb hm) (Nat.lt_of_lt_of_le hb h.size)).trans (h.keep b hb hs)⟩

/-- A type of functions. -/
def funT (P : Program) (t : TypeId) : Bool := match P.underlying t with
  | some (.func _ _ _) => true
  | _ => false
/-- Block b is a row of cells, and none that holds a function. -/
def IsC (P : Program) (w : World) (b : Nat) : Prop := ∃ (cs : Array Value) (T : TypeId) (f : Nat × Nat), w.heap[b]? = some (Obj.cells cs T f) ∧ funT P T = false
theorem Blk.isC {P : Program} {w : World} {b : Nat} {cs : List Value} {T : TypeId} (h : Blk w b cs T) (hT : funT P T = false) : IsC P w b := ⟨_, _, _, h, hT⟩
theorem Blk.notC {P : Program} {w : World} {b : Nat} {cs : List Value} {T : TypeId} (h : Blk w b cs T) (hT : funT P T = true) : ¬ IsC P w b := by
  rintro ⟨cs', T', f, hh, hf⟩
  unfold Blk at h
  rw [h] at hh
  have := Option.some.inj hh
  simp only [Obj.cells.injEq] at this
  rw [← this.2.1, hT] at hf
  cases hf

/-- A function value is called. -/
def CallsV (P : Program) (y : Value) (args : List Value) (w : World) (K : Value → World → Prop) : Prop :=
  ∃ m w', (do let d ← Deferred.ofValue y args.toArray; invoke d.target d.args : Sem Next).run P w = .ok m w' ∧ Enters P K m w'

theorem CallsV.mono {P : Program} {y : Value} {args : List Value} {w : World} {K K' : Value → World → Prop} (h : CallsV P y args w K) (hk : ∀ v w, K v w → K' v w) : CallsV P y args w K' := by
  obtain ⟨m, w', hr, he⟩ := h
  refine ⟨m, w', hr, ?_⟩
  cases m <;> simp only [Enters] at he ⊢
  case value v => exact hk _ _ he
  case skip => exact hk _ _ he
  case enter f args => exact Calls.mono he (Ret.mono hk)
  case round => exact Runs.mono he hk

theorem CallsV.of_fn {P : Program} {f : Nat} {cap args : List Value} {w : World} {K : Value → World → Prop} (hf : isFn P f = true) (hc : Calls P f (args ++ cap).toArray w (Ret K)) : CallsV P (.func (.func f) #[] cap.toArray) args w K :=
  ⟨.enter f (args ++ cap).toArray, w, by simp [Deferred.ofValue, invoke, callFunc_isFn hf], hc⟩

theorem L.callY {P : Program} {e : Env} {ty : TypeId} {w : World} {K : Value → World → Prop} {x : Operand} {y : Value} {ops : List Operand} {ts : Array TypeId} {vs : List Value} (hx : e.ev x = some y) (ha : ops.mapM e.ev = some vs) {K' : Value → World → Prop} (hc : CallsV P y vs w K') (hk : ∀ v w1, K' v w1 → K v w1) :
    LoudOp P (.call ⟨.value x, ops.toArray, ts⟩) ty e w K :=
  ⟨rfl, fun ρ hρ d pos af g => by
    obtain ⟨m, w', hr, he⟩ := hc.mono hk
    refine ⟨m, w', ?_, he⟩
    have h1 := hρ _ _ hx
    have h2 := mapM_ev hρ ha
    simp only [execOp, resolve, h1, List.map_toArray, h2]
    exact hr⟩

/-- What a round must leave to the iterator: the blocks of B, and every record that is no cells from n on. -/
structure Kp (P : Program) (B : Nat → Prop) (n : Nat) (w w' : World) : Prop where
  size : w.heap.size ≤ w'.heap.size
  keep : ∀ b, b < w.heap.size → B b → w'.heap[b]? = w.heap[b]?
  recs : ∀ b, b < w.heap.size → n ≤ b → ¬ IsC P w b → w'.heap[b]? = w.heap[b]?

/-- An iterator: it hands out these rows of values, one behind the other, as long as it is told to go on. -/
def IterOk (P : Program) (gf : Nat) (cap : List Value) (items : List (List Value)) (B : Nat → Prop) (w : World) : Prop :=
  ∀ (y : Value) (J : Nat → World → Prop) (Jx : World → Prop), cellsL y = [y] →
    (∀ i w1 w2, J i w1 → Cel w.heap.size w1 w2 → J i w2) → (∀ w1 w2, Jx w1 → Cel w.heap.size w1 w2 → Jx w2) →
    (∀ i w1 it, items[i]? = some it → J i w1 → CallsV P y it w1 fun v w2 => Kp P B w.heap.size w1 w2 ∧ ((v = .bool true ∧ J (i + 1) w2) ∨ (v = .bool false ∧ Jx w2))) →
    J 0 w → Calls P gf (y :: cap).toArray w (Ret fun v w2 => v = tup [] ∧ (J items.length w2 ∨ Jx w2))

/-! ### A round -/

section round
variable {P : Program} {fn : FuncId} {l : Nat} {a : Act} {k : List Item} {w : World} {R : Value → World → Prop}

theorem run_getLoop {w : World} {l : Nat} {r : Loop} (h : w.heap[l]? = some (.loop r)) : (Instr.getLoop l).run P w = .ok r w := by
  simp [Instr.getLoop, getObj, Sem.run, h]
theorem run_setObj {w : World} {l : Nat} {o o' : Obj} (h : w.heap[l]? = some o) (hn : ∀ c t f, o ≠ .cells c t f) : (setObj l o').run P w = .ok () { w with heap := w.heap.setIfInBounds l o' } := by
  cases o <;> simp [setObj, Sem.run, h]
  rename_i c t f
  exact absurd rfl (hn c t f)

def setRec (w : World) (l : Nat) (r : Loop) : World := { w with heap := w.heap.setIfInBounds l (.loop r) }

theorem setRec_at {w : World} {l : Nat} {r r' : Loop} (h : w.heap[l]? = some (.loop r)) : (setRec w l r').heap[l]? = some (.loop r') := by
  have := (Array.getElem?_eq_some_iff.1 h).1
  simp [setRec, this]
theorem setRec_ne {w : World} {l b : Nat} {r : Loop} (h : b ≠ l) : (setRec w l r).heap[b]? = w.heap[b]? := by
  simp [setRec, Array.getElem?_setIfInBounds_ne (Ne.symm h)]
theorem setRec_ch (w : World) (l : Nat) (r : Loop) : Ch (· = l) w (setRec w l r) := ⟨rfl, rfl, rfl, by simp [setRec], fun _ _ hs => setRec_ne hs⟩
theorem setRec_cel {m : Nat} {w : World} {l : Nat} {r r' : Loop} (h : w.heap[l]? = some (.loop r)) (hm : m ≤ l) : Cel m w (setRec w l r') :=
  ⟨rfl, rfl, rfl, by simp [setRec], fun b hb _ => setRec_ne (by omega), fun b cs T f hc => by
    rw [setRec_ne]; exact hc
    intro he; subst he; rw [h] at hc; cases hc⟩

theorem Runs.beginRound {r : Loop} (h : w.heap[l]? = some (.loop r)) (hr : r.state = .ready) (n : Runs P fn (some l) k a (setRec w l { r with state := .busy }) R) : Runs P fn (some l) (.beginRound :: k) a w R := by
  refine .step (fun cs => step_lone_go ?_) n
  have h1 : (do Instr.beginRound l; pure Next.skip : Sem Next).run P w = .ok .skip (setRec w l { r with state := .busy }) := by
    have hs := run_setObj (P := P) (o' := .loop { r with state := .busy }) h (by intro c t f hh; cases hh)
    simp only [Instr.beginRound, Sem.run_bind, run_getLoop h, Result.andThen_ok, hs, hr]
    rfl
  have h2 : (do Option.elim (some l) (stuck "beginRound: no round") Instr.beginRound; pure Next.skip : Sem Next).run P w = .ok .skip (setRec w l { r with state := .busy }) := h1
  simp only [stepG, stepG.exec, mkF, stepG.apply, Sem.runT_eq, if_true, h2]
  simp [Frame.finish]

theorem Runs.roundEnd {r : Loop} (h : w.heap[l]? = some (.loop r)) (hR : R (.bool true) (setRec w l { r with state := .ready, pending := none })) : Runs P fn (some l) [] a w R := by
  intro cs
  refine ⟨mkF fn (some l) a [], w, .bool true, _, ?_, hR, .refl _ _⟩
  intro c cs
  refine step_lone_go ?_
  have hs := run_setObj (P := P) (o' := .loop { r with state := .ready, pending := none }) h (by intro c t f hh; cases hh)
  have h1 : (Instr.endRound l none).run P w = .ok (.bool true) (setRec w l { r with state := .ready, pending := none }) := by
    simp only [Instr.endRound, Sem.run_bind, run_getLoop h, Result.andThen_ok]
    simp only [Option.isNone_none, if_true, hs]
    rfl
  simp [stepG, stepG.exec, mkF, h1, doReturn]
theorem Runs.roundRet {r : Loop} (h : w.heap[l]? = some (.loop r)) (hR : R (.bool false) (setRec w l { r with state := .done, pending := some .ret })) : Runs P fn (some l) (.code .ret :: k) a w R := by
  intro cs
  refine ⟨mkF fn (some l) a (.code .ret :: k), w, .bool false, _, ?_, hR, .refl _ _⟩
  intro c cs
  refine step_lone_go ?_
  have hs := run_setObj (P := P) (o' := .loop { r with state := .done, pending := some .ret }) h (by intro c t f hh; cases hh)
  have h1 : (Instr.endRound l (some .ret)).run P w = .ok (.bool false) (setRec w l { r with state := .done, pending := some .ret }) := by
    simp only [Instr.endRound, Sem.run_bind, run_getLoop h, Result.andThen_ok]
    simp only [Option.isNone_some, Bool.false_eq_true, if_false, hs]
    rfl
  simp [stepG, stepG.exec, mkF, h1, doReturn]
theorem Runs.roundExit {r : Loop} {id : Nat} (h : w.heap[l]? = some (.loop r)) (hx : exitTo id k = none) (hR : R (.bool false) (setRec w l { r with state := .done, pending := some (.exit id) })) : Runs P fn (some l) (.code (.exit id) :: k) a w R := by
  intro cs
  refine ⟨mkF fn (some l) a (.code (.exit id) :: k), w, .bool false, _, ?_, hR, .refl _ _⟩
  intro c cs
  refine step_lone_go ?_
  have hs := run_setObj (P := P) (o' := .loop { r with state := .done, pending := some (.exit id) }) h (by intro c t f hh; cases hh)
  have h1 : (Instr.endRound l (some (.exit id))).run P w = .ok (.bool false) (setRec w l { r with state := .done, pending := some (.exit id) }) := by
    simp only [Instr.endRound, Sem.run_bind, run_getLoop h, Result.andThen_ok]
    simp only [Option.isNone_some, Bool.false_eq_true, if_false, hs]
    rfl
  simp [stepG, stepG.exec, mkF, hx, h1, doReturn]
end round

/-! ### The loop -/

theorem run_yield {P : Program} {w : World} {l : Nat} {r : Loop} {args : List Value} (h : w.heap[l]? = some (.loop r)) (ha : args.length = r.params.size) :
    (do let d ← Deferred.ofValue (.func (.yield l) #[] #[]) args.toArray; invoke d.target d.args : Sem Next).run P w =
      .ok (.round l r.fn ((r.params.zip args.toArray).foldl (fun tmps (t, a) => tmps.setIfInBounds t a) r.tmps) r.assign r.body) w := by
  simp only [Deferred.ofValue, Sem.run_bind, Sem.run_pure, Result.andThen_ok, invoke, Instr.yield, run_getLoop h]
  simp [ha]

/-- The parameters of a round over what is known. -/
def paramEnv : List Nat → List Value → Env → Env
  | p :: ps, v :: vs, e => paramEnv ps vs ((p, v) :: e)
  | _, _, e => e

theorem fits_params {n : Nat} : ∀ (ps : List Nat) (vs : List Value) (e : Env) (t : Array Value), ps.all (fun p => Nat.blt p n) = true → Fits n e ⟨t, []⟩ → Fits n (paramEnv ps vs e) ⟨(ps.zip vs).foldl (fun tmps x => tmps.setIfInBounds x.1 x.2) t, []⟩
  | [], vs, e, t, _, h => by cases vs <;> simpa [paramEnv] using h
  | p :: ps, [], e, t, _, h => by simpa [paramEnv] using h
  | p :: ps, v :: vs, e, t, hp, h => by
    simp only [List.all_cons, Bool.and_eq_true] at hp
    have h1 := h.put (a := ⟨t, []⟩) (d := p) (by simpa using hp.1) v
    have := fits_params ps vs ((p, v) :: e) (t.setIfInBounds p v) hp.2 (by simpa [Act.put] using h1)
    simpa [paramEnv] using this

/-- A record that differs in its state alone. -/
def SameRec (r r0 : Loop) : Prop := r.fn = r0.fn ∧ r.tmps = r0.tmps ∧ r.params = r0.params ∧ r.assign = r0.assign ∧ r.body = r0.body

/-- What a round leaves: the iterator's blocks B, and all records from m on but the loop's own. -/
structure KpL (P : Program) (B : Nat → Prop) (m l : Nat) (w w' : World) : Prop where
  size : w.heap.size ≤ w'.heap.size
  keep : ∀ b, b < w.heap.size → B b → w'.heap[b]? = w.heap[b]?
  recs : ∀ b, b < w.heap.size → m ≤ b → b ≠ l → ¬ IsC P w b → w'.heap[b]? = w.heap[b]?

/-- What a round comes to, from its begin: Jn: it goes on; Jx c: it leaves by c. -/
def RoundR (P : Program) (l : Nat) (r0 : Loop) (m : Nat) (B : Nat → Prop) (w1 : World) (Jn : World → Prop) (Jx : Code → World → Prop) (v : Value) (w3 : World) : Prop :=
  ∃ r, w3.heap[l]? = some (.loop r) ∧ SameRec r r0 ∧ KpL P B m l w1 w3 ∧ (∃ w2, Cel m w2 w3 ∧
    ((v = .bool true ∧ r.state = .ready ∧ r.pending = none ∧ Jn w2) ∨ (∃ c, (c = .ret ∨ ∃ id, c = .exit id) ∧ v = .bool false ∧ r.state = .done ∧ r.pending = some c ∧ Jx c w2)))

/-- What a round may touch from the body's begin on: rows of cells that the iterator does not read. -/
def May (P : Program) (M : Nat → Prop) (B : Nat → Prop) (w : World) : Prop := ∀ b, M b → b < w.heap.size → IsC P w b ∧ ¬ B b

section loop
variable {P : Program} {fn : FuncId} {ro : Option Nat} {n : Nat} {e : Env} {ds : List Nat} {k : List Item} {w : World} {R : Value → World → Prop} {l m : Nat} {B : Nat → Prop} {Jn : World → Prop} {Jx : Code → World → Prop}

/-- A record that is known. -/
structure LoopIs (w : World) (l : Nat) (st : LoopState) (r : Loop) : Prop where
  at_ : w.heap[l]? = some (.loop r)
  st : r.state = st

theorem LoopIs.ch {w w' : World} {l : Nat} {st : LoopState} {r : Loop} {S : Nat → Prop} (h : LoopIs w l st r) (hc : Ch S w w') (hs : ¬ S l) : LoopIs w' l st r :=
  ⟨(hc.keep l (Array.getElem?_eq_some_iff.1 h.at_).1 hs).trans h.at_, h.st⟩

theorem RX.beginRound {w1 : World} {r : Loop} (hg : Grow w1 w) (hl : LoopIs w l .ready r) (hBl : ¬ B l) (hm : m ≤ l)
    (h : ∀ wb, Cel m w wb → wb.heap.size = w.heap.size → LoopIs wb l .busy { r with state := .busy } → RX P fn (some l) n k e ds wb (RoundR P l { r with state := .busy } m B wb Jn Jx)) :
    RX P fn (some l) n (.beginRound :: k) e ds w (RoundR P l r m B w1 Jn Jx) := by
  intro hw a hf hd
  have h1 := h (setRec w l { r with state := .busy }) (setRec_cel hl.at_ hm) (by simp [setRec]) ⟨setRec_at hl.at_, rfl⟩ (by simpa [wfT_cons, wfI] using hw) a hf hd
  refine Runs.beginRound hl.at_ hl.st (h1.mono ?_)
  rintro v w3 ⟨r3, hr3, hsr, hk, w2, hc, hv⟩
  refine ⟨r3, hr3, hsr, ⟨?_, ?_, ?_⟩, w2, hc, hv⟩
  · have := hk.size; have := hg.size; simp [setRec] at *; omega
  · intro b hb hB
    have hne : b ≠ l := fun he => hBl (he ▸ hB)
    rw [hk.keep b (by have := hg.size; simp [setRec]; omega) hB, setRec_ne hne, hg.keep b hb id]
  · intro b hb hle hne hn
    have h2 : (setRec w l { r with state := .busy }).heap[b]? = w1.heap[b]? := by rw [setRec_ne hne, hg.keep b hb id]
    rw [hk.recs b (by have := hg.size; simp [setRec]; omega) hle hne ?_, h2]
    rintro ⟨cs, T, f, hh, hf⟩
    exact hn ⟨cs, T, f, by rw [← h2]; exact hh, hf⟩

theorem Kp.of_ch {n : Nat} {w1 w2 : World} {M : Nat → Prop} (hc : Ch M w1 w2) (hM : May P M B w1) : Kp P B n w1 w2 :=
  ⟨hc.size, fun b hb hB => hc.keep b hb fun h => (hM b h hb).2 hB, fun b hb _ hn => hc.keep b hb fun h => hn (hM b h hb).1⟩
theorem Kp.trans {n : Nat} {w1 w2 w3 : World} (h : Kp P B n w1 w2) (k : Kp P B n w2 w3) : Kp P B n w1 w3 :=
  ⟨Nat.le_trans h.size k.size, fun b hb hB => (k.keep b (Nat.lt_of_lt_of_le hb h.size) hB).trans (h.keep b hb hB), fun b hb hle hn => by
    have h1 := h.recs b hb hle hn
    rw [k.recs b (Nat.lt_of_lt_of_le hb h.size) hle, h1]
    rintro ⟨cs, T, f, hh, hf⟩; exact hn ⟨cs, T, f, by rw [← h1]; exact hh, hf⟩⟩
theorem Kp.mono {n n' : Nat} {B' : Nat → Prop} {w1 w2 : World} (h : Kp P B n w1 w2) (hB : ∀ b, B' b → B b) (hn : n ≤ n') : Kp P B' n' w1 w2 :=
  ⟨h.size, fun b hb hb' => h.keep b hb (hB b hb'), fun b hb hle => h.recs b hb (Nat.le_trans hn hle)⟩
theorem Kp.of_grow {n : Nat} {w1 w2 : World} (hc : Grow w1 w2) : Kp P B n w1 w2 := .of_ch hc fun _ h => h.elim
theorem kp_of {w1 w2 : World} {l : Nat} {r' : Loop} (hk : Kp P B m w1 w2) (hBl : ¬ B l) : KpL P B m l w1 (setRec w2 l r') := by
  refine ⟨by have := hk.size; simp [setRec]; exact this, fun b hb hB => ?_, fun b hb hle hne hn => ?_⟩
  · have hne : b ≠ l := fun he => hBl (he ▸ hB)
    rw [setRec_ne hne, hk.keep b hb hB]
  · rw [setRec_ne hne, hk.recs b hb hle hn]

theorem LoopIs.stays {wb : World} {r : Loop} {st : LoopState} (hl : LoopIs wb l st r) (hk : Kp P B m wb w) (hm : m ≤ l) : w.heap[l]? = some (.loop r) := by
  have hlt := (Array.getElem?_eq_some_iff.1 hl.at_).1
  rw [hk.recs l hlt hm]; exact hl.at_
  rintro ⟨cs, T, f, hh, _⟩
  rw [hl.at_] at hh; cases hh
theorem RX.rdT {wb : World} {r : Loop} (hl : LoopIs wb l .busy r) (hk : Kp P B m wb w) (hBl : ¬ B l) (hm : m ≤ l) (hJ : Jn w) : RX P fn (some l) n [] e ds w (RoundR P l r m B wb Jn Jx) := by
  intro _ a hf hd
  have h2 := hl.stays hk hm
  exact Runs.roundEnd h2 ⟨_, setRec_at h2, ⟨rfl, rfl, rfl, rfl, rfl⟩, kp_of hk hBl, w, setRec_cel h2 hm, .inl ⟨rfl, rfl, rfl, hJ⟩⟩
theorem RX.rdRet {wb : World} {r : Loop} (hl : LoopIs wb l .busy r) (hk : Kp P B m wb w) (hBl : ¬ B l) (hm : m ≤ l) (hJ : Jx .ret w) : RX P fn (some l) n (.code .ret :: k) e ds w (RoundR P l r m B wb Jn Jx) := by
  intro _ a hf hd
  have h2 := hl.stays hk hm
  exact Runs.roundRet h2 ⟨_, setRec_at h2, ⟨rfl, rfl, rfl, rfl, rfl⟩, kp_of hk hBl, w, setRec_cel h2 hm, .inr ⟨_, .inl rfl, rfl, rfl, rfl, hJ⟩⟩
theorem RX.rdExit {id : Nat} {wb : World} {r : Loop} (hl : LoopIs wb l .busy r) (hx : exitTo id k = none) (hk : Kp P B m wb w) (hBl : ¬ B l) (hm : m ≤ l) (hJ : Jx (.exit id) w) : RX P fn (some l) n (.code (.exit id) :: k) e ds w (RoundR P l r m B wb Jn Jx) := by
  intro _ a hf hd
  have h2 := hl.stays hk hm
  exact Runs.roundExit h2 hx ⟨_, setRec_at h2, ⟨rfl, rfl, rfl, rfl, rfl⟩, kp_of hk hBl, w, setRec_cel h2 hm, .inr ⟨_, .inr ⟨id, rfl⟩, rfl, rfl, rfl, hJ⟩⟩

/-- Where a loop's deferred calls would lie. -/
def Dfr (w : World) (d : Nat) : Prop := w.heap[d]? = some (.deferred (some []))
theorem Dfr.ch {w w' : World} {d : Nat} {S : Nat → Prop} (h : Dfr w d) (hc : Ch S w w') (hs : ¬ S d) : Dfr w' d :=
  (hc.keep d (Array.getElem?_eq_some_iff.1 h).1 hs).trans h

theorem Runs.endLoop {P : Program} {fn : FuncId} {ro : Option Nat} {a : Act} {k : List Item} {w : World} {R : Value → World → Prop} {l : Nat} {r : Loop} (h : w.heap[l]? = some (.loop r)) (hb : r.state ≠ .busy)
    (n : Runs P fn ro ((r.pending.map Item.code).toList ++ k) a (setRec w l { r with state := .exhausted }) R) : Runs P fn ro (.endRangeFunc l :: k) a w R := by
  refine .step (fun cs => step_lone_go ?_) n
  have hs := run_setObj (P := P) (o' := .loop { r with state := .exhausted }) h (by intro c t f hh; cases hh)
  have h1 : (Instr.endLoop l).run P w = .ok r.pending (setRec w l { r with state := .exhausted }) := by
    have : (r.state == LoopState.busy) = false := by cases hst : r.state <;> simp_all <;> rfl
    simp only [Instr.endLoop, Sem.run_bind, run_getLoop h, Result.andThen_ok, this, Bool.false_eq_true, if_false, Sem.run_pure, hs]
    rfl
  simp [stepG, stepG.exec, mkF, h1]

/-- The iterator is asked; behind it the loop's record tells how to go on. -/
theorem Runs.rangeCall {P : Program} {fn : FuncId} {ro : Option Nat} {a a' : Act} {k : List Item} {w w1 : World} {R : Value → World → Prop} {l gf : Nat} {cap : List Value} {f : Operand} {params : Array Tmp} {assign body : Code} {mk : List Deferred}
    (hfv : a.eval f = .func (.func gf) #[] cap.toArray) (hf : isFn P gf = true) (hen : (Instr.enterLoop fn a.tmps params assign body ro).run P w = .ok (l, mk) w1) (ha' : a' = { a with defers := mk ++ a.defers })
    (hc : Calls P gf ((.func (.yield l) #[] #[]) :: cap).toArray w1 (Ret fun _ w2 => Runs P fn ro (.endRangeFunc l :: k) a' w2 R)) : Runs P fn ro (.code (.rangeFunc f params assign body) :: k) a w R := by
  subst ha'
  intro cs
  have hst : Go.step P (lone (mkF fn ro a (.code (.rangeFunc f params assign body) :: k)) cs w) =
      .next (lone (Frame.enter P gf ((.func (.yield l) #[] #[]) :: cap).toArray .normal) (mkF fn ro { a with defers := mk ++ a.defers } (.inRangeFunc l :: k) :: cs) w1) := by
    refine step_lone_go ?_
    have he := congrFun (mkF_eval fn ro { a with defers := mk ++ a.defers } (.inRangeFunc l :: k)) f
    simp only [mkF] at he
    have he2 : ({ a with defers := mk ++ a.defers } : Act).eval f = a.eval f := by cases f <;> rfl
    rw [he2, hfv] at he
    simp only [stepG, stepG.exec, mkF, Sem.runT_eq, hen, GStep.bare_after]
    simp only [stepG.apply, Sem.runT_eq, if_true]
    have hinv : (do let d ← resolve (Frame.eval { fn := fn, tmps := a.tmps, todo := .inRangeFunc l :: k, defers := mk ++ a.defers, mode := .run, kind := .normal, roundOf := ro }) { callee := .value f, args := #[.const (.func (.yield l) #[] #[])], argTypes := #[] } 0; invoke d.target d.args : Sem Next).run P w1 =
        .ok (.enter gf ((.func (.yield l) #[] #[]) :: cap).toArray) w1 := by
      simp only [resolve, he]
      have : (#[Operand.const (.func (.yield l) #[] #[])] : Array Operand).map (Frame.eval { fn := fn, tmps := a.tmps, todo := .inRangeFunc l :: k, defers := mk ++ a.defers, mode := .run, kind := .normal, roundOf := ro }) = #[.func (.yield l) #[] #[]] := by simp [Frame.eval]
      simp only [this, Deferred.ofValue, Sem.run_bind, Sem.run_pure, Result.andThen_ok, invoke]
      rw [callFunc_isFn hf]
      simp
    simp [hinv]
  obtain ⟨ee, w2, fr, hR, hs, _, hl⟩ := hc (mkF fn ro { a with defers := mk ++ a.defers } (.inRangeFunc l :: k) :: cs)
  cases ee with
  | returned v =>
    obtain ⟨fr2, w3, v2, w4, hfin, r, s⟩ := hR cs
    have h2 := step_leave_returned (c := mkF fn ro { a with defers := mk ++ a.defers } (.inRangeFunc l :: k)) (cs := cs) hl
    have h3 : (mkF fn ro { a with defers := mk ++ a.defers } (.inRangeFunc l :: k)).finish v = mkF fn ro { a with defers := mk ++ a.defers } (.endRangeFunc l :: k) := by simp [Frame.finish, mkF]
    rw [h3] at h2
    exact ⟨fr2, w3, v2, w4, hfin, r, .head hst (.trans hs (.head h2 s))⟩
  | panicked c => exact hR.elim
  | outgrown => exact hR.elim

theorem SameRec.trans {r1 r2 r3 : Loop} (h : SameRec r1 r2) (k : SameRec r2 r3) : SameRec r1 r3 :=
  ⟨h.1.trans k.1, h.2.1.trans k.2.1, h.2.2.1.trans k.2.2.1, h.2.2.2.1.trans k.2.2.2.1, h.2.2.2.2.trans k.2.2.2.2⟩

/-- The whole loop, over the machine's states. -/
theorem rangeCore {P : Program} {fn : FuncId} {ro : Option Nat} {a a' : Act} {k : List Item} {w w1 : World} {R : Value → World → Prop} {l gf m : Nat} {cap : List Value} {f : Operand} {params : Array Tmp} {assign body : Code} {mk : List Deferred} {r0 : Loop}
    {items : List (List Value)} {B D : Nat → Prop} (J : Nat → World → Prop) (Jx : Code → World → Prop)
    (hfv : a.eval f = .func (.func gf) #[] cap.toArray) (hf : isFn P gf = true) (hen : (Instr.enterLoop fn a.tmps params assign body ro).run P w = .ok (l, mk) w1) (ha' : a' = { a with defers := mk ++ a.defers })
    (hl0 : w1.heap[l]? = some (.loop r0)) (hst : r0.state = .ready) (hpe : r0.pending = none) (hfn : r0.fn = fn) (htm : r0.tmps = a.tmps) (hpa : r0.params = params) (has : r0.assign = assign) (hbo : r0.body = body)
    (hsz : w1.heap.size = l + 1) (hml : m ≤ l) (hD : ∀ d, D d → m ≤ d ∧ d < l) (hD1 : ∀ d, D d → Dfr w1 d)
    (hit : IterOk P gf cap items B w1) (har : ∀ it ∈ items, it.length = params.size)
    (sJ : ∀ i w1 w2, J i w1 → Cel m w1 w2 → J i w2) (sJx : ∀ c w1 w2, Jx c w1 → Cel m w1 w2 → Jx c w2) (h0 : J 0 w1)
    (round : ∀ i it w2 r, items[i]? = some it → J i w2 → LoopIs w2 l .ready r → l < w2.heap.size → Runs P fn (some l) [.code assign, .beginRound, .code body] ⟨(params.toList.zip it).foldl (fun tmps x => tmps.setIfInBounds x.1 x.2) a.tmps, []⟩ w2 (RoundR P l r m B w2 (J (i + 1)) Jx))
    (done : ∀ w2, J items.length w2 → (∀ d, D d → Dfr w2 d) → Runs P fn ro k a' w2 R)
    (jump : ∀ c w2, (c = .ret ∨ ∃ id, c = .exit id) → Jx c w2 → (∀ d, D d → Dfr w2 d) → Runs P fn ro (.code c :: k) a' w2 R) :
    Runs P fn ro (.code (.rangeFunc f params assign body) :: k) a w R := by
  refine Runs.rangeCall hfv hf hen ha' ?_
  let J2 : Nat → World → Prop := fun i w2 => J i w2 ∧ (∃ r, w2.heap[l]? = some (.loop r) ∧ SameRec r r0 ∧ r.state = .ready ∧ r.pending = none) ∧ ∀ d, D d → Dfr w2 d
  let Jx2 : World → Prop := fun w2 => ∃ c, (c = .ret ∨ ∃ id, c = .exit id) ∧ Jx c w2 ∧ (∃ r, w2.heap[l]? = some (.loop r) ∧ r.state = .done ∧ r.pending = some c) ∧ ∀ d, D d → Dfr w2 d
  have lowL : ∀ {w2 w3 : World} {r : Loop}, Cel w1.heap.size w2 w3 → w2.heap[l]? = some (.loop r) → w3.heap[l]? = some (.loop r) := fun hc hr => by
    rw [hc.low l (by omega) (Array.getElem?_eq_some_iff.1 hr).1]; exact hr
  have lowD : ∀ {w2 w3 : World} {d : Nat}, Cel w1.heap.size w2 w3 → d < l → Dfr w2 d → Dfr w3 d := fun hc hd hr => by
    unfold Dfr at *
    rw [hc.low _ (by omega) (Array.getElem?_eq_some_iff.1 hr).1]; exact hr
  have hm1 : m ≤ w1.heap.size := by omega
  have key := hit (.func (.yield l) #[] #[]) J2 Jx2 rfl
    (fun i w2 w3 ⟨hj, ⟨r, hr, hs⟩, hd⟩ hc => ⟨sJ i w2 w3 hj (hc.mono hm1), ⟨r, lowL hc hr, hs⟩, fun d hdd => lowD hc (hD d hdd).2 (hd d hdd)⟩)
    (fun w2 w3 ⟨c, hc1, hj, ⟨r, hr, hs⟩, hd⟩ hc => ⟨c, hc1, sJx c w2 w3 hj (hc.mono hm1), ⟨r, lowL hc hr, hs⟩, fun d hdd => lowD hc (hD d hdd).2 (hd d hdd)⟩)
    (fun i w2 it hi ⟨hj, ⟨r, hr, hsr, hst, hpe⟩, hd⟩ => by
      have hlen : it.length = r.params.size := by rw [hsr.2.2.1, hpa]; exact har it (List.mem_of_getElem? hi)
      refine ⟨_, w2, run_yield hr hlen, ?_⟩
      have hfold : (r.params.zip it.toArray).foldl (fun tmps (t, a) => tmps.setIfInBounds t a) r.tmps = (params.toList.zip it).foldl (fun tmps x => tmps.setIfInBounds x.1 x.2) a.tmps := by
        rw [hsr.2.2.1, hpa, hsr.2.1, htm, ← Array.foldl_toList]
        simp
      have hrun := round i it w2 r hi hj ⟨hr, hst⟩ (Array.getElem?_eq_some_iff.1 hr).1
      show Enters P _ (.round l r.fn _ r.assign r.body) w2
      rw [hfold, hsr.1, hfn, hsr.2.2.2.1, has, hsr.2.2.2.2, hbo]
      refine Runs.mono hrun ?_
      rintro v w3 ⟨r3, hr3, hsr3, hk, w4, hc4, hv⟩
      have hnoD : ∀ d, D d → Dfr w3 d := fun d hdd => by
        have hdl := hD d hdd
        have hd2 := hd d hdd
        unfold Dfr at *
        rw [hk.recs d (Array.getElem?_eq_some_iff.1 hd2).1 hdl.1 (by omega) ?_]; exact hd2
        rintro ⟨cs, T, ff, hh, _⟩; rw [hd2] at hh; cases hh
      refine ⟨⟨hk.size, hk.keep, fun b hb hle hn => hk.recs b hb (by omega) (by omega) hn⟩, ?_⟩
      rcases hv with ⟨rfl, h1, h2, h3⟩ | ⟨c, hc, rfl, h1, h2, h3⟩
      · exact .inl ⟨rfl, sJ _ _ _ h3 hc4, ⟨r3, hr3, hsr3.trans hsr, h1, h2⟩, hnoD⟩
      · exact .inr ⟨rfl, c, hc, sJx _ _ _ h3 hc4, ⟨r3, hr3, h1, h2⟩, hnoD⟩)
    ⟨h0, ⟨r0, hl0, ⟨rfl, rfl, rfl, rfl, rfl⟩, hst, hpe⟩, hD1⟩
  refine key.mono (Ret.mono ?_)
  rintro v w2 ⟨_, ⟨hj, ⟨r, hr, hsr, hs, hp⟩, hd⟩ | ⟨c, hc, hj, ⟨r, hr, hs, hp⟩, hd⟩⟩
  · refine Runs.endLoop hr (by rw [hs]; intro h; cases h) ?_
    rw [hp]
    exact done _ (sJ _ _ _ hj (setRec_cel hr hml)) fun d hdd => (hd d hdd).ch (setRec_ch w2 l _) (by have := (hD d hdd).2; omega)
  · refine Runs.endLoop hr (by rw [hs]; intro h; cases h) ?_
    rw [hp]
    exact jump c _ hc (sJx _ _ _ hj (setRec_cel hr hml)) fun d hdd => (hd d hdd).ch (setRec_ch w2 l _) (by have := (hD d hdd).2; omega)

/-- A loop in a function's own frame. -/
theorem RX.rangeF {gf : Nat} {cap : List Value} {f : Operand} {params : Array Tmp} {assign body : Code} {items : List (List Value)} {B : Nat → Prop} (J : Nat → World → Prop) (Jx : Code → World → Prop)
    (hfv : e.ev f = some (.func (.func gf) #[] cap.toArray)) (hf : isFn P gf = true) (hit : ∀ w1, Grow w w1 → w.heap.size < w1.heap.size → IterOk P gf cap items B w1) (har : ∀ it ∈ items, it.length = params.size) (hB : ∀ b, w.heap.size ≤ b → ¬ B b)
    (sJ : ∀ i w1 w2, J i w1 → Cel w.heap.size w1 w2 → J i w2) (sJx : ∀ c w1 w2, Jx c w1 → Cel w.heap.size w1 w2 → Jx c w2) (h0 : J 0 w)
    (round : ∀ l i it w1 r, items[i]? = some it → J i w1 → LoopIs w1 l .ready r → w.heap.size ≤ l → l < w1.heap.size → ¬ B l → RX P fn (some l) n [.code assign, .beginRound, .code body] (paramEnv params.toList it e) [] w1 (RoundR P l r w.heap.size B w1 (J (i + 1)) Jx))
    (done : ∀ w1, J items.length w1 → Dfr w1 w.heap.size → RX P fn none n k e (w.heap.size :: ds) w1 R)
    (jump : ∀ c w1, (c = .ret ∨ ∃ id, c = .exit id) → Jx c w1 → Dfr w1 w.heap.size → RX P fn none n (.code c :: k) e (w.heap.size :: ds) w1 R) :
    RX P fn none n (.code (.rangeFunc f params assign body) :: k) e ds w R := by
  intro hw a hfi hd
  have hw1 : (params.toList.all (fun p => Nat.blt p n) = true ∧ wfC n assign = true ∧ wfC n body = true) ∧ wfT n k = true := by
    simp only [wfT_cons, wfI, wfC, Bool.and_eq_true] at hw
    exact ⟨⟨hw.1.1.1, hw.1.1.2, hw.1.2⟩, hw.2⟩
  let L0 : Loop := { state := .ready, pending := none, fn, tmps := a.tmps, params, assign, body, defers := w.heap.size }
  let wa := (w.alloc (.deferred (some []))).alloc (.loop L0)
  have hg : Grow w wa := (Ch.alloc Nil w _).trans (Ch.alloc Nil _ _)
  have hsz : wa.heap.size = w.heap.size + 2 := by simp [wa]
  have hat : wa.heap[w.heap.size + 1]? = some (.loop L0) := by
    have h1 : (w.heap.push (.deferred (some []))).size = w.heap.size + 1 := by simp
    show ((w.heap.push (.deferred (some []))).push (.loop L0))[w.heap.size + 1]? = _
    rw [← h1]; exact Array.getElem?_push_size
  have hdat : Dfr wa w.heap.size := by
    show ((w.heap.push (.deferred (some []))).push (.loop L0))[w.heap.size]? = _
    rw [Array.getElem?_push, if_neg (by simp)]; exact Array.getElem?_push_size
  refine rangeCore (D := (· = w.heap.size)) (m := w.heap.size) (r0 := L0) (l := w.heap.size + 1) (w1 := wa) (mk := [{ target := .collected w.heap.size, args := #[] }]) (a' := { a with defers := [{ target := .collected w.heap.size, args := #[] }] ++ a.defers }) (B := B) J Jx (hfi.ev hfv) hf ?_ rfl hat rfl rfl rfl rfl rfl rfl rfl (by rw [hsz]) (by omega) (by rintro d rfl; omega) (by rintro d rfl; exact hdat) (hit wa hg (by omega)) har sJ sJx (sJ 0 w wa h0 (.of_grow hg)) ?_ ?_ ?_
  · simp only [Instr.enterLoop, Sem.run_bind, run_newObj, Result.andThen_ok, Sem.run_pure, World.alloc_eq]
    simp [wa, L0]
  · intro i it w2 r hi hj hl hlt
    refine round (w.heap.size + 1) i it w2 r hi hj hl (by omega) hlt (hB _ (by omega)) (by simp [wfT_cons, wfI, hw1.1.2.1, hw1.1.2.2]; rfl) _ ?_ rfl
    exact fits_params params.toList it e a.tmps hw1.1.1 ⟨hfi.1, hfi.2⟩
  · intro w2 hj hdd
    exact done w2 hj (hdd _ rfl) hw1.2 _ ⟨hfi.1, hfi.2⟩ (by simp [marks, hd])
  · intro c w2 hc hj hdd
    refine jump c w2 hc hj (hdd _ rfl) ?_ _ ⟨hfi.1, hfi.2⟩ (by simp [marks, hd])
    rcases hc with rfl | ⟨id, rfl⟩ <;> simp [wfT_cons, wfI, wfC, hw1.2]

/-- A loop within a round of another. -/
theorem RX.rangeR {l0 : Nat} {rr : Loop} {st : LoopState} {gf : Nat} {cap : List Value} {f : Operand} {params : Array Tmp} {assign body : Code} {items : List (List Value)} {B : Nat → Prop} (J : Nat → World → Prop) (Jx : Code → World → Prop) (hl0 : LoopIs w l0 st rr)
    (hfv : e.ev f = some (.func (.func gf) #[] cap.toArray)) (hf : isFn P gf = true) (hit : ∀ w1, Grow w w1 → w.heap.size < w1.heap.size → IterOk P gf cap items B w1) (har : ∀ it ∈ items, it.length = params.size) (hB : ∀ b, w.heap.size ≤ b → ¬ B b)
    (sJ : ∀ i w1 w2, J i w1 → Cel w.heap.size w1 w2 → J i w2) (sJx : ∀ c w1 w2, Jx c w1 → Cel w.heap.size w1 w2 → Jx c w2) (h0 : J 0 w)
    (round : ∀ l i it w1 r, items[i]? = some it → J i w1 → LoopIs w1 l .ready r → w.heap.size ≤ l → l < w1.heap.size → ¬ B l → RX P fn (some l) n [.code assign, .beginRound, .code body] (paramEnv params.toList it e) [] w1 (RoundR P l r w.heap.size B w1 (J (i + 1)) Jx))
    (done : ∀ w1, J items.length w1 → RX P fn (some l0) n k e [] w1 R)
    (jump : ∀ c w1, (c = .ret ∨ ∃ id, c = .exit id) → Jx c w1 → RX P fn (some l0) n (.code c :: k) e [] w1 R) :
    RX P fn (some l0) n (.code (.rangeFunc f params assign body) :: k) e [] w R := by
  intro hw a hfi hd
  have hw1 : (params.toList.all (fun p => Nat.blt p n) = true ∧ wfC n assign = true ∧ wfC n body = true) ∧ wfT n k = true := by
    simp only [wfT_cons, wfI, wfC, Bool.and_eq_true] at hw
    exact ⟨⟨hw.1.1.1, hw.1.1.2, hw.1.2⟩, hw.2⟩
  let L0 : Loop := { state := .ready, pending := none, fn, tmps := a.tmps, params, assign, body, defers := rr.defers }
  let wa := w.alloc (.loop L0)
  have hg : Grow w wa := Ch.alloc Nil w _
  have hsz : wa.heap.size = w.heap.size + 1 := by simp [wa]
  have hat : wa.heap[w.heap.size]? = some (.loop L0) := by
    show (w.heap.push _)[w.heap.size]? = _
    simp
  refine rangeCore (D := fun _ => False) (m := w.heap.size) (r0 := L0) (l := w.heap.size) (w1 := wa) (mk := []) (a' := a) (B := B) J Jx (hfi.ev hfv) hf ?_ (by cases a; rfl) hat rfl rfl rfl rfl rfl rfl rfl (by rw [hsz]) (by omega) (fun d h => h.elim) (fun d h => h.elim) (hit wa hg (by omega)) har sJ sJx (sJ 0 w wa h0 (.of_grow hg)) ?_ ?_ ?_
  · simp only [Instr.enterLoop, Sem.run_bind, run_getLoop hl0.at_, run_newObj, Result.andThen_ok, Sem.run_pure, World.alloc_eq]
    simp [wa, L0]
  · intro i it w2 r hi hj hl hlt
    refine round w.heap.size i it w2 r hi hj hl (by omega) hlt (hB _ (by omega)) (by simp [wfT_cons, wfI, hw1.1.2.1, hw1.1.2.2]; rfl) _ ?_ rfl
    exact fits_params params.toList it e a.tmps hw1.1.1 ⟨hfi.1, hfi.2⟩
  · intro w2 hj hdd
    exact done w2 hj hw1.2 _ hfi hd
  · intro c w2 hc hj hdd
    refine jump c w2 hc hj ?_ _ hfi hd
    rcases hc with rfl | ⟨id, rfl⟩ <;> simp [wfT_cons, wfI, wfC, hw1.2]

/-! ### The end of a function that held such a loop -/

def takeAll (w : World) (ds : List Nat) : World := ds.foldl (fun w d => { w with heap := w.heap.setIfInBounds d (.deferred none) }) w

theorem step_take {P : Program} {fr : Frame} {d : Nat} {rest : List Deferred} {cs : List Frame} {w : World} (hm : fr.mode = .returning) (hd : fr.defers = { target := .collected d, args := #[] } :: rest) (h : Dfr w d) :
    Go.step P (lone fr cs w) = .next (lone { fr with defers := rest } cs { w with heap := w.heap.setIfInBounds d (.deferred none) }) := by
  refine step_lone_go ?_
  have h1 : (Instr.takeDeferred d).run P w = .ok [] { w with heap := w.heap.setIfInBounds d (.deferred none) } := by
    have hs := run_setObj (P := P) (o' := .deferred none) h (by intro c t f hh; cases hh)
    have hg : (getObj d).run P w = .ok (.deferred (some [])) w := by
      unfold Dfr at h
      simp [getObj, Sem.run, h]
    simp only [Instr.takeDeferred, Sem.run_bind, hg, Result.andThen_ok, hs, Sem.run_pure]
  simp [stepG, unwind, hm, hd, h1]

theorem take_steps {P : Program} : ∀ (ds : List Nat) (fr : Frame) (cs : List Frame) (w : World), fr.mode = .returning → fr.defers = marks ds → (∀ d ∈ ds, Dfr w d) → ds.Nodup → Steps P (lone fr cs w) (lone { fr with defers := [] } cs (takeAll w ds))
  | [], fr, cs, w, _, hd, _, _ => by
    have : { fr with defers := [] } = fr := by cases fr; simp [marks] at hd; simp [hd]
    rw [this]; exact .refl _ _
  | d :: ds, fr, cs, w, hm, hd, hD, hn => by
    refine .head (step_take hm (by simpa [marks] using hd) (hD d (by simp))) ?_
    have := take_steps (P := P) ds { fr with defers := marks ds } cs { w with heap := w.heap.setIfInBounds d (.deferred none) } hm rfl (fun d' hd' => ?_) (List.nodup_cons.1 hn).2
    · exact this
    · have hne : d ≠ d' := fun he => (List.nodup_cons.1 hn).1 (he ▸ hd')
      have := hD d' (by simp [hd'])
      unfold Dfr at *
      simpa [Array.getElem?_setIfInBounds_ne hne] using this

theorem takeAll_ch : ∀ (ds : List Nat) (w : World), Ch (· ∈ ds) w (takeAll w ds) ∧ (takeAll w ds).heap.size = w.heap.size
  | [], w => ⟨.refl _ _, rfl⟩
  | d :: ds, w => by
    obtain ⟨h1, h2⟩ := takeAll_ch ds { w with heap := w.heap.setIfInBounds d (.deferred none) }
    refine ⟨?_, by rw [takeAll, List.foldl_cons]; exact h2.trans (by simp)⟩
    have h0 : Ch (· ∈ d :: ds) w { w with heap := w.heap.setIfInBounds d (.deferred none) } :=
      ⟨rfl, rfl, rfl, by simp, fun b hb hs => by
        have hne : d ≠ b := fun he => hs (by simp [he])
        simp [Array.getElem?_setIfInBounds_ne hne]⟩
    exact h0.trans' h1 (fun b _ hb => by simp [hb])

theorem takeAll_cel {ds : List Nat} {w w1 : World} {m : Nat} (hc : Ch (· ∈ ds) w w1) (hD : ∀ d ∈ ds, Dfr w d) (hm : ∀ d ∈ ds, m ≤ d) : Cel m w w1 :=
  ⟨hc.os, hc.tape, hc.output, hc.size, fun b hb hs => hc.keep b hs fun h => by have := hm b h; omega, fun b cs T f h => by
    rw [hc.keep b (Array.getElem?_eq_some_iff.1 h).1 fun hd => ?_]
    · exact h
    · have := hD b hd; unfold Dfr at this; rw [this] at h; cases h⟩

theorem Runs.retD {P : Program} {fn : FuncId} {a : Act} {k : List Item} {w : World} {R : Value → World → Prop} {f : Func} {ds : List Nat} {v : Value} (hf : P.funcs[fn]? = some f) (hd : a.defers = marks ds) (hD : ∀ d ∈ ds, Dfr w d) (hn : ds.Nodup)
    (hr : (results f a.tmps).run P (takeAll w ds) = .ok v (takeAll w ds)) (r : R v (takeAll w ds)) : Runs P fn none (.code .ret :: k) a w R := by
  intro cs
  refine ⟨{ mkF fn none a (.code .ret :: k) with mode := .returning, defers := [] }, takeAll w ds, v, takeAll w ds, ⟨⟨rfl, rfl, rfl, f, hf, hr⟩, rfl, rfl⟩, r, ?_⟩
  refine .head (m₁ := lone { mkF fn none a (.code .ret :: k) with mode := .returning } cs w) (step_lone_go (by simp [stepG, stepG.exec, mkF])) ?_
  exact take_steps ds _ cs w rfl hd hD hn
theorem Runs.finD {P : Program} {fn : FuncId} {a : Act} {w : World} {R : Value → World → Prop} {f : Func} {ds : List Nat} {v : Value} (hf : P.funcs[fn]? = some f) (hd : a.defers = marks ds) (hD : ∀ d ∈ ds, Dfr w d) (hn : ds.Nodup)
    (hr : (results f a.tmps).run P (takeAll w ds) = .ok v (takeAll w ds)) (r : R v (takeAll w ds)) : Runs P fn none [] a w R := by
  intro cs
  refine ⟨{ mkF fn none a [] with mode := .returning, defers := [] }, takeAll w ds, v, takeAll w ds, ⟨⟨rfl, rfl, rfl, f, hf, hr⟩, rfl, rfl⟩, r, ?_⟩
  refine .head (m₁ := lone { mkF fn none a [] with mode := .returning } cs w) (step_lone_go (by simp [stepG, stepG.exec, mkF])) ?_
  exact take_steps ds _ cs w rfl hd hD hn

/-- The end of a function: its loops' blocks of deferred calls are taken. -/
theorem RX.rtD {f : Func} {rs : List ResultVar} {vs : List Value} (hfn : P.funcs[fn]? = some f) (hr : f.results = rs.toArray) (hD : ∀ d ∈ ds, Dfr w d) (hn : ds.Nodup)
    (h : ∀ w1, Ch (· ∈ ds) w w1 → (∀ m, (∀ d ∈ ds, m ≤ d) → Cel m w w1) → w1.heap.size = w.heap.size → ResOk P e w1 rs vs ∧ R (tup vs) w1) : RX P fn none n (.code .ret :: k) e ds w R := by
  intro _ a hf hd
  obtain ⟨h1, h2⟩ := takeAll_ch ds w
  obtain ⟨h3, h4⟩ := h _ h1 (fun m hm => takeAll_cel h1 hD hm) h2
  exact .retD hfn hd hD hn (results_run hf hr h3) h4
theorem RX.rtDEnd {f : Func} {rs : List ResultVar} {vs : List Value} (hfn : P.funcs[fn]? = some f) (hr : f.results = rs.toArray) (hD : ∀ d ∈ ds, Dfr w d) (hn : ds.Nodup)
    (h : ∀ w1, Ch (· ∈ ds) w w1 → (∀ m, (∀ d ∈ ds, m ≤ d) → Cel m w w1) → w1.heap.size = w.heap.size → ResOk P e w1 rs vs ∧ R (tup vs) w1) : RX P fn none n [] e ds w R := by
  intro _ a hf hd
  obtain ⟨h1, h2⟩ := takeAll_ch ds w
  obtain ⟨h3, h4⟩ := h _ h1 (fun m hm => takeAll_cel h1 hD hm) h2
  exact .finD hfn hd hD hn (results_run hf hr h3) h4
end loop
end Go.Proofs.YtmcfbinkofoagaaGreat.Sx
namespace Go.Proofs.YtmcfbinkofoagaaGreat.Sx
open Go Go.RowKit

/-- The value of a type with these cells. -/
def valOf (P : Program) (t : TypeId) (cs : List Value) : Value := match P.underlying t with
  | some (.struct _) | some (.array _ _) => .agg cs.toArray
  | _ => cs.headD undef
/-- Cells of a type of bools and numbers, or of structs and arrays of such. -/
def eqOk (P : Program) : Nat → TypeId → List Value → Bool
  | 0, _, _ => false
  | d + 1, t, cs => match P.underlying t with
    | some .bool => match cs with | [.bool _] => true | _ => false
    | some (.int _) => match cs with | [.int _ _] => true | _ => false
    | some (.array n e) => match P.info? e with
      | some _ => (List.range n).all fun i => eqOk P d e ((cs.drop (i * P.cellsOf e)).take (P.cellsOf e))
      | none => false
    | some (.struct fs) => !P.stoodInHeld t && fs.toList.all fun f => f.name != "_" && eqOk P d f.type ((cs.drop f.offset).take (P.cellsOf f.type))
    | _ => false
theorem run_part_of {P : Program} {d : Nat} {e : TypeId} {cs : List Value} {off : Nat} (h : eqOk P d e ((cs.drop off).take (P.cellsOf e)) = true) (w : World) :
    (part e cs.toArray off).run P w = .ok (valOf P e ((cs.drop off).take (P.cellsOf e))) w := by
  cases d with
  | zero => simp [eqOk] at h
  | succ d =>
    unfold eqOk at h
    unfold valOf
    cases hu : P.underlying e with
    | none => simp [hu] at h
    | some kd =>
      obtain ⟨i, hi⟩ := info_of_underlying hu
      cases kd <;> simp only [hu] at h ⊢ <;> try (cases h; done)
      case bool =>
        split at h
        · rename_i b hb
          have := Go.getElem?_of_chunk (xs := cs.toArray) (by simpa using hb)
          rw [hb]; simp [Go.part, isAgg, run_underlying hu]
          simp at this; simp [this]
        · cases h
      case int =>
        split at h
        · rename_i b c hb
          have := Go.getElem?_of_chunk (xs := cs.toArray) (by simpa using hb)
          rw [hb]; simp [Go.part, isAgg, run_underlying hu]
          simp at this; simp [this]
        · cases h
      all_goals
        have hc : P.cellsOf e = i.size := by simp [Program.cellsOf, hi]
        simp [Go.part, isAgg, run_underlying hu, sizeOf, typeInfo, hi, hc]
theorem eq_self {P : Program} (k : Nat) : ∀ (d : Nat) (t : TypeId) (cs : List Value) (w : World), eqOk P d t cs = true → (Op.equalIn (k + d) t (valOf P t cs) (valOf P t cs)).run P w = .ok true w
  | 0, _, _, _, h => by simp [eqOk] at h
  | d + 1, t, cs, w, h => by
    unfold eqOk at h
    unfold valOf
    cases hu : P.underlying t with
    | none => simp [hu] at h
    | some kd =>
      cases kd <;> simp only [hu] at h ⊢ <;> try (cases h; done)
      case bool =>
        split at h
        · simp [Op.equalIn, run_underlying hu]
        · cases h
      case int =>
        split at h
        · simp [Op.equalIn, run_underlying hu]
        · cases h
      case array n e =>
        split at h
        · rename_i i hi
          rw [← Nat.add_assoc, Go.run_equalIn_array w (k + d) _ _ hu hi]
          generalize List.range n = is at h
          induction is with
          | nil => simp [Op.eqItems]
          | cons j r ih =>
            simp only [List.all_cons, Bool.and_eq_true] at h
            simp only [Op.eqItems, Sem.run_bind, run_part_of h.1 w, Result.andThen_ok, eq_self k d e _ w h.1]
            simpa using ih h.2
        · cases h
      case struct fs =>
        simp only [Bool.and_eq_true, Bool.not_eq_true'] at h
        have hfs : P.fieldsOf t = fs := by simp [Program.fieldsOf, hu]
        rw [← Nat.add_assoc, Go.run_equalIn_struct w (k + d) t _ _ (by rw [hfs]; exact hu) h.1, hfs]
        have h := h.2
        generalize fs.toList = is at h
        induction is with
        | nil => simp [Op.eqFields]
        | cons f r ih =>
          simp only [List.all_cons, Bool.and_eq_true] at h
          have hn : f.name ≠ "_" := by simpa using h.1.1
          simp only [Op.eqFields, hn, ne_eq, not_false_eq_true, if_true, Sem.run_bind, run_part_of h.1.2 w, Result.andThen_ok, eq_self k d f.type _ w h.1.2]
          simpa using ih h.2
/-- The type is a struct or an array, of which no part is an interface. -/
def eqT (P : Program) (t : TypeId) : Bool := !(P.eqGuardType P.depth t) && match P.underlying t with | some (.struct _) | some (.array _ _) => true | _ => false
theorem run_eqSelf {P : Program} {t : TypeId} {vs : List Value} (ht : eqT P t = true) (h : eqOk P 20 t vs = true) (w : World) : (Op.equal t (.agg vs.toArray) (.agg vs.toArray)).run P w = .ok true w := by
  have h2 := eq_self 9980 20 t vs w h
  have hv : valOf P t vs = .agg vs.toArray := by
    unfold eqT at ht
    rw [Bool.and_eq_true] at ht
    have h3 := ht.2
    unfold valOf
    split at h3 <;> simp_all
  rw [hv] at h2
  exact h2
theorem V.eqS {P : Program} {e : Env} {W : World → Prop} {ty : TypeId} {x y : Operand} {t t' : TypeId} {vs : List Value} (ht : eqT P t = true) (h : eqOk P 20 t vs = true) (hx : e.ev x = some (.agg vs.toArray)) (hy : e.ev y = some (.agg vs.toArray)) : ReadOp P (.binOp .eql t x y t') ty e W (.bool true) :=
  ⟨rfl, fun ρ hρ d pos af g w _ => by
    have hg : P.eqGuardType P.depth t = false := by unfold eqT at ht; rw [Bool.and_eq_true] at ht; simpa using ht.1
    simp [execOp, hρ _ _ hx, hρ _ _ hy, eqGuard, hg, binOp, run_eqSelf ht h]⟩
theorem V.neS {P : Program} {e : Env} {W : World → Prop} {ty : TypeId} {x y : Operand} {t t' : TypeId} {vs : List Value} (ht : eqT P t = true) (h : eqOk P 20 t vs = true) (hx : e.ev x = some (.agg vs.toArray)) (hy : e.ev y = some (.agg vs.toArray)) : ReadOp P (.binOp .neq t x y t') ty e W (.bool false) :=
  ⟨rfl, fun ρ hρ d pos af g w _ => by
    have hg : P.eqGuardType P.depth t = false := by unfold eqT at ht; rw [Bool.and_eq_true] at ht; simpa using ht.1
    simp [execOp, hρ _ _ hx, hρ _ _ hy, eqGuard, hg, binOp, run_eqSelf ht h]⟩

theorem wrap_u {a : Int} (h0 : 0 ≤ a) (h1 : a ≤ 18446744073709551615) : IntKind.u64.wrap a = a := by
  simp [IntKind.wrap, IntKind.bits, IntKind.signed]; omega
section
variable {P : Program} {e : Env} {W : World → Prop} {ty : TypeId}
theorem V.convU {s d : TypeId} {x : Operand} {a : Int} (hs : P.underlying s = some (.int .i64)) (hd : P.underlying d = some (.int .u64)) (hx : e.ev x = some (.int .i64 a)) (h : 0 ≤ a ∧ a ≤ 18446744073709551615) :
    ReadOp P (.convert s d x) ty e W (.int .u64 a) :=
  ⟨rfl, fun ρ hρ d' pos af g w _ => by
    simp [execOp, hρ _ _ hx, convert, run_underlying hs, run_underlying hd, Conv.intToInt, wrap_u h.1 h.2]⟩
theorem V.convI {s d : TypeId} {x : Operand} {a : Int} (hs : P.underlying s = some (.int .u64)) (hd : P.underlying d = some (.int .i64)) (hx : e.ev x = some (.int .u64 a)) (h : 0 ≤ a ∧ a ≤ 9223372036854775807) :
    ReadOp P (.convert s d x) ty e W (.int .i64 a) :=
  ⟨rfl, fun ρ hρ d' pos af g w _ => by
    simp [execOp, hρ _ _ hx, convert, run_underlying hs, run_underlying hd, Conv.intToInt, wrap_in (by omega : -9223372036854775808 ≤ a) h.2]⟩
theorem arE_under {t el : TypeId} {n sz : Nat} (ht : arE P t = some (n, el, sz)) : P.underlying t = some (.array n el) ∧ szOf P el = some sz := by
  unfold arE at ht
  cases hu : P.underlying t with
  | none => simp [hu] at ht
  | some ds =>
    cases ds <;> simp [hu] at ht
    obtain ⟨a, ha, rfl, rfl, hb⟩ := ht
    exact ⟨rfl, by simp [szOf, ha, hb]⟩
/-- An array's value out of its parts. -/
theorem V.bldA {t el : TypeId} {n sz : Nat} {zs : List Value} {ops : List (Nat × Operand)} {ps : List (Nat × Value)} (ht : arE P t = some (n, el, sz)) (hz : zeroC P t = some zs) (hp : ops.mapM (fun x => (e.ev x.2).map (x.1, ·)) = some ps)
    (hq : ps.all (fun p => Nat.beq (cellsL p.2).length sz && Nat.ble (p.1 * sz + sz) zs.length) = true) : ReadOp P (.build t ops.toArray) ty e W (.agg (fillL (ps.map fun p => (p.1 * sz, cellsL p.2)) zs).toArray) :=
  ⟨rfl, fun ρ hρ d pos af g w _ => by
    obtain ⟨hu, hs⟩ := arE_under ht
    obtain ⟨zv, hz1, hz2⟩ := run_zeroC hz
    have hps : ops.map (fun x => (x.1, ρ x.2)) = ps := by
      clear hq
      induction ops generalizing ps with
      | nil => simp at hp; simp [hp]
      | cons c r ih =>
        simp only [List.mapM_cons, Option.bind_eq_bind] at hp
        cases hc : e.ev c.2 with
        | none => simp [hc] at hp
        | some u =>
          cases hr : (r.mapM fun x => (e.ev x.2).map (x.1, ·)) with
          | none => simp [hc, hr] at hp
          | some us => simp [hc, hr] at hp; subst hp; simp [hρ _ _ hc, ih hr]
    have hfill := fill_slice sz ps zs (fun p hm => by
      have := List.all_eq_true.1 hq p hm
      rw [Bool.and_eq_true] at this
      exact ⟨Nat.eq_of_beq_eq_true this.1, Nat.le_of_ble_eq_true this.2⟩)
    simp only [execOp, List.map_toArray, hps, Instr.build]
    simp only [Sem.run_bind, hz2, Result.andThen_ok, run_underlying hu, run_sizeOf hs, hz1, hfill]
    rfl⟩
/-- Half of it. -/
theorem V.shr {x y : Operand} {t t' : TypeId} {k' : IntKind} {a : Int} (hx : e.ev x = some (.int .u64 a)) (hy : e.ev y = some (.int k' 1)) : ReadOp P (.binOp .shr t x y t') ty e W (.int .u64 (a / 2)) :=
  ⟨rfl, fun ρ hρ d pos af g w _ => by
    have h2 : a.fdiv 2 = a / 2 := Int.fdiv_eq_ediv_of_nonneg _ (by decide)
    simp [execOp, hρ _ _ hx, hρ _ _ hy, eqGuard, binOp, Op.shift, IntKind.bits, h2]⟩
theorem V.slLoNil {t el : TypeId} {sz : Nat} {x y : Operand} {k : IntKind} (ht : slE P t = some (el, sz)) (hx : e.ev x = some (.slice none 0 0)) (hy : e.ev y = some (.int k 0)) :
    ReadOp P (.slice t x (some y) none none) ty e W (.slice none 0 0) :=
  ⟨rfl, fun ρ hρ d pos af g w _ => by
    obtain ⟨hu, hs⟩ := slE_under ht
    simp only [execOp, hρ _ _ hx, Option.map_some, Option.map_none, hρ _ _ hy]
    simp only [Sem.run_bind, run_slice_t hu, Instr.slice, run_underlying hu, Result.andThen_ok, Instr.sliceBounds, Sem.run_pure, Instr.sliceBound, asIntOf, Sem.run_ite, run_sizeOf hs]
    simp⟩
/-- An append to a slice that somebody owns. -/
theorem L.appS {S : Nat → Prop} {w0 w : World} {K : Value → World → Prop} {o : Nat} {t t2 el el2 : TypeId} {sz byt n : Nat} {zs cs xs : List Value} {v u : Value} {x y : Operand} (hC : Ch S w0 w) (ht : slE P t = some (el, sz)) (ht2 : P.underlying t2 = some (.slice el2)) (hz : zeroC P el = some zs) (hzl : Nat.beq zs.length sz = true)
    (hby : P.bytesOf el = byt) (hx : e.ev x = some v) (hy : e.ev y = some u) (hv : Own o w sz el v cs) (ho : o ≤ w.heap.size) (hu : Rd w sz u n xs) (h0 : (Nat.blt 0 byt && Nat.blt 0 sz) = true) (h1 : xs.all (·.oneCell') = true) (hm : (2 * (cs.length + xs.length) + 768) * byt ≤ 281474976710656)
    (hS : ∀ b, b < w0.heap.size → inSl v b → S b)
    (hk : ∀ v' w1, Ch S w0 w1 → Ch (inSl v) w w1 → Own o w1 sz el v' (cs ++ xs) → (∀ b, inSl v' b → inSl v b ∨ w.heap.size ≤ b) → K v' w1) :
    LoudOp P (.call ⟨.builtin .append, #[x, y], #[t, t2]⟩) ty e w K :=
  ⟨rfl, fun ρ hρ d pos af g => by
    rw [Bool.and_eq_true] at h0
    obtain ⟨v', w1, hr, hch, ho, hin⟩ := run_append (ty := ty) ht ⟨el2, ht2⟩ hz (Nat.eq_of_beq_eq_true hzl) hby hv hu (by simpa using h0.1) (by simpa using h0.2) ho (by simpa using h1) hm
    refine ⟨.value v', w1, ?_, hk v' w1 (hC.trans' hch fun b hb hs => hS b hb hs) hch ho hin⟩
    simp [execOp, hρ _ _ hx, hρ _ _ hy, resolve, invoke, builtin, hr]⟩
end

/-! ### A region that draws, in which two operations may come in either order -/
section fork
variable {P : Program} {ops : Array Oper} {S : World → Prop} {K : Act → World → Prop}
def okOrd2 (ops : Array Oper) (i j : Nat) (r1 r2 : List (Nat × Bool)) : List (Nat × Bool) → Nat → Array Bool → Bool
  | [], n + 1, listed => (Region.ready .any ops listed == [i, j]) && okOrd ops r1 n (listed.setIfInBounds i true) && okOrd ops r2 n (listed.setIfInBounds j true)
  | (x, true) :: p, n + 1, listed => Region.free .any ops listed x && (Region.ready .any ops listed).contains x && okOrd2 ops i j r1 r2 p n (listed.setIfInBounds x true)
  | _, _, _ => false
theorem Still.val {o : Oper} {v v' : Value} {a : Act} {w : World} {S S' : World → Prop} (h : Still P ops S o v a) (h' : Still P ops S' o v' a) (hS : S w) (hS' : S' w) : v = v' := by
  rcases h.2 with ⟨hw, hv⟩ | ⟨hw, rfl⟩ <;> rcases h'.2 with ⟨hw', hv'⟩ | ⟨hw', rfl⟩
  · have := (hv w hS).symm.trans (hv' w hS')
    cases this; rfl
  · rw [hw] at hw'; cases hw'
  · rw [hw] at hw'; cases hw'
  · rfl
theorem OrdR.any2 {L c : Nat → Bool} {i j : Nat} {r1 r2 : List (Nat × Bool)} (hs : Region.noSelect ops = true) : ∀ (p : List (Nat × Bool)) (n : Nat) (listed : Array Bool) (a : Act) (w : World), Down ops listed →
    (∀ x ∈ p ++ (r1 ++ r2), x.2 = true → c x.1 = true → ∀ j, j < ops.size → L j = true ∨ j = x.1 ∨ ∃ n, depR ops n j x.1 = true) →
    okOrd2 ops i j r1 r2 p n listed = true → OrdR P ops L c S K (p ++ (i, false) :: r1) a w → OrdR P ops L c S K (p ++ (j, false) :: r2) a w → AnyR P ops L S K n listed a w
  | [], 0, listed, a, w, _, _, hok, _, _ => by simp [okOrd2] at hok
  | [], n + 1, listed, a, w, hd, hL, hok, h, h' => by
    simp only [okOrd2, Bool.and_eq_true, beq_iff_eq] at hok
    refine ⟨fun h0 => (by rw [hok.1.1] at h0; cases h0), fun x hx => ?_⟩
    have hx' := hx
    rw [hok.1.1] at hx
    simp only [List.mem_cons, List.not_mem_nil, or_false] at hx
    rcases hx with rfl | rfl
    · exact StepR.mono (fun a' w' g => ⟨g.1, OrdR.any hs r1 n _ a' w' (hd.set hx') (fun y hy => hL y (List.mem_append_right _ (List.mem_append_left _ hy))) hok.1.2 g.2⟩) h
    · refine StepR.mono (fun a' w' g => ⟨g.1, OrdR.any hs r2 n _ a' w' (hd.set hx') (fun y hy => hL y (List.mem_append_right _ (List.mem_append_right _ hy))) hok.2 g.2⟩) h'
  | (x, true) :: p, 0, listed, a, w, _, _, hok, _, _ => by simp [okOrd2] at hok
  | (x, false) :: p, _, listed, a, w, _, _, hok, _, _ => by simp [okOrd2] at hok
  | (x, true) :: p, n + 1, listed, a, w, hd, hL, hok, h, h' => by
    simp only [okOrd2, Bool.and_eq_true] at hok
    have hir : x ∈ Region.ready .any ops listed := by simpa using hok.1.2
    have rec' := fun a => OrdR.any2 (L := L) (c := c) hs p n (listed.setIfInBounds x true) a w (hd.set hir) (fun y hy => hL y (List.mem_cons_of_mem _ hy)) hok.2
    rcases h with ⟨hc, hS, o, v, ho, hy, hk⟩ | ⟨o, v, ho, hy, hk⟩ <;> rcases h' with ⟨hc', hS', o', v', ho', hy', hk'⟩ | ⟨o', v', ho', hy', hk'⟩
    · cases ho.symm.trans ho'
      have := hy.val hy' hS hS'; subst this
      exact AnyR.first ho (Region.noSelect_spec hs) (.inr ⟨rfl, hL (x, true) (by simp) rfl hc⟩) n listed a w hd (Region.free_spec ho hok.1.1) hir hy hS (rec' _ hk hk')
    · cases ho.symm.trans ho'
      have := hy.val hy' hS trivial; subst this
      exact AnyR.first ho (Region.noSelect_spec hs) (.inr ⟨rfl, hL (x, true) (by simp) rfl hc⟩) n listed a w hd (Region.free_spec ho hok.1.1) hir hy hS (rec' _ hk hk')
    · cases ho.symm.trans ho'
      have := hy.val hy' trivial hS'; subst this
      exact AnyR.first ho (Region.noSelect_spec hs) (.inl fun _ => trivial) n listed a w hd (Region.free_spec ho hok.1.1) hir hy trivial (rec' _ hk hk')
    · cases ho.symm.trans ho'
      have := hy.val hy' (w := w) trivial trivial; subst this
      exact AnyR.first ho (Region.noSelect_spec hs) (.inl fun _ => trivial) n listed a w hd (Region.free_spec ho hok.1.1) hir hy trivial (rec' _ hk hk')
/-- Behind the quiet ones of p come i and j in either order, and then r. -/
theorem RX.draw2 {fn : FuncId} {ro : Option Nat} {n : Nat} {e : Env} {ds : List Nat} {k : List Item} {w : World} {R : Value → World → Prop} {id : Nat} (S : World → Prop) (C : List Nat) (p : List (Nat × Bool)) (i j : Nat) (r1 r2 l1 l2 : List (Nat × Bool)) (hl1 : p ++ (i, false) :: r1 = l1) (hl2 : p ++ (j, false) :: r2 = l2) (hm : P.follows .mixedOrders = true)
    (hok : (Region.noSelect ops && okOrd2 ops i j r1 r2 p ops.size (Array.replicate ops.size false)) = true)
    (h : ∀ w1, Grow w w1 → w1.heap.size = w.heap.size → RD P fn ro n ops (lateR ops C (p ++ (r1 ++ r2))) (cOf C) S l1 k e ds w1 R)
    (h' : ∀ w1, Grow w w1 → w1.heap.size = w.heap.size → RD P fn ro n ops (lateR ops C (p ++ (r1 ++ r2))) (cOf C) S l2 k e ds w1 R) : RX P fn ro n (.code (.region id ops true) :: k) e ds w R := by
  subst hl1; subst hl2
  intro hw a hf hd
  rw [Bool.and_eq_true] at hok
  have hw' : ops.toList.all (dstOk n) = true ∧ wfT n k = true := by simpa [wfT_cons, wfI, wfC] using hw
  have h1 := h w.drew (Ch.drew _ w) rfl hw'.2 hw'.1 a hf hd
  have h1' := h' w.drew (Ch.drew _ w) rfl hw'.2 hw'.1 a hf hd
  have h2 := OrdR.any2 hok.1 p ops.size _ a w.drew (down_none _) late_spec hok.2 h1 h1'
  refine .step (fun _ => step_lone_go ?_) (a' := a) (k' := .inRegion ops (Region.linearise .any ops (w.tape w.drawn (.order fn id))) :: k) (w' := w.drew) (AnyR.runs ops.size _ _ a w.drew h2)
  simp [stepG, stepG.exec, mkF, choose, Sem.run, Question.forced, Question.cut, Region.schedule, hm]
/-- What is behind an item, asked once for all the ways that lead there. -/
theorem RX.cut {P : Program} {fn : FuncId} {ro : Option Nat} {n : Nat} {e : Env} {ds : List Nat} {it : Item} {k : List Item} {w : World} {R : Value → World → Prop} (I : Env → World → Prop) (hr : ∀ e w', I e w' → RX P fn ro n k e ds w' R)
    (h : (∀ e w', I e w' → RX P fn ro n k e ds w' R) → RX P fn ro n (it :: k) e ds w R) : RX P fn ro n (it :: k) e ds w R := h hr
end fork
end Go.Proofs.YtmcfbinkofoagaaGreat.Sx
