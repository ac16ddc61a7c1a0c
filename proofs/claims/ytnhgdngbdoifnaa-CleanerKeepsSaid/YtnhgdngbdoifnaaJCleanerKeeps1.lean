/- Parts of a proof, in one text: what it needs of Fw, FwT, V1. -/
import Derived.WalkKit
import Derived.Deep.Quiet
import Derived.Orders
import Derived.OrdersHeld
import Derived.StillTail
import Derived.KernelRfl
import Derived.ScopeJumps
import Derived.Below
import Derived.Maps.AppendAt
import Derived.Deep.Draws
import Derived.IntWalk
import Derived.Maps.Own
import Derived.Maps.OwnSet
import Derived.Maps.Views
import Derived.WalkSpells
import Derived.Laws.OwnMore
import Derived.Laws.MakeOwn
import Derived.Lib.OwnBridge
import Derived.Lib.SliceRun
import Derived.Test.YtnhgdngbdoifnaaProg
import Derived.Laws.BitsLemmas
import Derived.Laws.BytesArg
namespace Go.Proofs.Ytnhgdngbdoifnaa.F
open Go
def bt : Nat → Nat → List Bool
  | 0, _ => []
  | n + 1, m => (m % 2 == 1) :: bt n (m / 2)
abbrev vi (n : Int) : Value := .int .i64 n
abbrev ci (n : Int) : Operand := .const (.int .i64 n)
abbrev tm (n : Nat) : Operand := .tmp n
end Go.Proofs.Ytnhgdngbdoifnaa.F
namespace Go.Proofs.Ytnhgdngbdoifnaa.F
set_option linter.unusedVariables false
set_option linter.unusedSimpArgs false
abbrev Env := Nat → Value
abbrev VP := Value → World → Prop
abbrev EQ := Exit → Env → World → Prop
def Env.set (e : Env) (d : Option Nat) (v : Value) : Env :=
  match d with
  | none => e
  | some d => fun i => cond (Nat.beq i d) v (e i)
def Env.ev (e : Env) : Operand → Value
  | .tmp t => e t
  | .const v => v
  | .global g => .pointer (some ⟨g, 0, none⟩)
  | .func f => .func (.func f) #[] #[]
theorem Env.set_same (e : Env) (d : Nat) (v : Value) : e.set (some d) v d = v := by simp [Env.set]
theorem Env.set_ne (e : Env) (d : Nat) (v : Value) {t : Nat} (h : t ≠ d) : e.set (some d) v t = e t := by
  have : Nat.beq t d = false := by
    cases hb : Nat.beq t d with
    | true => exact absurd (Nat.eq_of_beq_eq_true hb) h
    | false => rfl
  simp only [Env.set, this, cond]
def Nx (P : Program) (K : Value → World → Prop) : Result Next → Prop
  | .ok (.value v) w' => K v w'
  | .ok .skip w' => K undef w'
  | .ok (.enter f args) w' => Calls P f args w' fun e w'' => ∃ v, e = .returned v ∧ K v w''
  | .ok (.row row args) w' => Rows P row args w' K
  | _ => False
theorem Nx.mono {P : Program} {K K' : Value → World → Prop} (h : ∀ v w, K v w → K' v w) : ∀ {r : Result Next}, Nx P K r → Nx P K' r
  | .ok (.value v) w', hh => h _ _ hh
  | .ok .skip w', hh => h _ _ hh
  | .ok (.enter f args) w', hh => Calls.mono hh fun e w'' ⟨v, he, hk⟩ => ⟨v, he, h _ _ hk⟩
  | .ok (.row row args) w', hh => Rows.mono hh fun _ _ hk => h _ _ hk
def valP (P : Program) (s : Sem Value) (w : World) (K : Value → World → Prop) : Prop := ∃ v w', s.run P w = .ok v w' ∧ K v w'
def unitP (P : Program) (s : Sem Unit) (w : World) (K : Value → World → Prop) : Prop := ∃ w', s.run P w = .ok () w' ∧ K undef w'
def callP (P : Program) (fv : Value) (args : Array Value) (w : World) (K : Value → World → Prop) : Prop :=
  Nx P K ((do let d ← Deferred.ofValue fv args; invoke d.target d.args : Sem Next).run P w)
def builtinP (P : Program) (b : Builtin) (argTypes : Array TypeId) (type : TypeId) (consts : Array Bool) (args : Array Value) (w : World) (K : Value → World → Prop) : Prop :=
  Nx P K ((builtin b argTypes type consts args : Sem Next).run P w)
def condP (v : Value) (A B : Prop) : Prop := (v = .bool true ∧ A) ∨ (v = .bool false ∧ B)
def nilCheckP (v : Value) (K : Value → Prop) : Prop := (∃ p, v = .pointer (some p)) ∧ K v
def pickP (c a b : Value) (K : Value → Prop) : Prop := ∃ t, c = .bool t ∧ K (if t then a else b)
theorem condP.mono {v : Value} {A B A' B' : Prop} (ha : A → A') (hb : B → B') (h : condP v A B) : condP v A' B' :=
  h.imp (fun h => ⟨h.1, ha h.2⟩) (fun h => ⟨h.1, hb h.2⟩)
def isConst : Operand → Bool
  | .const _ => true
  | _ => false
def opW (P : Program) (ρ : Operand → Value) (o : Oper) (w : World) (K : Value → World → Prop) : Prop :=
  match o.op with
  | .move x => K (ρ x) w
  | .assign x => K (ρ x) w
  | .pick c a b => pickP (ρ c) (ρ a) (ρ b) fun v => K v w
  | .alloc t => valP P (Instr.alloc t true (.tuple #[])) w K
  | .box t x => valP P (Instr.box t (ρ x)) w K
  | .build t parts => valP P (Instr.build t (parts.map fun (i, x) => (i, ρ x))) w K
  | .buildSlice t len parts => valP P (Instr.buildSlice t len (parts.map fun (i, x) => (i, ρ x))) w K
  | .load t a => valP P (Instr.loadAt t (ρ a)) w K
  | .store t a x => unitP P (Instr.storeAt t (ρ a) (ρ x)) w K
  | .nilCheck x => nilCheckP (ρ x) fun v => K v w
  | .binOp op xType x y _ => valP P (do eqGuard op xType x y (ρ x) (ρ y); binOp op xType (ρ x) (ρ y)) w K
  | .unOp op _ x => valP P (Op.unary op (ρ x)) w K
  | .convert src dst x => valP P (convert src dst (ρ x)) w K
  | .makeFunc fn first captured => valP P (Instr.makeFunc fn (first.map ρ) (captured.map ρ)) w K
  | .makeMap t r => valP P (Instr.makeMap t (r.map ρ)) w K
  | .makeSlice t l c => valP P (Instr.makeSlice t (ρ l) (ρ c)) w K
  | .slice t x lo hi mx => valP P (Instr.sliceAt t (ρ x) (lo.map ρ) (hi.map ρ) (mx.map ρ)) w K
  | .sliceToArrayPointer t x => valP P (Instr.arrayAt t (ρ x)) w K
  | .fieldAddr s x f => valP P (Instr.fieldAt s (ρ x) f) w K
  | .field t x f => valP P (Instr.field t (ρ x) f) w K
  | .indexAddr t x ix => valP P (Instr.indexAt t (ρ x) (ρ ix)) w K
  | .index t x ix => valP P (Instr.index t (ρ x) (ρ ix)) w K
  | .lookup t x ix ok => valP P (Instr.lookup t (ρ x) (ρ ix) ok) w K
  | .mapUpdate t m k x => unitP P (Instr.mapUpdate t (ρ m) (ρ k) (ρ x)) w K
  | .insert t m k x => unitP P (Instr.mapUpdate t (ρ m) (ρ k) (ρ x)) w K
  | .range t x => valP P (Instr.range t (ρ x)) w K
  | .next it s => valP P (Instr.next (ρ it) s o.type) w K
  | .entry it => valP P (Instr.entry (ρ it)) w K
  | .extract t ix => valP P (Instr.extract (ρ t) ix) w K
  | .call ⟨.value f, args, _⟩ => callP P (ρ f) (args.map ρ) w K
  | .call ⟨.builtin b, args, ats⟩ => builtinP P b ats o.type (args.map isConst) (args.map ρ) w K
  | _ => False
section
variable {P : Program}
theorem Nx_val {K : Value → World → Prop} {s : Sem Value} {w : World} (h : valP P s w K) : Nx P K ((do pure (Next.value (← s)) : Sem Next).run P w) := by
  obtain ⟨v, w', hr, hK⟩ := h
  simp only [Sem.run_bind, hr, Result.andThen_ok, Sem.run_pure]
  exact hK
theorem Nx_unit {K : Value → World → Prop} {s : Sem Unit} {w : World} (h : unitP P s w K) : Nx P K ((do s; pure Next.skip : Sem Next).run P w) := by
  obtain ⟨w', hr, hK⟩ := h
  simp only [Sem.run_bind, hr, Result.andThen_ok, Sem.run_pure]
  exact hK
theorem opW_Nx {ρ : Operand → Value} {o : Oper} {w : World} {K : Value → World → Prop} (h : opW P ρ o w K) : Nx P K ((execOp ρ o).run P w) := by
  obtain ⟨dst, op, ty, pos, after, guard⟩ := o
  cases op <;> simp only [opW] at h <;> simp only [execOp]
  case move x => exact h
  case assign x => exact h
  case pick c a b =>
    obtain ⟨t, ht, hK⟩ := h
    rw [ht]
    exact hK
  case nilCheck x =>
    obtain ⟨⟨p, hp⟩, hK⟩ := h
    rw [hp] at hK
    simp only [hp]
    exact hK
  case store => exact Nx_unit h
  case mapUpdate => exact Nx_unit h
  case insert => exact Nx_unit h
  case call c =>
    obtain ⟨callee, args, ats⟩ := c
    cases callee with
    | value f => exact h
    | builtin b =>
      have hc : (args.map fun | .const _ => true | _ => false) = args.map isConst := by
        congr 1
      simp only [resolve, hc]
      exact h
    | invoke r m => exact h.elim
  all_goals first | exact Nx_val h | exact h.elim
end
def gtmp (ops : Array Oper) (j : Nat) : Option Nat := (ops[j]?).bind (·.dst)
abbrev Known := List (Nat × Option Bool)
def kfind : Known → Nat → Option (Option Bool)
  | [], _ => none
  | (t, b) :: k, u => cond (Nat.beq t u) (some b) (kfind k u)
def kdrop (d : Option Nat) (k : Known) : Known :=
  match d with
  | none => k
  | some d => k.filter fun p => !(Nat.beq p.1 d)
def kskip (d : Option Nat) (k : Known) : Known :=
  match d with
  | none => k
  | some d => (d, none) :: kdrop (some d) k
def beqW : Option Bool → Bool → Bool
  | some true, true => true
  | some false, false => true
  | _, _ => false
def guardW (P : Program) (ops : Array Oper) (o : Oper) (k : Known) (e : Env) (run skip : Known → Prop) : Prop :=
  match o.guard with
  | none => run k
  | some (j, want) =>
    match gtmp ops j with
    | none => skip k
    | some t =>
      match kfind k t with
      | some kb => cond (beqW kb want) (run k) (skip k)
      | none => condP (e t) (cond (beqW (some true) want) (run ((t, some true) :: k)) (skip ((t, some true) :: k))) (cond (beqW (some false) want) (run ((t, some false) :: k)) (skip ((t, some false) :: k)))
def cops (P : Program) (ops : Array Oper) (N : Env → World → Prop) : List Oper → Known → Env → World → Prop
  | [], _, e, w => N e w
  | o :: r, k, e, w => guardW P ops o k e (fun k => opW P e.ev o w fun v w' => cops P ops N r (kdrop o.dst k) (e.set o.dst v) w') (fun k => cops P ops N r (kskip o.dst k) (e.set o.dst undef) w)
def valQ (P : Program) (s : Sem Value) (w : World) (K : Value → Prop) : Prop := ∃ v, (∀ n, s.run P (w.drewN n) = .ok v (w.drewN n)) ∧ K v
def callQ (P : Program) (fv : Value) (args : Array Value) (w : World) (K : Value → Prop) : Prop :=
  ∃ v, (∀ n, Oper.quietUpon P (fun w' => ∃ m, w' = w.drewN m) (w.drewN n) v ((do let d ← Deferred.ofValue fv args; invoke d.target d.args : Sem Next).run P (w.drewN n))) ∧ K v
def builtinQ (P : Program) (b : Builtin) (argTypes : Array TypeId) (type : TypeId) (consts : Array Bool) (args : Array Value) (w : World) (K : Value → Prop) : Prop :=
  ∃ v, (∀ n, Oper.quietUpon P (fun w' => ∃ m, w' = w.drewN m) (w.drewN n) v ((builtin b argTypes type consts args : Sem Next).run P (w.drewN n))) ∧ K v
def opQ (P : Program) (ρ : Operand → Value) (o : Oper) (w : World) (K : Value → Prop) : Prop :=
  match o.op with
  | .move x => K (ρ x)
  | .assign x => K (ρ x)
  | .pick c a b => pickP (ρ c) (ρ a) (ρ b) K
  | .build t parts => valQ P (Instr.build t (parts.map fun (i, x) => (i, ρ x))) w K
  | .load t a => valQ P (Instr.loadAt t (ρ a)) w K
  | .nilCheck x => nilCheckP (ρ x) K
  | .binOp op xType x y _ => valQ P (do eqGuard op xType x y (ρ x) (ρ y); binOp op xType (ρ x) (ρ y)) w K
  | .unOp op _ x => valQ P (Op.unary op (ρ x)) w K
  | .convert src dst x => valQ P (convert src dst (ρ x)) w K
  | .slice t x lo hi mx => valQ P (Instr.sliceAt t (ρ x) (lo.map ρ) (hi.map ρ) (mx.map ρ)) w K
  | .sliceToArrayPointer t x => valQ P (Instr.arrayAt t (ρ x)) w K
  | .fieldAddr s x f => valQ P (Instr.fieldAt s (ρ x) f) w K
  | .field t x f => valQ P (Instr.field t (ρ x) f) w K
  | .indexAddr t x ix => valQ P (Instr.indexAt t (ρ x) (ρ ix)) w K
  | .index t x ix => valQ P (Instr.index t (ρ x) (ρ ix)) w K
  | .lookup t x ix ok => valQ P (Instr.lookup t (ρ x) (ρ ix) ok) w K
  | .extract t ix => valQ P (Instr.extract (ρ t) ix) w K
  | .call ⟨.value f, args, _⟩ => callQ P (ρ f) (args.map ρ) w K
  | .call ⟨.builtin b, args, ats⟩ => builtinQ P b ats o.type (args.map isConst) (args.map ρ) w K
  | _ => False
def qops (P : Program) (ops : Array Oper) (w : World) (N : Env → Prop) : List Oper → Known → Env → Prop
  | [], _, e => N e
  | o :: r, k, e => guardW P ops o k e (fun k => opQ P e.ev o w fun v => qops P ops w N r (kdrop o.dst k) (e.set o.dst v)) (fun k => qops P ops w N r (kskip o.dst k) (e.set o.dst undef))
def anyDraw (w : World) (K : World → Prop) : Prop := ∀ n, K (w.drewN n)
def valS (P : Program) (s : Sem Value) (w : World) (K : Value → Prop) : Prop := ∃ v, s.run P w = .ok v w ∧ K v
def callS (P : Program) (fv : Value) (args : Array Value) (w : World) (K : Value → Prop) : Prop :=
  ∃ v f args', (do let d ← Deferred.ofValue fv args; invoke d.target d.args : Sem Next).run P w = .ok (.enter f args') w ∧ Calls P f args' w (fun e w' => e = .returned v ∧ w' = w) ∧ K v
def builtinS (P : Program) (b : Builtin) (argTypes : Array TypeId) (type : TypeId) (consts : Array Bool) (args : Array Value) (w : World) (K : Value → Prop) : Prop :=
  ∃ v, (builtin b argTypes type consts args : Sem Next).run P w = .ok (.value v) w ∧ K v
def opS (P : Program) (ρ : Operand → Value) (o : Oper) (w : World) (K : Value → Prop) : Prop :=
  match o.op with
  | .move x => K (ρ x)
  | .assign x => K (ρ x)
  | .pick c a b => pickP (ρ c) (ρ a) (ρ b) K
  | .build t parts => valS P (Instr.build t (parts.map fun (i, x) => (i, ρ x))) w K
  | .load t a => valS P (Instr.loadAt t (ρ a)) w K
  | .nilCheck x => nilCheckP (ρ x) K
  | .binOp op xType x y _ => valS P (do eqGuard op xType x y (ρ x) (ρ y); binOp op xType (ρ x) (ρ y)) w K
  | .unOp op _ x => valS P (Op.unary op (ρ x)) w K
  | .convert src dst x => valS P (convert src dst (ρ x)) w K
  | .makeFunc fn first captured => valS P (Instr.makeFunc fn (first.map ρ) (captured.map ρ)) w K
  | .slice t x lo hi mx => valS P (Instr.sliceAt t (ρ x) (lo.map ρ) (hi.map ρ) (mx.map ρ)) w K
  | .sliceToArrayPointer t x => valS P (Instr.arrayAt t (ρ x)) w K
  | .fieldAddr s x f => valS P (Instr.fieldAt s (ρ x) f) w K
  | .field t x f => valS P (Instr.field t (ρ x) f) w K
  | .indexAddr t x ix => valS P (Instr.indexAt t (ρ x) (ρ ix)) w K
  | .index t x ix => valS P (Instr.index t (ρ x) (ρ ix)) w K
  | .lookup t x ix ok => valS P (Instr.lookup t (ρ x) (ρ ix) ok) w K
  | .extract t ix => valS P (Instr.extract (ρ t) ix) w K
  | .call ⟨.value f, args, _⟩ => callS P (ρ f) (args.map ρ) w K
  | .call ⟨.builtin b, args, ats⟩ => builtinS P b ats o.type (args.map isConst) (args.map ρ) w K
  | _ => False
def sops (P : Program) (ops : Array Oper) (w : World) (N : Known → Env → Prop) : List Oper → Known → Env → Prop
  | [], k, e => N k e
  | o :: r, k, e => guardW P ops o k e (fun k => opS P e.ev o w fun v => sops P ops w N r (kdrop o.dst k) (e.set o.dst v)) (fun k => sops P ops w N r (kskip o.dst k) (e.set o.dst undef))
def pureP (P : Program) (s : Sem Value) (K : Value → Prop) : Prop := ∃ v, (∀ w, s.run P w = .ok v w) ∧ K v
def pureW (P : Program) (ρ : Operand → Value) (o : Oper) (K : Value → Prop) : Prop :=
  match o.op with
  | .move x => K (ρ x)
  | .assign x => K (ρ x)
  | .pick c a b => pickP (ρ c) (ρ a) (ρ b) K
  | .build t parts => pureP P (Instr.build t (parts.map fun (i, x) => (i, ρ x))) K
  | .nilCheck x => nilCheckP (ρ x) K
  | .binOp op xType x y _ => pureP P (do eqGuard op xType x y (ρ x) (ρ y); binOp op xType (ρ x) (ρ y)) K
  | .unOp op _ x => pureP P (Op.unary op (ρ x)) K
  | .makeFunc fn first captured => pureP P (Instr.makeFunc fn (first.map ρ) (captured.map ρ)) K
  | .slice t x lo hi mx => pureP P (Instr.sliceAt t (ρ x) (lo.map ρ) (hi.map ρ) (mx.map ρ)) K
  | .fieldAddr s x f => pureP P (Instr.fieldAt s (ρ x) f) K
  | .field t x f => pureP P (Instr.field t (ρ x) f) K
  | .indexAddr t x ix => pureP P (Instr.indexAt t (ρ x) (ρ ix)) K
  | .index t x ix => pureP P (Instr.index t (ρ x) (ρ ix)) K
  | .extract t ix => pureP P (Instr.extract (ρ t) ix) K
  | _ => False
inductive Plan where
  | done
  | take (i : Nat) (listed : List Bool) (p : Plan)
  | alt (i : Nat) (listed : List Bool) (p more : Plan)
  | stop
def both (last : Bool) (A B : Prop) : Prop := cond last A (A ∧ B)
def tree (P : Program) (ops : Array Oper) (N : Env → World → Prop) : Plan → Known → Env → World → Prop
  | .done, _, e, w => N e w
  | .take i _ p, k, e, w =>
    match ops[i]? with
    | some o => guardW P ops o k e (fun k => pureW P e.ev o fun v => tree P ops N p (kdrop o.dst k) (e.set o.dst v) w) (fun k => tree P ops N p (kskip o.dst k) (e.set o.dst undef) w)
    | none => False
  | .alt i _ p more, k, e, w =>
    both (match more with | .stop => true | _ => false) (match ops[i]? with
    | some o => guardW P ops o k e (fun k => opW P e.ev o w fun v w' => tree P ops N p (kdrop o.dst k) (e.set o.dst v) w') (fun k => tree P ops N p (kskip o.dst k) (e.set o.dst undef) w)
    | none => False) (tree P ops N more k e w)
  | .stop, _, _, _ => True
def alts : Plan → List Nat
  | .alt i _ _ m => i :: alts m
  | _ => []
def planOk (ops : Array Oper) : Plan → List Bool → Bool
  | .done, l => (Region.ready .any ops l.toArray).isEmpty
  | .take i l' p, l => Region.free .any ops l.toArray i && (Region.ready .any ops l.toArray).contains i && (l.set i true == l') && planOk ops p l'
  | .alt i l' p m, l => (Region.ready .any ops l.toArray == i :: alts m) && (l.set i true == l') && planOk ops p l' && moreOk ops m l
  | .stop, _ => false
where
  moreOk (ops : Array Oper) : Plan → List Bool → Bool
  | .alt i l' p m, l => (l.set i true == l') && planOk ops p l' && moreOk ops m l
  | .stop, _ => true
  | _, _ => false
def valJ (P : Program) (J : World → Prop) (s : Sem Value) (K : Value → Prop) : Prop := ∃ v, (∀ w, J w → s.run P w = .ok v w) ∧ K v
def builtinJ (P : Program) (J : World → Prop) (b : Builtin) (argTypes : Array TypeId) (type : TypeId) (consts : Array Bool) (args : Array Value) (K : Value → Prop) : Prop :=
  ∃ v, (∀ w, J w → (builtin b argTypes type consts args : Sem Next).run P w = .ok (.value v) w) ∧ K v
def opJ (P : Program) (J : World → Prop) (ρ : Operand → Value) (o : Oper) (K : Value → Prop) : Prop :=
  match o.op with
  | .move x => K (ρ x)
  | .assign x => K (ρ x)
  | .pick c a b => pickP (ρ c) (ρ a) (ρ b) K
  | .build t parts => valJ P J (Instr.build t (parts.map fun (i, x) => (i, ρ x))) K
  | .load t a => valJ P J (Instr.loadAt t (ρ a)) K
  | .nilCheck x => nilCheckP (ρ x) K
  | .binOp op xType x y _ => valJ P J (do eqGuard op xType x y (ρ x) (ρ y); binOp op xType (ρ x) (ρ y)) K
  | .unOp op _ x => valJ P J (Op.unary op (ρ x)) K
  | .convert src dst x => valJ P J (convert src dst (ρ x)) K
  | .makeFunc fn first captured => valJ P J (Instr.makeFunc fn (first.map ρ) (captured.map ρ)) K
  | .slice t x lo hi mx => valJ P J (Instr.sliceAt t (ρ x) (lo.map ρ) (hi.map ρ) (mx.map ρ)) K
  | .sliceToArrayPointer t x => valJ P J (Instr.arrayAt t (ρ x)) K
  | .fieldAddr s x f => valJ P J (Instr.fieldAt s (ρ x) f) K
  | .field t x f => valJ P J (Instr.field t (ρ x) f) K
  | .indexAddr t x ix => valJ P J (Instr.indexAt t (ρ x) (ρ ix)) K
  | .index t x ix => valJ P J (Instr.index t (ρ x) (ρ ix)) K
  | .lookup t x ix ok => valJ P J (Instr.lookup t (ρ x) (ρ ix) ok) K
  | .extract t ix => valJ P J (Instr.extract (ρ t) ix) K
  | .call ⟨.builtin b, args, ats⟩ => builtinJ P J b ats o.type (args.map isConst) (args.map ρ) K
  | _ => False
def heldP (w : World) (F : (World → Prop) → Prop) : Prop := ∃ J : World → Prop, J w ∧ F J
def stayP (J : World → Prop) (w : World) (A : Prop) : Prop := J w ∧ A
def kval (k : Known) : Operand → Option (Option Bool)
  | .const (.bool b) => some (some b)
  | .tmp t => kfind k t
  | _ => none
def kres (o : Oper) (k : Known) : Option (Option Bool) :=
  match o.op with
  | .move x => kval k x
  | .assign x => kval k x
  | .pick (.tmp c) a b =>
    match kfind k c with
    | some (some true) => kval k a
    | some (some false) => kval k b
    | _ => none
  | _ => none
def kafter (o : Oper) (k : Known) : Known :=
  match o.dst, kres o k with
  | some d, some (some x) => (d, some x) :: kdrop (some d) k
  | d, _ => kdrop d k
def treeJ (P : Program) (ops : Array Oper) (J : World → Prop) (N : Env → World → Prop) : Plan → Known → Env → World → Prop
  | .done, _, e, w => N e w
  | .take i _ p, k, e, w =>
    match ops[i]? with
    | some o => guardW P ops o k e (fun k => opJ P J e.ev o fun v => treeJ P ops J N p (kafter o k) (e.set o.dst v) w) (fun k => treeJ P ops J N p (kskip o.dst k) (e.set o.dst undef) w)
    | none => False
  | .alt i _ p more, k, e, w =>
    both (match more with | .stop => true | _ => false) (match ops[i]? with
    | some o => guardW P ops o k e (fun k => opW P e.ev o w fun v w' => J w' ∧ treeJ P ops J N p (kdrop o.dst k) (e.set o.dst v) w') (fun k => treeJ P ops J N p (kskip o.dst k) (e.set o.dst undef) w)
    | none => False) (treeJ P ops J N more k e w)
  | .stop, _, _, _ => True
def copsK (P : Program) (ops : Array Oper) (N : Env → World → Prop) : List Oper → Known → Env → World → Prop
  | [], _, e, w => N e w
  | o :: r, k, e, w => guardW P ops o k e (fun k => opW P e.ev o w fun v w' => copsK P ops N r (kafter o k) (e.set o.dst v) w') (fun k => copsK P ops N r (kskip o.dst k) (e.set o.dst undef) w)
def loadC (t : TypeId) (v : Value) : Sem Value := do loadVar t (← asAddr v)
def tupleOf (vs : List Value) : Value :=
  match vs with
  | [v] => v
  | vs => .tuple vs.toArray
def resV (P : Program) (e : Env) (w : World) (K : List Value → Prop) : List ResultVar → List Value → Prop
  | [], acc => K acc
  | .tmp t :: r, acc => resV P e w K r (acc ++ [e t])
  | .cell a t :: r, acc => valS P (loadC t (e a)) w fun v => resV P e w K r (acc ++ [v])
def thenE (next : Env → World → Prop) (Q : Exit → Env → World → Prop) : Exit → Env → World → Prop
  | .normal, e, w => next e w
  | x, e, w => Q x e w
def inBlockE (id : Nat) (Q : Exit → Env → World → Prop) : Exit → Env → World → Prop
  | .exit id', e, w => cond (Nat.beq id' id) (Q .normal e w) (Q (.exit id') e w)
  | x, e, w => Q x e w
def loopP {σ : Type} (F : (σ → World → Prop) → σ → World → Prop) (s : σ) (w : World) : Prop :=
  ∃ (I : σ → World → Prop) (μ : σ → World → Nat), I s w ∧ ∀ s w, I s w → F (fun s' w' => I s' w' ∧ μ s' w' < μ s w) s w
def cwp (P : Program) (st : Nat → Nat) : Code → (Exit → Env → World → Prop) → Env → World → Prop
  | .skip, Q, e, w => Q .normal e w
  | .region _ ops false, Q, e, w => cops P ops (Q .normal) ops.toList [] e w ∨ copsK P ops (Q .normal) ops.toList [] e w
  | .region id ops true, Q, e, w =>
    match st id with
    | 0 => Region.noSelect ops = true ∧ ∃ pl, planOk ops pl (List.replicate ops.size false) = true ∧ (anyDraw w (tree P ops (Q .normal) pl [] e) ∨ anyDraw w fun w => ∃ J : World → Prop, J w ∧ treeJ P ops J (Q .normal) pl [] e w)
    | 1 => Region.lexB .any ops = true ∧ qops P ops w (fun e => anyDraw w (Q .normal e)) ops.toList [] e
    | n + 2 => Region.lexTailB .any ops n = true ∧ anyDraw w fun w => sops P ops w (fun k e => cops P ops (Q .normal) (ops.toList.drop n) k e w) (ops.toList.take n) [] e
  | .seq x y, Q, e, w => cwp P st x (thenE (cwp P st y Q) Q) e w
  | .cond c x y, Q, e, w => condP (e.ev c) (cwp P st x Q e w) (cwp P st y Q e w)
  | .block id b, Q, e, w => cwp P st b (inBlockE id Q) e w
  | .loop b, Q, e, w => loopP (fun K e w => cwp P st b (thenE K Q) e w) e w
  | .exit id, Q, e, w => Q (.exit id) e w
  | .goto l, Q, e, w => Q (.goto l) e w
  | .ret, Q, e, w => Q .ret e w
  | _, _, _, _ => False
end Go.Proofs.Ytnhgdngbdoifnaa.F
namespace Go.Proofs.Ytnhgdngbdoifnaa.F
set_option linter.unusedVariables false
set_option linter.unusedSimpArgs false
structure Fr (n : Nat) (a : Act) (e : Env) : Prop where
  size : a.tmps.size = n
  defers : a.defers = []
  at_ : ∀ t, a.tmps.getD t undef = e t
theorem Fr.eval {n : Nat} {a : Act} {e : Env} (h : Fr n a e) : a.eval = e.ev := by
  funext x
  cases x with
  | tmp t => exact h.at_ t
  | _ => rfl
def dstOk (n : Nat) : Option Nat → Bool
  | none => true
  | some d => Nat.blt d n
theorem Fr.put {n : Nat} {a : Act} {e : Env} (h : Fr n a e) {d : Option Nat} (hd : dstOk n d = true) (v : Value) : Fr n (a.put d v) (e.set d v) := by
  cases d with
  | none => exact h
  | some d =>
    have hd' : d < n := by simpa [dstOk, Nat.blt, Nat.succ_le_iff] using hd
    refine ⟨by simp [Act.put, h.size], h.defers, fun t => ?_⟩
    by_cases ht : t = d
    · subst ht
      rw [Env.set_same]
      have : t < a.tmps.size := by rw [h.size]; exact hd'
      simp [Act.put, this]
    · rw [Env.set_ne e d v ht]
      have := h.at_ t
      simp only [Act.put]
      rw [← this]
      simp [Array.getElem?_setIfInBounds_ne (Ne.symm ht)]
def KOk (e : Env) (k : Known) : Prop := ∀ t b, (t, b) ∈ k → match b with | some x => e t = .bool x | none => ∀ x, e t ≠ .bool x
theorem kfind_mem {k : Known} {t : Nat} {b : Option Bool} (h : kfind k t = some b) : (t, b) ∈ k := by
  induction k with
  | nil => cases h
  | cons p k ih =>
    obtain ⟨u, c⟩ := p
    unfold kfind at h
    cases hb : Nat.beq u t with
    | true =>
      rw [hb] at h
      obtain rfl : u = t := Nat.eq_of_beq_eq_true hb
      simp only [cond, Option.some.injEq] at h
      subst h
      exact .head _
    | false =>
      rw [hb] at h
      exact .tail _ (ih h)
theorem KOk.nil (e : Env) : KOk e [] := fun _ _ h => by cases h
theorem KOk.drop {e : Env} {k : Known} (h : KOk e k) (d : Option Nat) (v : Value) : KOk (e.set d v) (kdrop d k) := by
  cases d with
  | none => exact h
  | some d =>
    intro t b hm
    unfold kdrop at hm
    obtain ⟨hm, hne⟩ := List.mem_filter.1 hm
    have hne' : t ≠ d := fun e => by subst e; simp at hne
    have := h t b hm
    rw [Env.set_ne e d v hne']
    exact this
theorem KOk.skip {e : Env} {k : Known} (h : KOk e k) (d : Option Nat) : KOk (e.set d undef) (kskip d k) := by
  cases d with
  | none => exact h
  | some d =>
    intro t b hm
    unfold kskip at hm
    rcases List.mem_cons.1 hm with he | hm
    · obtain ⟨rfl, rfl⟩ := Prod.mk.inj he
      show ∀ x, (e.set (some t) undef) t ≠ .bool x
      rw [Env.set_same]
      intro x hx
      cases hx
    · exact h.drop (some d) undef t b hm
theorem KOk.cons {e : Env} {k : Known} (h : KOk e k) {t : Nat} {x : Bool} (ht : e t = .bool x) : KOk e ((t, some x) :: k) := fun u b hm => by
  rcases List.mem_cons.1 hm with he | hm
  · obtain ⟨rfl, rfl⟩ := Prod.mk.inj he
    exact ht
  · exact h u b hm
section
variable {P : Program} {ops : Array Oper} {n : Nat}
theorem yielded_none {a : Act} {j : Nat} (h : gtmp ops j = none) : yielded ops a.tmps j = none := by
  unfold yielded
  unfold gtmp at h
  rw [h]
  rfl
theorem yielded_bool {a : Act} {e : Env} {j t : Nat} (hf : Fr n a e) (h : gtmp ops j = some t) {x : Bool} (hx : e t = .bool x) : yielded ops a.tmps j = some x := by
  unfold yielded
  unfold gtmp at h
  rw [h]
  have := hf.at_ t
  rw [hx] at this
  simp only [Option.bind_some]
  cases hg : a.tmps[t]? with
  | none => rw [Array.getD_eq_getD_getElem?, hg] at this; cases this
  | some v =>
    rw [Array.getD_eq_getD_getElem?, hg] at this
    simp only [Option.getD_some] at this
    subst this
    rfl
theorem yielded_not {a : Act} {e : Env} {j t : Nat} (hf : Fr n a e) (h : gtmp ops j = some t) (hx : ∀ x, e t ≠ .bool x) : yielded ops a.tmps j = none := by
  unfold yielded
  unfold gtmp at h
  rw [h]
  have := hf.at_ t
  simp only [Option.bind_some]
  cases hg : a.tmps[t]? with
  | none => rfl
  | some v =>
    rw [Array.getD_eq_getD_getElem?, hg] at this
    simp only [Option.getD_some] at this
    cases v with
    | bool b => exact absurd this.symm (hx b)
    | _ => rfl
theorem beqW_some {x want : Bool} : beqW (some x) want = (x == want) := by cases x <;> cases want <;> rfl
theorem beqW_none {want : Bool} : beqW none want = false := by cases want <;> rfl
theorem guardW_sound {o : Oper} {k : Known} {e : Env} {a : Act} {run skip : Known → Prop} (hf : Fr n a e) (hk : KOk e k) (h : guardW P ops o k e run skip) :
    ∃ k', KOk e k' ∧ ((Region.wanted o (yielded ops a.tmps) = true ∧ run k') ∨ (Region.wanted o (yielded ops a.tmps) = false ∧ skip k')) := by
  unfold guardW at h
  unfold Region.wanted
  cases hg : o.guard with
  | none =>
    rw [hg] at h
    exact ⟨k, hk, .inl ⟨rfl, h⟩⟩
  | some g =>
    obtain ⟨j, want⟩ := g
    rw [hg] at h
    simp only at h ⊢
    cases ht : gtmp ops j with
    | none =>
      rw [ht] at h
      exact ⟨k, hk, .inr ⟨by rw [yielded_none ht]; rfl, h⟩⟩
    | some t =>
      rw [ht] at h
      simp only at h
      cases hkf : kfind k t with
      | some kb =>
        rw [hkf] at h
        simp only at h
        have hm := hk t kb (kfind_mem hkf)
        refine ⟨k, hk, ?_⟩
        cases kb with
        | none =>
          rw [beqW_none] at h
          exact .inr ⟨by rw [yielded_not hf ht hm]; rfl, h⟩
        | some x =>
          rw [beqW_some] at h
          rw [yielded_bool hf ht hm]
          cases hxw : (x == want) with
          | true => rw [hxw] at h; exact .inl ⟨by simpa using hxw, h⟩
          | false => rw [hxw] at h; exact .inr ⟨by simpa using hxw, h⟩
      | none =>
        rw [hkf] at h
        simp only at h
        rcases h with ⟨hv, h⟩ | ⟨hv, h⟩
        · refine ⟨(t, some true) :: k, hk.cons hv, ?_⟩
          rw [beqW_some] at h
          rw [yielded_bool hf ht hv]
          cases want with
          | true => exact .inl ⟨rfl, h⟩
          | false => exact .inr ⟨rfl, h⟩
        · refine ⟨(t, some false) :: k, hk.cons hv, ?_⟩
          rw [beqW_some] at h
          rw [yielded_bool hf ht hv]
          cases want with
          | true => exact .inr ⟨rfl, h⟩
          | false => exact .inl ⟨rfl, h⟩
theorem Nx_upon {o : Oper} {a : Act} {e : Env} {K : Value → World → Prop} {next : Act → World → Prop} {Q : Exit → Act → World → Prop} (h : ∀ v w, K v w → next (a.put o.dst v) w) :
    ∀ {r : Result Next}, Nx P K r → o.upon P a next Q r
  | .ok (.value v) w', hh => h _ _ hh
  | .ok .skip w', hh => h _ _ hh
  | .ok (.enter f args) w', hh => Calls.mono hh fun en w'' ⟨v, he, hk⟩ => by subst he; exact h _ _ hk
  | .ok (.row row args) w', hh => Rows.mono hh fun _ _ hk => h _ _ hk
def opsOk (n : Nat) (ops : List Oper) : Bool := ops.all fun o => dstOk n o.dst
theorem cops_sound {N : Env → World → Prop} {Q : Exit → Act → World → Prop} (hQ : ∀ a e w, Fr n a e → N e w → Q .normal a w) :
    ∀ (l : List Oper) (k : Known) (a : Act) (e : Env) (w : World), opsOk n l = true → Fr n a e → KOk e k → cops P ops N l k e w → wpList P ops Q l a w
  | [], k, a, e, w, _, hf, _, h => hQ _ _ _ hf h
  | o :: r, k, a, e, w, hok, hf, hk, h => by
    simp only [opsOk, List.all_cons, Bool.and_eq_true] at hok
    obtain ⟨k', hk', ⟨hw, h⟩ | ⟨hw, h⟩⟩ := guardW_sound (a := a) hf hk h
    · unfold wpList
      rw [if_pos hw]
      refine .inl ?_
      unfold Oper.wp
      rw [hf.eval]
      exact Nx_upon (e := e) (fun v w' hK => cops_sound hQ r _ _ _ _ hok.2 (hf.put hok.1 v) (hk'.drop _ _) hK) (opW_Nx h)
    · unfold wpList
      rw [if_neg (by rw [hw]; simp)]
      exact cops_sound hQ r _ _ _ _ hok.2 (hf.put hok.1 undef) (hk'.skip _) h
theorem valQ_quiet {s : Sem Value} {w : World} {K : Value → Prop} {o : Oper} {a : Act} {next : Act → Prop} (h : ∀ v, K v → next (a.put o.dst v)) (hh : valQ P s w K) (he : execOp a.eval o = (do pure (Next.value (← s)))) :
    o.quiet P a (fun w' => ∃ m, w' = w.drewN m) next := by
  obtain ⟨v, hr, hK⟩ := hh
  refine ⟨v, fun w' ⟨m, hm⟩ => ?_, h v hK⟩
  subst hm
  unfold Oper.quietAt
  rw [he]
  simp only [Sem.run_bind, hr m, Result.andThen_ok, Sem.run_pure]
  exact ⟨rfl, rfl⟩
theorem opQ_quiet {o : Oper} {a : Act} {e : Env} {w : World} {K : Value → Prop} {next : Act → Prop} (hf : a.eval = e.ev) (h : ∀ v, K v → next (a.put o.dst v)) (hh : opQ P e.ev o w K) : o.quiet P a (fun w' => ∃ m, w' = w.drewN m) next := by
  have pv : ∀ v, (∀ w, (execOp a.eval o).run P w = .ok (.value v) w) → K v → o.quiet P a (fun w' => ∃ m, w' = w.drewN m) next := fun v hr hK =>
    ⟨v, fun w' _ => by unfold Oper.quietAt; rw [hr]; exact ⟨rfl, rfl⟩, h v hK⟩
  obtain ⟨dst, op, ty, pos, after, guard⟩ := o
  cases op <;> simp only [opQ] at hh
  case move x => exact pv _ (fun w => by simp only [execOp, hf]; rfl) hh
  case assign x => exact pv _ (fun w => by simp only [execOp, hf]; rfl) hh
  case pick c x y =>
    obtain ⟨t, ht, hK⟩ := hh
    exact pv _ (fun w => by simp only [execOp, hf, ht]; rfl) hK
  case nilCheck x =>
    obtain ⟨⟨p, hp⟩, hK⟩ := hh
    rw [hp] at hK
    exact pv _ (fun w => by simp only [execOp, hf, hp]; rfl) hK
  case call c =>
    obtain ⟨callee, args, ats⟩ := c
    cases callee with
    | value f =>
      obtain ⟨v, hr, hK⟩ := hh
      refine ⟨v, fun w' ⟨m, hm⟩ => ?_, h v hK⟩
      subst hm
      have := hr m
      unfold Oper.quietAt
      simp only [execOp, resolve, hf]
      exact this
    | builtin b =>
      obtain ⟨v, hr, hK⟩ := hh
      refine ⟨v, fun w' ⟨m, hm⟩ => ?_, h v hK⟩
      subst hm
      have := hr m
      have hc : (args.map fun | .const _ => true | _ => false) = args.map isConst := by congr 1
      unfold Oper.quietAt
      simp only [execOp, resolve, hf, hc]
      exact this
    | invoke r m => exact hh.elim
  all_goals first | exact hh.elim | exact valQ_quiet h hh (by simp only [execOp, hf])
theorem qops_sound {w : World} {N : Env → Prop} {Q : Act → Prop} (hQ : ∀ a e, Fr n a e → N e → Q a) :
    ∀ (l : List Oper) (k : Known) (a : Act) (e : Env), opsOk n l = true → Fr n a e → KOk e k → qops P ops w N l k e → wpQuiet P ops (fun w' => ∃ m, w' = w.drewN m) Q l a
  | [], k, a, e, _, hf, _, h => hQ _ _ hf h
  | o :: r, k, a, e, hok, hf, hk, h => by
    simp only [opsOk, List.all_cons, Bool.and_eq_true] at hok
    obtain ⟨k', hk', ⟨hw, h⟩ | ⟨hw, h⟩⟩ := guardW_sound (a := a) hf hk h
    · unfold wpQuiet
      rw [if_pos hw]
      exact opQ_quiet hf.eval (fun v hK => qops_sound hQ r _ _ _ hok.2 (hf.put hok.1 v) (hk'.drop _ _) hK) h
    · unfold wpQuiet
      rw [if_neg (by rw [hw]; simp)]
      exact qops_sound hQ r _ _ _ hok.2 (hf.put hok.1 undef) (hk'.skip _) h
theorem opS_still {o : Oper} {a : Act} {e : Env} {w : World} {K : Value → Prop} {next : Act → Prop} (hf : a.eval = e.ev) (h : ∀ v, K v → next (a.put o.dst v)) (hh : opS P e.ev o w K) : o.still P a w next := by
  have pv : ∀ v, (execOp a.eval o).run P w = .ok (.value v) w → K v → o.still P a w next := fun v hr hK => by unfold Oper.still; rw [hr]; exact ⟨rfl, h v hK⟩
  have ps : ∀ {s : Sem Value}, valS P s w K → execOp a.eval o = (do pure (Next.value (← s))) → o.still P a w next := fun {s} ⟨v, hr, hK⟩ he => pv v (by rw [he]; simp only [Sem.run_bind, hr, Result.andThen_ok, Sem.run_pure]) hK
  obtain ⟨dst, op, ty, pos, after, guard⟩ := o
  cases op <;> simp only [opS] at hh
  case move x => exact pv _ (by simp only [execOp, hf]; rfl) hh
  case assign x => exact pv _ (by simp only [execOp, hf]; rfl) hh
  case pick c x y =>
    obtain ⟨t, ht, hK⟩ := hh
    exact pv _ (by simp only [execOp, hf, ht]; rfl) hK
  case nilCheck x =>
    obtain ⟨⟨p, hp⟩, hK⟩ := hh
    rw [hp] at hK
    exact pv _ (by simp only [execOp, hf, hp]; rfl) hK
  case call c =>
    obtain ⟨callee, args, ats⟩ := c
    cases callee with
    | value f =>
      obtain ⟨v, f', args', hr, hc, hK⟩ := hh
      unfold Oper.still
      simp only [execOp, resolve, hf]
      rw [hr]
      exact ⟨rfl, v, hc, h v hK⟩
    | builtin b =>
      obtain ⟨v, hr, hK⟩ := hh
      have hc : (args.map fun | .const _ => true | _ => false) = args.map isConst := by congr 1
      exact pv v (by simp only [execOp, resolve, hf, hc]; exact hr) hK
    | invoke r m => exact hh.elim
  all_goals first | exact hh.elim | exact ps hh (by simp only [execOp, hf])
theorem sops_sound {w : World} {N : Known → Env → Prop} {Q : Act → Prop} (hQ : ∀ a k e, Fr n a e → KOk e k → N k e → Q a) :
    ∀ (l : List Oper) (k : Known) (a : Act) (e : Env), opsOk n l = true → Fr n a e → KOk e k → sops P ops w N l k e → wpStill P ops w Q l a
  | [], k, a, e, _, hf, hk, h => hQ _ _ _ hf hk h
  | o :: r, k, a, e, hok, hf, hk, h => by
    simp only [opsOk, List.all_cons, Bool.and_eq_true] at hok
    obtain ⟨k', hk', ⟨hw, h⟩ | ⟨hw, h⟩⟩ := guardW_sound (a := a) hf hk h
    · unfold wpStill
      rw [if_pos hw]
      exact opS_still hf.eval (fun v hK => sops_sound hQ r _ _ _ hok.2 (hf.put hok.1 v) (hk'.drop _ _) hK) h
    · unfold wpStill
      rw [if_neg (by rw [hw]; simp)]
      exact sops_sound hQ r _ _ _ hok.2 (hf.put hok.1 undef) (hk'.skip _) h
theorem pureW_yields {o : Oper} {a : Act} {e : Env} {K : Value → Prop} (hf : a.eval = e.ev) (hh : pureW P e.ev o K) : ∃ v, (∀ w, (execOp a.eval o).run P w = .ok (.value v) w) ∧ K v := by
  have pp : ∀ {s : Sem Value}, pureP P s K → execOp a.eval o = (do pure (Next.value (← s))) → ∃ v, (∀ w, (execOp a.eval o).run P w = .ok (.value v) w) ∧ K v := fun {s} ⟨v, hr, hK⟩ he =>
    ⟨v, fun w => by rw [he]; simp only [Sem.run_bind, hr w, Result.andThen_ok, Sem.run_pure], hK⟩
  obtain ⟨dst, op, ty, pos, after, guard⟩ := o
  cases op <;> simp only [pureW] at hh
  case move x => exact ⟨_, fun w => by simp only [execOp, hf]; rfl, hh⟩
  case assign x => exact ⟨_, fun w => by simp only [execOp, hf]; rfl, hh⟩
  case pick c x y =>
    obtain ⟨t, ht, hK⟩ := hh
    exact ⟨_, fun w => by simp only [execOp, hf, ht]; rfl, hK⟩
  case nilCheck x =>
    obtain ⟨⟨p, hp⟩, hK⟩ := hh
    rw [hp] at hK
    exact ⟨_, fun w => by simp only [execOp, hf, hp]; rfl, hK⟩
  all_goals first | exact hh.elim | exact pp hh (by simp only [execOp, hf])
def cnt (l : List Bool) : Nat := l.countP fun b => !b
theorem cnt_set {l : List Bool} {i : Nat} (h : l.toArray.getD i true = false) : cnt (l.set i true) + 1 = cnt l := by
  have hi : i < l.length := by
    rcases Nat.lt_or_ge i l.length with h' | h'
    · exact h'
    · simp [List.getElem?_eq_none h'] at h
  have hv : l[i] = false := by simpa [hi] using h
  unfold cnt
  rw [List.countP_set hi]
  have : 0 < List.countP (fun b => !b) l := List.countP_pos_iff.2 ⟨l[i], List.getElem_mem hi, by simp [hv]⟩
  simp [hv]
  omega
theorem both_left {b : Bool} {A B : Prop} (h : both b A B) : A := by cases b <;> simp [both] at h <;> first | exact h | exact h.1
theorem both_right {b : Bool} {A B : Prop} (hb : b = false) (h : both b A B) : B := by subst hb; exact h.2
theorem tree_sound {N : Env → World → Prop} {Q : Exit → Act → World → Prop} (hsel : Region.noSelect ops = true) (hok : opsOk n ops.toList = true) (hQ : ∀ a e w, Fr n a e → N e w → Q .normal a w)
    (hQp : ∀ c a a' w, Q (.panic c) a w → Q (.panic c) a' w) :
    ∀ (pl : Plan) (l : List Bool), (planOk ops pl l = true → ∀ (f : Nat) (k : Known) (a : Act) (e : Env) (w : World), cnt l ≤ f → Fr n a e → KOk e k → tree P ops N pl k e w → wpAny P .any ops Q f l.toArray a w) ∧
      (planOk.moreOk ops pl l = true → ∀ (f : Nat) (k : Known) (a : Act) (e : Env) (w : World), cnt l ≤ f + 1 → Fr n a e → KOk e k → tree P ops N pl k e w → ∀ i ∈ alts pl, i ∈ Region.ready .any ops l.toArray → wpOp P ops Q i (wpAny P .any ops Q f (l.toArray.setIfInBounds i true)) a w) := by
  have hdst : ∀ {i : Nat} {o : Oper}, ops[i]? = some o → dstOk n o.dst = true := fun {i o} ho => by
    have := List.all_eq_true.1 hok o (by
      obtain ⟨hi, he⟩ := Array.getElem?_eq_some_iff.1 ho
      rw [← he]; simp)
    exact this
  have one : ∀ {i : Nat} {l l' : List Bool} {p : Plan}, (l.set i true == l') = true → i ∈ Region.ready .any ops l.toArray →
      (∀ (f : Nat) (k : Known) (a : Act) (e : Env) (w : World), cnt l' ≤ f → Fr n a e → KOk e k → tree P ops N p k e w → wpAny P .any ops Q f l'.toArray a w) →
      ∀ (f : Nat) (k : Known) (a : Act) (e : Env) (w : World), cnt l ≤ f + 1 → Fr n a e → KOk e k →
      (match ops[i]? with
      | some o => guardW P ops o k e (fun k => opW P e.ev o w fun v w' => tree P ops N p (kdrop o.dst k) (e.set o.dst v) w') (fun k => tree P ops N p (kskip o.dst k) (e.set o.dst undef) w)
      | none => False) → wpOp P ops Q i (wpAny P .any ops Q f (l.toArray.setIfInBounds i true)) a w := by
    intro i l l' p hl hi ih f k a e w hc hf hk h
    obtain rfl : l.set i true = l' := by simpa using hl
    have hcs := cnt_set (mem_ready.1 hi).1
    unfold wpOp
    cases ho : ops[i]? with
    | none => rw [ho] at h; exact h.elim
    | some o =>
      rw [ho] at h
      simp only at h ⊢
      have hset : l.toArray.setIfInBounds i true = (l.set i true).toArray := by simp
      rw [hset]
      obtain ⟨k', hk', ⟨hw, h⟩ | ⟨hw, h⟩⟩ := guardW_sound (a := a) hf hk h
      · rw [if_pos hw]
        refine .inl ?_
        unfold Oper.wp
        rw [hf.eval]
        exact Nx_upon (e := e) (fun v w' hK => ih f _ _ _ _ (by omega) (hf.put (hdst ho) v) (hk'.drop _ _) hK) (opW_Nx h)
      · rw [if_neg (by rw [hw]; simp)]
        exact ih f _ _ _ _ (by omega) (hf.put (hdst ho) undef) (hk'.skip _) h
  intro pl
  induction pl with
  | done =>
    intro l
    refine ⟨fun hp f k a e w _ hf _ h => ?_, fun hp => by simp [planOk.moreOk] at hp⟩
    have hr : Region.ready .any ops l.toArray = [] := by simpa [planOk] using hp
    exact wpAny_done hr (hQ _ _ _ hf h) f
  | stop => exact fun l => ⟨fun hp => by simp [planOk] at hp, fun hp f k a e w _ hf _ h i hi => by simp [alts] at hi⟩
  | take i l' p ih =>
    intro l
    refine ⟨fun hp f k a e w hc hf hk h => ?_, fun hp => by simp [planOk.moreOk] at hp⟩
    simp only [planOk, Bool.and_eq_true] at hp
    obtain ⟨⟨⟨h1, h2⟩, h3⟩, h4⟩ := hp
    obtain rfl : l.set i true = l' := by simpa using h3
    have hmem : i ∈ Region.ready .any ops l.toArray := by simpa using h2
    have hcs := cnt_set (mem_ready.1 hmem).1
    obtain ⟨f, rfl⟩ : ∃ g, f = g + 1 := ⟨f - 1, by omega⟩
    have hset : l.toArray.setIfInBounds i true = (l.set i true).toArray := by simp
    unfold tree at h
    cases ho : ops[i]? with
    | none => rw [ho] at h; exact h.elim
    | some o =>
      rw [ho] at h
      simp only at h
      obtain ⟨k', hk', ⟨hw, h⟩ | ⟨hw, h⟩⟩ := guardW_sound (a := a) hf hk h
      · obtain ⟨v, hy, h⟩ := pureW_yields hf.eval h
        exact wpAny_first ho (Region.noSelect_spec hsel) (fun c a' w' => hQp _ _ _ _) f _ a w (Region.free_spec ho h1) hmem (.inl ⟨hw, hy⟩)
          (by rw [hset]; exact (ih _).1 h4 f _ _ _ _ (by omega) (hf.put (hdst ho) v) (hk'.drop _ _) h)
      · exact wpAny_first ho (Region.noSelect_spec hsel) (fun c a' w' => hQp _ _ _ _) f _ a w (Region.free_spec ho h1) hmem (.inr ⟨hw, rfl⟩)
          (by rw [hset]; exact (ih _).1 h4 f _ _ _ _ (by omega) (hf.put (hdst ho) undef) (hk'.skip _) h)
  | alt i l' p m ihp ihm =>
    intro l
    refine ⟨fun hp f k a e w hc hf hk h => ?_, fun hp f k a e w hc hf hk h j hj hr => ?_⟩
    · simp only [planOk, Bool.and_eq_true] at hp
      obtain ⟨⟨⟨h1, h2⟩, h3⟩, h4⟩ := hp
      have hr : Region.ready .any ops l.toArray = i :: alts m := by simpa using h1
      have hmem : i ∈ Region.ready .any ops l.toArray := by rw [hr]; exact .head _
      have hcs := cnt_set (mem_ready.1 hmem).1
      obtain ⟨f, rfl⟩ : ∃ g, f = g + 1 := ⟨f - 1, by omega⟩
      refine ⟨fun h0 => (by rw [hr] at h0; cases h0), fun j hj => ?_⟩
      have hj' := hj
      rw [hr] at hj'
      rcases List.mem_cons.1 hj' with rfl | hj'
      · exact one h2 hj ((ihp _).1 h3) f k a e w hc hf hk (both_left h)
      · exact (ihm l).2 h4 f k a e w hc hf hk (both_right (by cases m <;> first | rfl | (simp [alts] at hj')) h) j hj' hj
    · simp only [planOk.moreOk, Bool.and_eq_true] at hp
      obtain ⟨⟨h2, h3⟩, h4⟩ := hp
      rcases List.mem_cons.1 hj with rfl | hj
      · exact one h2 hr ((ihp _).1 h3) f k a e w hc hf hk (both_left h)
      · exact (ihm l).2 h4 f k a e w hc hf hk (both_right (by cases m <;> first | rfl | (simp [alts] at hj)) h) j hj hr
theorem kval_ok {e : Env} {k : Known} (hk : KOk e k) {x : Operand} {b : Bool} (h : kval k x = some (some b)) : e.ev x = .bool b := by
  cases x with
  | tmp t => exact hk t (some b) (kfind_mem h)
  | const v =>
    cases v <;> simp only [kval] at h <;> first | (cases h; done) | skip
    rename_i y
    injection h with h
    injection h with h
    rw [h]
    rfl
  | _ => cases h
theorem opJ_yields {J : World → Prop} {o : Oper} {a : Act} {e : Env} {k : Known} {K : Value → Prop} (hf : a.eval = e.ev) (hk : KOk e k) (hh : opJ P J e.ev o K) :
    ∃ v, (∀ w, J w → (execOp a.eval o).run P w = .ok (.value v) w) ∧ K v ∧ ∀ b, kres o k = some (some b) → v = .bool b := by
  have pp : ∀ {s : Sem Value}, valJ P J s K → execOp a.eval o = (do pure (Next.value (← s))) → ∃ v, (∀ w, J w → (execOp a.eval o).run P w = .ok (.value v) w) ∧ K v := fun {s} ⟨v, hr, hK⟩ he =>
    ⟨v, fun w hw => by rw [he]; simp only [Sem.run_bind, hr w hw, Result.andThen_ok, Sem.run_pure], hK⟩
  have qq : (∃ v, (∀ w, J w → (execOp a.eval o).run P w = .ok (.value v) w) ∧ K v) → kres o k = none → ∃ v, (∀ w, J w → (execOp a.eval o).run P w = .ok (.value v) w) ∧ K v ∧ ∀ b, kres o k = some (some b) → v = .bool b :=
    fun ⟨v, h1, h2⟩ hn => ⟨v, h1, h2, fun b hb => by rw [hn] at hb; cases hb⟩
  obtain ⟨dst, op, ty, pos, after, guard⟩ := o
  cases op <;> simp only [opJ] at hh
  case move x => exact ⟨_, fun w _ => by simp only [execOp, hf]; rfl, hh, fun b hb => kval_ok hk hb⟩
  case assign x => exact ⟨_, fun w _ => by simp only [execOp, hf]; rfl, hh, fun b hb => kval_ok hk hb⟩
  case pick c x y =>
    obtain ⟨t, ht, hK⟩ := hh
    refine ⟨_, fun w _ => by simp only [execOp, hf, ht]; rfl, hK, fun b hb => ?_⟩
    cases c with
    | tmp c =>
      simp only [kres] at hb
      split at hb
      · rename_i hc
        have := hk c _ (kfind_mem hc)
        simp only at this
        have h2 : Value.bool t = .bool true := ht.symm.trans this
        injection h2 with h2
        subst h2
        exact kval_ok hk hb
      · rename_i hc
        have := hk c _ (kfind_mem hc)
        simp only at this
        have h2 : Value.bool t = .bool false := ht.symm.trans this
        injection h2 with h2
        subst h2
        exact kval_ok hk hb
      · cases hb
    | _ => cases hb
  case nilCheck x =>
    obtain ⟨⟨p, hp⟩, hK⟩ := hh
    rw [hp] at hK
    exact ⟨_, fun w _ => by simp only [execOp, hf, hp]; rfl, hK, fun b hb => by cases hb⟩
  case call c =>
    obtain ⟨callee, args, ats⟩ := c
    cases callee with
    | value f => exact hh.elim
    | builtin b =>
      obtain ⟨v, hr, hK⟩ := hh
      have hc : (args.map fun | .const _ => true | _ => false) = args.map isConst := by
        congr 1
      refine ⟨v, fun w hw => ?_, hK, fun b hb => by cases hb⟩
      simp only [execOp, resolve, hc, hf]
      exact hr w hw
    | invoke r m => exact hh.elim
  all_goals first | exact hh.elim | exact qq (pp hh (by simp only [execOp, hf])) rfl
theorem KOk.after {e : Env} {k : Known} (h : KOk e k) (o : Oper) {v : Value} (hv : ∀ b, kres o k = some (some b) → v = .bool b) : KOk (e.set o.dst v) (kafter o k) := by
  unfold kafter
  split
  · rename_i d x hd hr
    rw [hd]
    exact (h.drop (some d) v).cons (by rw [Env.set_same]; exact hv _ hr)
  · exact h.drop _ _
theorem treeJ_sound {J : World → Prop} {N : Env → World → Prop} {Q : Exit → Act → World → Prop} (hsel : Region.noSelect ops = true) (hok : opsOk n ops.toList = true) (hQ : ∀ a e w, Fr n a e → N e w → Q .normal a w)
    (hQp : ∀ c a a' w, Q (.panic c) a w → Q (.panic c) a' w) :
    ∀ (pl : Plan) (l : List Bool), (planOk ops pl l = true → ∀ (f : Nat) (k : Known) (a : Act) (e : Env) (w : World), cnt l ≤ f → Fr n a e → KOk e k → J w → treeJ P ops J N pl k e w → wpAnyH P .any ops Q J f l.toArray a w) ∧
      (planOk.moreOk ops pl l = true → ∀ (f : Nat) (k : Known) (a : Act) (e : Env) (w : World), cnt l ≤ f + 1 → Fr n a e → KOk e k → J w → treeJ P ops J N pl k e w → ∀ i ∈ alts pl, i ∈ Region.ready .any ops l.toArray →
        wpOp P ops Q i (fun a' w' => J w' ∧ wpAnyH P .any ops Q J f (l.toArray.setIfInBounds i true) a' w') a w) := by
  have hdst : ∀ {i : Nat} {o : Oper}, ops[i]? = some o → dstOk n o.dst = true := fun {i o} ho => by
    have := List.all_eq_true.1 hok o (by
      obtain ⟨hi, he⟩ := Array.getElem?_eq_some_iff.1 ho
      rw [← he]; simp)
    exact this
  have one : ∀ {i : Nat} {l l' : List Bool} {p : Plan}, (l.set i true == l') = true → i ∈ Region.ready .any ops l.toArray →
      (∀ (f : Nat) (k : Known) (a : Act) (e : Env) (w : World), cnt l' ≤ f → Fr n a e → KOk e k → J w → treeJ P ops J N p k e w → wpAnyH P .any ops Q J f l'.toArray a w) →
      ∀ (f : Nat) (k : Known) (a : Act) (e : Env) (w : World), cnt l ≤ f + 1 → Fr n a e → KOk e k → J w →
      (match ops[i]? with
      | some o => guardW P ops o k e (fun k => opW P e.ev o w fun v w' => J w' ∧ treeJ P ops J N p (kdrop o.dst k) (e.set o.dst v) w') (fun k => treeJ P ops J N p (kskip o.dst k) (e.set o.dst undef) w)
      | none => False) → wpOp P ops Q i (fun a' w' => J w' ∧ wpAnyH P .any ops Q J f (l.toArray.setIfInBounds i true) a' w') a w := by
    intro i l l' p hl hi ih f k a e w hc hf hk hJ h
    obtain rfl : l.set i true = l' := by simpa using hl
    have hcs := cnt_set (mem_ready.1 hi).1
    unfold wpOp
    cases ho : ops[i]? with
    | none => rw [ho] at h; exact h.elim
    | some o =>
      rw [ho] at h
      simp only at h ⊢
      have hset : l.toArray.setIfInBounds i true = (l.set i true).toArray := by simp
      rw [hset]
      obtain ⟨k', hk', ⟨hw, h⟩ | ⟨hw, h⟩⟩ := guardW_sound (a := a) hf hk h
      · rw [if_pos hw]
        refine .inl ?_
        unfold Oper.wp
        rw [hf.eval]
        exact Nx_upon (e := e) (fun v w' hK => ⟨hK.1, ih f _ _ _ _ (by omega) (hf.put (hdst ho) v) (hk'.drop _ _) hK.1 hK.2⟩) (opW_Nx h)
      · rw [if_neg (by rw [hw]; simp)]
        exact ⟨hJ, ih f _ _ _ _ (by omega) (hf.put (hdst ho) undef) (hk'.skip _) hJ h⟩
  intro pl
  induction pl with
  | done =>
    intro l
    refine ⟨fun hp f k a e w _ hf _ _ h => ?_, fun hp => by simp [planOk.moreOk] at hp⟩
    have hr : Region.ready .any ops l.toArray = [] := by simpa [planOk] using hp
    exact wpAnyH_done hr (hQ _ _ _ hf h) f
  | stop => exact fun l => ⟨fun hp => by simp [planOk] at hp, fun hp f k a e w _ hf _ _ h i hi => by simp [alts] at hi⟩
  | take i l' p ih =>
    intro l
    refine ⟨fun hp f k a e w hc hf hk hJ h => ?_, fun hp => by simp [planOk.moreOk] at hp⟩
    simp only [planOk, Bool.and_eq_true] at hp
    obtain ⟨⟨⟨h1, h2⟩, h3⟩, h4⟩ := hp
    obtain rfl : l.set i true = l' := by simpa using h3
    have hmem : i ∈ Region.ready .any ops l.toArray := by simpa using h2
    have hcs := cnt_set (mem_ready.1 hmem).1
    obtain ⟨f, rfl⟩ : ∃ g, f = g + 1 := ⟨f - 1, by omega⟩
    have hset : l.toArray.setIfInBounds i true = (l.set i true).toArray := by simp
    unfold treeJ at h
    cases ho : ops[i]? with
    | none => rw [ho] at h; exact h.elim
    | some o =>
      rw [ho] at h
      simp only at h
      obtain ⟨k', hk', ⟨hw, h⟩ | ⟨hw, h⟩⟩ := guardW_sound (a := a) hf hk h
      · obtain ⟨v, hy, h, hv⟩ := opJ_yields hf.eval hk' h
        exact wpAnyH_take ho hsel h1 (by simpa using h2) (fun c a' w' => hQp _ _ _ _) (.inl ⟨hw, hy⟩) hJ
          (by rw [hset]; exact (ih _).1 h4 f _ _ _ _ (by omega) (hf.put (hdst ho) v) (hk'.after _ hv) hJ h)
      · exact wpAnyH_take ho hsel h1 (by simpa using h2) (fun c a' w' => hQp _ _ _ _) (.inr ⟨hw, rfl⟩) hJ
          (by rw [hset]; exact (ih _).1 h4 f _ _ _ _ (by omega) (hf.put (hdst ho) undef) (hk'.skip _) hJ h)
  | alt i l' p m ihp ihm =>
    intro l
    refine ⟨fun hp f k a e w hc hf hk hJ h => ?_, fun hp f k a e w hc hf hk hJ h j hj hr => ?_⟩
    · simp only [planOk, Bool.and_eq_true] at hp
      obtain ⟨⟨⟨h1, h2⟩, h3⟩, h4⟩ := hp
      have hr : Region.ready .any ops l.toArray = i :: alts m := by simpa using h1
      have hmem : i ∈ Region.ready .any ops l.toArray := by rw [hr]; exact .head _
      have hcs := cnt_set (mem_ready.1 hmem).1
      obtain ⟨f, rfl⟩ : ∃ g, f = g + 1 := ⟨f - 1, by omega⟩
      refine ⟨fun h0 => (by rw [hr] at h0; cases h0), fun j hj => ?_⟩
      have hj' := hj
      rw [hr] at hj'
      rcases List.mem_cons.1 hj' with rfl | hj'
      · exact one h2 hj ((ihp _).1 h3) f k a e w hc hf hk hJ (both_left h)
      · exact (ihm l).2 h4 f k a e w hc hf hk hJ (both_right (by cases m <;> first | rfl | (simp [alts] at hj')) h) j hj' hj
    · simp only [planOk.moreOk, Bool.and_eq_true] at hp
      obtain ⟨⟨h2, h3⟩, h4⟩ := hp
      rcases List.mem_cons.1 hj with rfl | hj
      · exact one h2 hr ((ihp _).1 h3) f k a e w hc hf hk hJ (both_left h)
      · exact (ihm l).2 h4 f k a e w hc hf hk hJ (both_right (by cases m <;> first | rfl | (simp [alts] at hj)) h) j hj hr
theorem valP.mono {s : Sem Value} {w : World} {K K' : Value → World → Prop} (h : ∀ v w, K v w → K' v w) (hh : valP P s w K) : valP P s w K' :=
  let ⟨v, w', a, b⟩ := hh; ⟨v, w', a, h _ _ b⟩
theorem unitP.mono {s : Sem Unit} {w : World} {K K' : Value → World → Prop} (h : ∀ v w, K v w → K' v w) (hh : unitP P s w K) : unitP P s w K' :=
  let ⟨w', a, b⟩ := hh; ⟨w', a, h _ _ b⟩
theorem opW.mono {ρ : Operand → Value} {o : Oper} {w : World} {K K' : Value → World → Prop} (h : ∀ v w, K v w → K' v w) (hh : opW P ρ o w K) : opW P ρ o w K' := by
  obtain ⟨dst, op, ty, pos, after, guard⟩ := o
  cases op <;> simp only [opW] at hh ⊢
  case move x => exact h _ _ hh
  case assign x => exact h _ _ hh
  case pick c a b => obtain ⟨t, ht, hK⟩ := hh; exact ⟨t, ht, h _ _ hK⟩
  case nilCheck x => exact ⟨hh.1, h _ _ hh.2⟩
  case store => exact unitP.mono h hh
  case mapUpdate => exact unitP.mono h hh
  case insert => exact unitP.mono h hh
  case call c =>
    obtain ⟨callee, args, ats⟩ := c
    cases callee with
    | value f => exact Nx.mono h hh
    | builtin b => exact Nx.mono h hh
    | invoke r m => exact hh.elim
  all_goals first | exact hh.elim | exact valP.mono h hh
theorem opW_known {e : Env} {o : Oper} {k : Known} {w : World} {K : Value → World → Prop} (hk : KOk e k) (hh : opW P e.ev o w K) : opW P e.ev o w fun v w' => K v w' ∧ ∀ b, kres o k = some (some b) → v = .bool b := by
  have triv : kres o k = none → opW P e.ev o w fun v w' => K v w' ∧ ∀ b, kres o k = some (some b) → v = .bool b := fun hn =>
    opW.mono (fun v w' h => ⟨h, fun b hb => by rw [hn] at hb; cases hb⟩) hh
  obtain ⟨dst, op, ty, pos, after, guard⟩ := o
  cases op
  case move x => exact ⟨hh, fun b hb => kval_ok hk hb⟩
  case assign x => exact ⟨hh, fun b hb => kval_ok hk hb⟩
  case pick c x y =>
    obtain ⟨t, ht, hK⟩ := hh
    refine ⟨t, ht, hK, fun b hb => ?_⟩
    cases c with
    | tmp c =>
      simp only [kres] at hb
      split at hb
      · rename_i hc
        have := hk c _ (kfind_mem hc)
        simp only at this
        have h2 : Value.bool t = .bool true := ht.symm.trans this
        injection h2 with h2
        subst h2
        exact kval_ok hk hb
      · rename_i hc
        have := hk c _ (kfind_mem hc)
        simp only at this
        have h2 : Value.bool t = .bool false := ht.symm.trans this
        injection h2 with h2
        subst h2
        exact kval_ok hk hb
      · cases hb
    | _ => cases hb
  all_goals exact triv rfl
theorem copsK_sound {N : Env → World → Prop} {Q : Exit → Act → World → Prop} (hQ : ∀ a e w, Fr n a e → N e w → Q .normal a w) :
    ∀ (l : List Oper) (k : Known) (a : Act) (e : Env) (w : World), opsOk n l = true → Fr n a e → KOk e k → copsK P ops N l k e w → wpList P ops Q l a w
  | [], k, a, e, w, _, hf, _, h => hQ _ _ _ hf h
  | o :: r, k, a, e, w, hok, hf, hk, h => by
    simp only [opsOk, List.all_cons, Bool.and_eq_true] at hok
    obtain ⟨k', hk', ⟨hw, h⟩ | ⟨hw, h⟩⟩ := guardW_sound (a := a) hf hk h
    · unfold wpList
      rw [if_pos hw]
      refine .inl ?_
      unfold Oper.wp
      rw [hf.eval]
      exact Nx_upon (e := e) (fun v w' hK => copsK_sound hQ r _ _ _ _ hok.2 (hf.put hok.1 v) (hk'.after _ hK.2) hK.1) (opW_Nx (opW_known hk' h))
    · unfold wpList
      rw [if_neg (by rw [hw]; simp)]
      exact copsK_sound hQ r _ _ _ _ hok.2 (hf.put hok.1 undef) (hk'.skip _) h
end
def codeOk (n : Nat) : Code → Bool
  | .region _ ops _ => opsOk n ops.toList
  | .seq x y => codeOk n x && codeOk n y
  | .cond _ x y => codeOk n x && codeOk n y
  | .block _ b => codeOk n b
  | .loop b => codeOk n b
  | .skip | .exit _ | .goto _ | .ret => true
  | _ => false
def QA (n : Nat) (Q : Exit → Env → World → Prop) : Exit → Act → World → Prop := fun x a w => (∀ c, x ≠ .panic c) ∧ ∃ e, Fr n a e ∧ Q x e w
theorem cwp_sound {P : Program} {st : Nat → Nat} {n : Nat} (hm : P.follows .mixedOrders = true) : ∀ (c : Code) (Q : Exit → Env → World → Prop) (a : Act) (e : Env) (w : World), codeOk n c = true → Fr n a e → cwp P st c Q e w → c.wp P (QA n Q) a w
  | .skip, Q, a, e, w, _, hf, h => wp_skip ⟨fun c hc => (by cases hc), e, hf, h⟩
  | .exit id, Q, a, e, w, _, hf, h => wp_exit ⟨fun c hc => (by cases hc), e, hf, h⟩
  | .goto l, Q, a, e, w, _, hf, h => wp_goto ⟨fun c hc => (by cases hc), e, hf, h⟩
  | .ret, Q, a, e, w, _, hf, h => wp_ret ⟨fun c hc => (by cases hc), e, hf, h⟩
  | .region id ops false, Q, a, e, w, hok, hf, h => by
    unfold cwp at h
    rcases h with h | h
    · exact wp_region_list (cops_sound (fun a e w hf hN => ⟨fun c hc => (by cases hc), e, hf, hN⟩) _ _ _ _ _ hok hf (KOk.nil e) h)
    · exact wp_region_list (copsK_sound (fun a e w hf hN => ⟨fun c hc => (by cases hc), e, hf, hN⟩) _ _ _ _ _ hok hf (KOk.nil e) h)
  | .region id ops true, Q, a, e, w, hok, hf, h => by
    unfold cwp at h
    split at h
    · obtain ⟨hsel, pl, hpl, h⟩ := h
      have hc : cnt (List.replicate ops.size false) ≤ ops.size := by
        have := List.countP_le_length (p := fun b => !b) (l := List.replicate ops.size false)
        rw [List.length_replicate] at this
        exact this
      have hrep : (List.replicate ops.size false).toArray = Array.replicate ops.size false := by simp
      rcases h with h | h
      · refine wp_region_any hm ?_
        have := (tree_sound (P := P) (Q := QA n Q) hsel hok (fun a e w hf hN => ⟨fun c hc => (by cases hc), e, hf, hN⟩) (fun c a a' w hq => absurd rfl (hq.1 c)) pl _).1 hpl ops.size [] a e _ hc hf (KOk.nil e) (h 1)
        rw [hrep] at this
        exact this
      · obtain ⟨J, hJ, h⟩ := h 1
        refine wp_region_held (S := J) hm ?_
        have := (treeJ_sound (P := P) (Q := QA n Q) hsel hok (fun a e w hf hN => ⟨fun c hc => (by cases hc), e, hf, hN⟩) (fun c a a' w hq => absurd rfl (hq.1 c)) pl _).1 hpl ops.size [] a e _ hc hf (KOk.nil e) hJ h
        rw [hrep] at this
        exact this
    · obtain ⟨hB, h⟩ := h
      refine wp_region_quiet (C := fun w' => ∃ m, w' = w.drewN m) hm hB ⟨1, rfl⟩ ?_
      refine qops_sound (n := n) (fun a e hf hN w' ⟨m, hm⟩ => ?_) _ _ _ _ hok hf (KOk.nil e) h
      subst hm
      exact ⟨fun c hc => (by cases hc), e, hf, hN m⟩
    · rename_i k _
      obtain ⟨hB, h⟩ := h
      obtain ⟨l⟩ := ops
      have hok1 : opsOk n (l.take k) = true := List.all_eq_true.2 fun o ho => List.all_eq_true.1 hok o (List.mem_of_mem_take ho)
      have hok2 : opsOk n (l.drop k) = true := List.all_eq_true.2 fun o ho => List.all_eq_true.1 hok o (List.mem_of_mem_drop ho)
      exact wp_region_still_tail k hm hB (sops_sound (n := n) (fun a' k' e' hf' hk' hN => cops_sound (Q := QA n Q) (fun a e w hf hN => ⟨fun c hc => (by cases hc), e, hf, hN⟩) _ _ _ _ _ hok2 hf' hk' hN) _ _ _ _ hok1 hf (KOk.nil e) (h 1))
  | .seq x y, Q, a, e, w, hok, hf, h => by
    simp only [codeOk, Bool.and_eq_true] at hok
    refine wp_seq (wp_mono (cwp_sound hm x _ a e w hok.1 hf h) fun x' a' w' ⟨hp, e', hf', hQ⟩ => ?_)
    cases x' with
    | normal => exact cwp_sound hm y Q a' e' w' hok.2 hf' hQ
    | panic c => exact absurd rfl (hp c)
    | _ => exact ⟨hp, e', hf', hQ⟩
  | .cond c x y, Q, a, e, w, hok, hf, h => by
    simp only [codeOk, Bool.and_eq_true] at hok
    rcases h with ⟨hv, h⟩ | ⟨hv, h⟩
    · exact wp_cond_true (by rw [hf.eval]; exact hv) (cwp_sound hm x Q a e w hok.1 hf h)
    · exact wp_cond_false (by rw [hf.eval]; exact hv) (cwp_sound hm y Q a e w hok.2 hf h)
  | .block id b, Q, a, e, w, hok, hf, h => by
    refine wp_block (wp_mono (cwp_sound hm b _ a e w hok hf h) fun x' a' w' ⟨hp, e', hf', hQ⟩ => ?_)
    cases x' with
    | exit id' =>
      simp only [inBlockE] at hQ
      simp only [Exit.inBlock]
      by_cases hid : id' = id
      · subst hid
        rw [if_pos rfl]
        simp only [Nat.beq_refl, cond] at hQ
        exact ⟨fun c hc => (by cases hc), e', hf', hQ⟩
      · rw [if_neg hid]
        have : Nat.beq id' id = false := by
          cases hb : Nat.beq id' id with
          | true => exact absurd (Nat.eq_of_beq_eq_true hb) hid
          | false => rfl
        simp only [this, cond] at hQ
        exact ⟨fun c hc => (by cases hc), e', hf', hQ⟩
    | panic c => exact absurd rfl (hp c)
    | _ => exact ⟨hp, e', hf', hQ⟩
  | .loop b, Q, a, e, w, hok, hf, h => by
    obtain ⟨I, μ, h0, hr⟩ := h
    refine wp_loop (fun a' w' => ∃ e', Fr n a' e' ∧ I e' w') (fun a' w' => μ (fun t => a'.tmps.getD t undef) w') ⟨e, hf, h0⟩ fun a' w' ⟨e', hf', hI⟩ => ?_
    have hea : ∀ {a : Act} {e : Env}, Fr n a e → (fun t => a.tmps.getD t undef) = e := fun hf => funext hf.at_
    refine wp_mono (cwp_sound hm b _ a' e' w' hok hf' (hr e' w' hI)) fun x a'' w'' ⟨hp, e'', hf'', hQ⟩ => ?_
    cases x with
    | normal =>
      obtain ⟨hI', hlt⟩ := hQ
      exact ⟨⟨e'', hf'', hI'⟩, by rw [hea hf', hea hf'']; exact hlt⟩
    | panic c => exact absurd rfl (hp c)
    | _ => exact ⟨hp, e'', hf'', hQ⟩
def endE (P : Program) (fn : Func) (R : Value → World → Prop) : Exit → Env → World → Prop
  | .normal, e, w | .ret, e, w => resV P e w (fun vs => R (tupleOf vs) w) fn.results.toList []
  | _, _, _ => False
def argsE (args : Array Value) : Env := fun t => args.getD t undef
def resF (tmps : Array Value) (x : ResultVar) : Sem Value :=
  match x with
  | .tmp t => pure (tmps.getD t undef)
  | .cell a t => do loadVar t (← asAddr (tmps.getD a undef))
theorem resV_run {P : Program} {e : Env} {w : World} {K : List Value → Prop} {tmps : Array Value} (ht : ∀ t, tmps.getD t undef = e t) : ∀ (rs : List ResultVar) (acc : List Value), resV P e w K rs acc →
    ∃ vs, (rs.mapM (resF tmps)).run P w = Result.ok vs w ∧ K (acc ++ vs)
  | [], acc, h => ⟨[], rfl, by rw [List.append_nil]; exact h⟩
  | .tmp t :: r, acc, h => by
    obtain ⟨vs, hr, hK⟩ := resV_run ht r _ h
    refine ⟨e t :: vs, ?_, by simpa using hK⟩
    rw [List.mapM_cons]
    simp only [Sem.run_bind, Sem.run_pure, Result.andThen_ok, hr, resF, ht]
  | .cell a t :: r, acc, h => by
    obtain ⟨v, hv, h⟩ := h
    obtain ⟨vs, hr, hK⟩ := resV_run ht r _ h
    refine ⟨v :: vs, ?_, by simpa using hK⟩
    unfold loadC at hv
    rw [← ht a] at hv
    rw [List.mapM_cons, Sem.run_bind]
    unfold resF at hr ⊢
    simp only
    rw [hv]
    simp only [Sem.run_bind, Sem.run_pure, Result.andThen_ok, hr]
theorem results_of {P : Program} {fn : Func} {e : Env} {a : Act} {n : Nat} (hf : Fr n a e) {w : World} {R : Value → Prop} (h : resV P e w (fun vs => R (tupleOf vs)) fn.results.toList []) : ∃ v, (results fn a.tmps).run P w = .ok v w ∧ R v := by
  obtain ⟨vs, hr, hK⟩ := resV_run hf.at_ _ _ h
  refine ⟨tupleOf vs, ?_, by simpa using hK⟩
  have e0 : results fn a.tmps = (fn.results.mapM (resF a.tmps) >>= fun vs => pure (if h : vs.size = 1 then vs[0] else .tuple vs)) := rfl
  have e1 : fn.results.mapM (resF a.tmps) = List.toArray <$> (fn.results.toList.mapM (resF a.tmps)) := by
    rw [← List.mapM_toArray, Array.toArray_toList]
  rw [e0, e1, Sem.run_bind, Sem.run_map, hr]
  simp only [Result.andThen_ok, Sem.run_pure]
  congr 1
  match vs with
  | [] => rfl
  | [v] => rfl
  | v :: u :: l => simp [tupleOf]
theorem calls_of_cwp {P : Program} {st : Nat → Nat} {f : FuncId} {fn : Func} {c : Code} {args : Array Value} {w : World} {R : Value → World → Prop} (hm : P.follows .mixedOrders = true) (hf : P.funcs[f]? = some fn) (hb : fn.body = some c)
    (hn : args.size ≤ fn.ntmps) (hok : codeOk fn.ntmps c = true) (h : cwp P st c (endE P fn R) (argsE args) w) : Calls P f args w fun e w' => ∃ v, e = .returned v ∧ R v w' := by
  refine calls_of_wp hf hb (wp_mono (cwp_sound (n := fn.ntmps) hm c _ _ (argsE args) w hok ⟨by simp; omega, rfl, fun t => ?_⟩ h) fun x a' w' ⟨hp, e', hf', hQ⟩ => ?_)
  · simp only [argsE, Array.getD_eq_getD_getElem?]
    rw [Array.getElem?_append]
    split
    · rfl
    · rename_i hlt
      rw [Array.getElem?_replicate, Array.getElem?_eq_none (xs := args) (by omega)]
      split <;> rfl
  · cases x with
    | normal =>
      obtain ⟨v, hv, hR⟩ := results_of (R := fun v => R v w') hf' hQ
      exact ⟨hf'.defers, v, hv, v, rfl, hR⟩
    | ret =>
      obtain ⟨v, hv, hR⟩ := results_of (R := fun v => R v w') hf' hQ
      exact ⟨hf'.defers, v, hv, v, rfl, hR⟩
    | panic c => exact absurd rfl (hp c)
    | exit => exact hQ.elim
    | goto => exact hQ.elim
    | outgrown => exact hQ.elim
def keepsB (ts : List Nat) : Code → Bool
  | .region _ ops _ => ops.toList.all fun o => match o.dst with | none => true | some d => !ts.contains d
  | .seq x y => keepsB ts x && keepsB ts y
  | .cond _ x y => keepsB ts x && keepsB ts y
  | .block _ b => keepsB ts b
  | .loop b => keepsB ts b
  | .skip | .exit _ | .goto _ | .ret => true
  | _ => false
end Go.Proofs.Ytnhgdngbdoifnaa.F
namespace Go.Proofs.Ytnhgdngbdoifnaa.F
set_option linter.unusedVariables false
set_option linter.unusedSimpArgs false
section
variable {P : Program} {ops : Array Oper}
theorem opQ.mono {ρ : Operand → Value} {o : Oper} {w : World} {K K' : Value → Prop} (h : ∀ v, K v → K' v) (hh : opQ P ρ o w K) : opQ P ρ o w K' := by
  obtain ⟨dst, op, ty, pos, after, guard⟩ := o
  cases op <;> simp only [opQ] at hh ⊢
  case move x => exact h _ hh
  case assign x => exact h _ hh
  case pick c a b => obtain ⟨t, ht, hK⟩ := hh; exact ⟨t, ht, h _ hK⟩
  case nilCheck x => exact ⟨hh.1, h _ hh.2⟩
  case call c =>
    obtain ⟨callee, args, ats⟩ := c
    cases callee with
    | value f => obtain ⟨v, a, b⟩ := hh; exact ⟨v, a, h _ b⟩
    | builtin b => obtain ⟨v, a, b⟩ := hh; exact ⟨v, a, h _ b⟩
    | invoke r m => exact hh.elim
  all_goals first | exact hh.elim | (obtain ⟨v, a, b⟩ := hh; exact ⟨v, a, h _ b⟩)
theorem opS.mono {ρ : Operand → Value} {o : Oper} {w : World} {K K' : Value → Prop} (h : ∀ v, K v → K' v) (hh : opS P ρ o w K) : opS P ρ o w K' := by
  obtain ⟨dst, op, ty, pos, after, guard⟩ := o
  cases op <;> simp only [opS] at hh ⊢
  case move x => exact h _ hh
  case assign x => exact h _ hh
  case pick c a b => obtain ⟨t, ht, hK⟩ := hh; exact ⟨t, ht, h _ hK⟩
  case nilCheck x => exact ⟨hh.1, h _ hh.2⟩
  case call c =>
    obtain ⟨callee, args, ats⟩ := c
    cases callee with
    | value f => obtain ⟨v, f', a', a, c, b⟩ := hh; exact ⟨v, f', a', a, c, h _ b⟩
    | builtin b => obtain ⟨v, a, b⟩ := hh; exact ⟨v, a, h _ b⟩
    | invoke r m => exact hh.elim
  all_goals first | exact hh.elim | (obtain ⟨v, a, b⟩ := hh; exact ⟨v, a, h _ b⟩)
theorem pureW.mono {ρ : Operand → Value} {o : Oper} {K K' : Value → Prop} (h : ∀ v, K v → K' v) (hh : pureW P ρ o K) : pureW P ρ o K' := by
  obtain ⟨dst, op, ty, pos, after, guard⟩ := o
  cases op <;> simp only [pureW] at hh ⊢
  case move x => exact h _ hh
  case assign x => exact h _ hh
  case pick c a b => obtain ⟨t, ht, hK⟩ := hh; exact ⟨t, ht, h _ hK⟩
  case nilCheck x => exact ⟨hh.1, h _ hh.2⟩
  all_goals first | exact hh.elim | (obtain ⟨v, a, b⟩ := hh; exact ⟨v, a, h _ b⟩)
theorem guardW.mono {o : Oper} {k : Known} {e : Env} {run skip run' skip' : Known → Prop} (hr : ∀ k, run k → run' k) (hs : ∀ k, skip k → skip' k) (h : guardW P ops o k e run skip) : guardW P ops o k e run' skip' := by
  unfold guardW at *
  split at h
  · exact hr _ h
  · split at h
    · exact hs _ h
    · split at h
      · rename_i kb _
        revert h
        cases beqW kb _ <;> intro h
        · exact hs _ h
        · exact hr _ h
      · refine h.imp (fun ⟨a, h⟩ => ⟨a, ?_⟩) (fun ⟨a, h⟩ => ⟨a, ?_⟩)
        all_goals
          revert h
          cases beqW (some _) _ <;> intro h
          · exact hs _ h
          · exact hr _ h
def Keep (ts : List Nat) (e0 e : Env) : Prop := ∀ t ∈ ts, e t = e0 t
theorem Keep.set {ts : List Nat} {e0 e : Env} (h : Keep ts e0 e) {d : Option Nat} (hd : (match d with | none => true | some d => !ts.contains d) = true) (v : Value) : Keep ts e0 (e.set d v) := by
  cases d with
  | none => exact h
  | some d =>
    intro t ht
    have : t ≠ d := fun he => by subst he; simp [ht] at hd
    rw [Env.set_ne e d v this]
    exact h t ht
theorem cops_keeps {N N' : Env → World → Prop} {ts : List Nat} {e0 : Env} (hN : ∀ e w, Keep ts e0 e → N e w → N' e w) : ∀ (l : List Oper) (k : Known) (e : Env) (w : World),
    (l.all fun o => match o.dst with | none => true | some d => !ts.contains d) = true → Keep ts e0 e → cops P ops N l k e w → cops P ops N' l k e w
  | [], k, e, w, _, he, h => hN _ _ he h
  | o :: r, k, e, w, hk, he, h => by
    simp only [List.all_cons, Bool.and_eq_true] at hk
    exact guardW.mono (fun k h => opW.mono (fun v w' h => cops_keeps hN r _ _ _ hk.2 (he.set hk.1 v) h) h) (fun k h => cops_keeps hN r _ _ _ hk.2 (he.set hk.1 undef) h) h
theorem copsK_keeps {N N' : Env → World → Prop} {ts : List Nat} {e0 : Env} (hN : ∀ e w, Keep ts e0 e → N e w → N' e w) : ∀ (l : List Oper) (k : Known) (e : Env) (w : World),
    (l.all fun o => match o.dst with | none => true | some d => !ts.contains d) = true → Keep ts e0 e → copsK P ops N l k e w → copsK P ops N' l k e w
  | [], k, e, w, _, he, h => hN _ _ he h
  | o :: r, k, e, w, hk, he, h => by
    simp only [List.all_cons, Bool.and_eq_true] at hk
    exact guardW.mono (fun k h => opW.mono (fun v w' h => copsK_keeps hN r _ _ _ hk.2 (he.set hk.1 v) h) h) (fun k h => copsK_keeps hN r _ _ _ hk.2 (he.set hk.1 undef) h) h
theorem qops_keeps {w : World} {N N' : Env → Prop} {ts : List Nat} {e0 : Env} (hN : ∀ e, Keep ts e0 e → N e → N' e) : ∀ (l : List Oper) (k : Known) (e : Env),
    (l.all fun o => match o.dst with | none => true | some d => !ts.contains d) = true → Keep ts e0 e → qops P ops w N l k e → qops P ops w N' l k e
  | [], k, e, _, he, h => hN _ he h
  | o :: r, k, e, hk, he, h => by
    simp only [List.all_cons, Bool.and_eq_true] at hk
    exact guardW.mono (fun k h => opQ.mono (fun v h => qops_keeps hN r _ _ hk.2 (he.set hk.1 v) h) h) (fun k h => qops_keeps hN r _ _ hk.2 (he.set hk.1 undef) h) h
theorem sops_keeps {w : World} {N N' : Known → Env → Prop} {ts : List Nat} {e0 : Env} (hN : ∀ k e, Keep ts e0 e → N k e → N' k e) : ∀ (l : List Oper) (k : Known) (e : Env),
    (l.all fun o => match o.dst with | none => true | some d => !ts.contains d) = true → Keep ts e0 e → sops P ops w N l k e → sops P ops w N' l k e
  | [], k, e, _, he, h => hN _ _ he h
  | o :: r, k, e, hk, he, h => by
    simp only [List.all_cons, Bool.and_eq_true] at hk
    exact guardW.mono (fun k h => opS.mono (fun v h => sops_keeps hN r _ _ hk.2 (he.set hk.1 v) h) h) (fun k h => sops_keeps hN r _ _ hk.2 (he.set hk.1 undef) h) h
theorem tree_keeps {N N' : Env → World → Prop} {ts : List Nat} {e0 : Env} (hN : ∀ e w, Keep ts e0 e → N e w → N' e w) (hk : (ops.toList.all fun o => match o.dst with | none => true | some d => !ts.contains d) = true) :
    ∀ (pl : Plan) (k : Known) (e : Env) (w : World), Keep ts e0 e → tree P ops N pl k e w → tree P ops N' pl k e w := by
  have hd : ∀ {i : Nat} {o : Oper}, ops[i]? = some o → (match o.dst with | none => true | some d => !ts.contains d) = true := fun {i o} ho =>
    List.all_eq_true.1 hk o (by obtain ⟨hi, he⟩ := Array.getElem?_eq_some_iff.1 ho; rw [← he]; simp)
  intro pl
  induction pl with
  | done => exact fun k e w he h => hN _ _ he h
  | stop => exact fun k e w he h => trivial
  | take i l p ih =>
    intro k e w he h
    unfold tree at h ⊢
    split at h
    · rename_i ho
      exact guardW.mono (fun k h => pureW.mono (fun v h => ih _ _ _ (he.set (hd ho) v) h) h) (fun k h => ih _ _ _ (he.set (hd ho) undef) h) h
    · exact h.elim
  | alt i l p m ihp ihm =>
    intro k e w he h
    unfold tree at h ⊢
    have key : ∀ {b : Bool} {A A' B B' : Prop}, (A → A') → (B → B') → both b A B → both b A' B' := fun {b} _ _ _ _ ha hb hh => by
      cases b
      · exact ⟨ha hh.1, hb hh.2⟩
      · exact ha hh
    refine key (fun h => ?_) (ihm _ _ _ he) h
    split at h
    · rename_i ho
      exact guardW.mono (fun k h => opW.mono (fun v w' h => ihp _ _ _ (he.set (hd ho) v) h) h) (fun k h => ihp _ _ _ (he.set (hd ho) undef) h) h
    · exact h.elim
theorem opJ.mono {J : World → Prop} {ρ : Operand → Value} {o : Oper} {K K' : Value → Prop} (h : ∀ v, K v → K' v) (hh : opJ P J ρ o K) : opJ P J ρ o K' := by
  obtain ⟨dst, op, ty, pos, after, guard⟩ := o
  cases op <;> simp only [opJ] at hh ⊢
  case move x => exact h _ hh
  case assign x => exact h _ hh
  case pick c a b => obtain ⟨t, ht, hK⟩ := hh; exact ⟨t, ht, h _ hK⟩
  case nilCheck x => exact ⟨hh.1, h _ hh.2⟩
  case call c =>
    obtain ⟨callee, args, ats⟩ := c
    cases callee with
    | value f => exact hh.elim
    | builtin b => obtain ⟨v, a, b⟩ := hh; exact ⟨v, a, h _ b⟩
    | invoke r m => exact hh.elim
  all_goals first | exact hh.elim | (obtain ⟨v, a, b⟩ := hh; exact ⟨v, a, h _ b⟩)
theorem treeJ_keeps {J : World → Prop} {N N' : Env → World → Prop} {ts : List Nat} {e0 : Env} (hN : ∀ e w, Keep ts e0 e → N e w → N' e w) (hk : (ops.toList.all fun o => match o.dst with | none => true | some d => !ts.contains d) = true) :
    ∀ (pl : Plan) (k : Known) (e : Env) (w : World), Keep ts e0 e → treeJ P ops J N pl k e w → treeJ P ops J N' pl k e w := by
  have hd : ∀ {i : Nat} {o : Oper}, ops[i]? = some o → (match o.dst with | none => true | some d => !ts.contains d) = true := fun {i o} ho =>
    List.all_eq_true.1 hk o (by obtain ⟨hi, he⟩ := Array.getElem?_eq_some_iff.1 ho; rw [← he]; simp)
  intro pl
  induction pl with
  | done => exact fun k e w he h => hN _ _ he h
  | stop => exact fun k e w he h => trivial
  | take i l p ih =>
    intro k e w he h
    unfold treeJ at h ⊢
    split at h
    · rename_i ho
      exact guardW.mono (fun k h => opJ.mono (fun v h => ih _ _ _ (he.set (hd ho) v) h) h) (fun k h => ih _ _ _ (he.set (hd ho) undef) h) h
    · exact h.elim
  | alt i l p m ihp ihm =>
    intro k e w he h
    unfold treeJ at h ⊢
    have key : ∀ {b : Bool} {A A' B B' : Prop}, (A → A') → (B → B') → both b A B → both b A' B' := fun {b} _ _ _ _ ha hb hh => by
      cases b
      · exact ⟨ha hh.1, hb hh.2⟩
      · exact ha hh
    refine key (fun h => ?_) (ihm _ _ _ he) h
    split at h
    · rename_i ho
      exact guardW.mono (fun k h => opW.mono (fun v w' h => ⟨h.1, ihp _ _ _ (he.set (hd ho) v) h.2⟩) h) (fun k h => ihp _ _ _ (he.set (hd ho) undef) h) h
    · exact h.elim
theorem thenE.imp {next next' : Env → World → Prop} {Q Q' : Exit → Env → World → Prop} {T : Env → Prop} (hn : ∀ e w, T e → next e w → next' e w) (hQ : ∀ x e w, T e → Q x e w → Q' x e w) : ∀ x e w, T e → thenE next Q x e w → thenE next' Q' x e w
  | .normal, e, w, t, h => hn _ _ t h
  | .exit _, e, w, t, h => hQ _ _ _ t h
  | .goto _, e, w, t, h => hQ _ _ _ t h
  | .ret, e, w, t, h => hQ _ _ _ t h
  | .panic _, e, w, t, h => hQ _ _ _ t h
  | .outgrown, e, w, t, h => hQ _ _ _ t h
theorem inBlockE.imp {id : Nat} {Q Q' : Exit → Env → World → Prop} {T : Env → Prop} (hQ : ∀ x e w, T e → Q x e w → Q' x e w) : ∀ x e w, T e → inBlockE id Q x e w → inBlockE id Q' x e w
  | .exit id', e, w, t, h => by
    simp only [inBlockE] at *
    cases hb : Nat.beq id' id <;> simp only [hb, cond] at h ⊢ <;> exact hQ _ _ _ t h
  | .normal, e, w, t, h => hQ _ _ _ t h
  | .goto _, e, w, t, h => hQ _ _ _ t h
  | .ret, e, w, t, h => hQ _ _ _ t h
  | .panic _, e, w, t, h => hQ _ _ _ t h
  | .outgrown, e, w, t, h => hQ _ _ _ t h
theorem cwp_keeps {st : Nat → Nat} {ts : List Nat} {e0 : Env} : ∀ (c : Code) (Q Q' : Exit → Env → World → Prop), (∀ x e w, Keep ts e0 e → Q x e w → Q' x e w) → ∀ (e : Env) (w : World), keepsB ts c = true → Keep ts e0 e →
    cwp P st c Q e w → cwp P st c Q' e w
  | .skip, Q, Q', hQ, e, w, _, he, h => hQ _ _ _ he h
  | .exit id, Q, Q', hQ, e, w, _, he, h => hQ _ _ _ he h
  | .goto l, Q, Q', hQ, e, w, _, he, h => hQ _ _ _ he h
  | .ret, Q, Q', hQ, e, w, _, he, h => hQ _ _ _ he h
  | .region id ops false, Q, Q', hQ, e, w, hk, he, h => by
    unfold cwp at *
    exact h.imp (fun h => cops_keeps (fun e w he h => hQ _ _ _ he h) _ _ _ _ hk he h) (fun h => copsK_keeps (fun e w he h => hQ _ _ _ he h) _ _ _ _ hk he h)
  | .region id ops true, Q, Q', hQ, e, w, hk, he, h => by
    unfold cwp at *
    split at h
    · obtain ⟨h1, pl, hpl, h⟩ := h
      refine ⟨h1, pl, hpl, h.imp (fun h n => tree_keeps (fun e w he h => hQ _ _ _ he h) hk _ _ _ _ he (h n)) fun h n => ?_⟩
      obtain ⟨J, hJ, h⟩ := h n
      exact ⟨J, hJ, treeJ_keeps (fun e w he h => hQ _ _ _ he h) hk _ _ _ _ he h⟩
    · exact ⟨h.1, qops_keeps (fun e he h n => hQ _ _ _ he (h n)) _ _ _ hk he h.2⟩
    · rename_i n _
      have hk1 : ((ops.toList.take n).all fun o => match o.dst with | none => true | some d => !ts.contains d) = true := List.all_eq_true.2 fun o ho => List.all_eq_true.1 hk o (List.mem_of_mem_take ho)
      have hk2 : ((ops.toList.drop n).all fun o => match o.dst with | none => true | some d => !ts.contains d) = true := List.all_eq_true.2 fun o ho => List.all_eq_true.1 hk o (List.mem_of_mem_drop ho)
      exact ⟨h.1, fun m => sops_keeps (fun k e he h => cops_keeps (fun e w he h => hQ _ _ _ he h) _ _ _ _ hk2 he h) _ _ _ hk1 he (h.2 m)⟩
  | .seq x y, Q, Q', hQ, e, w, hk, he, h => by
    simp only [keepsB, Bool.and_eq_true] at hk
    exact cwp_keeps x _ _ (thenE.imp (fun e w he h => cwp_keeps y _ _ hQ e w hk.2 he h) hQ) e w hk.1 he h
  | .cond c x y, Q, Q', hQ, e, w, hk, he, h => by
    simp only [keepsB, Bool.and_eq_true] at hk
    exact condP.mono (cwp_keeps x _ _ hQ e w hk.1 he) (cwp_keeps y _ _ hQ e w hk.2 he) h
  | .block id b, Q, Q', hQ, e, w, hk, he, h => cwp_keeps b _ _ (inBlockE.imp hQ) e w hk he h
  | .loop b, Q, Q', hQ, e, w, hk, he, h => by
    obtain ⟨I, μ, h0, hr⟩ := h
    refine ⟨fun e w => Keep ts e0 e ∧ I e w, μ, ⟨he, h0⟩, fun e w ⟨he, hI⟩ => ?_⟩
    exact cwp_keeps b _ _ (thenE.imp (fun e' w' he' h => ⟨⟨he', h.1⟩, h.2⟩) hQ) e w hk he (hr e w hI)
theorem cwp_mono {st : Nat → Nat} {c : Code} {Q Q' : Exit → Env → World → Prop} {e : Env} {w : World} (hk : keepsB [] c = true) (hQ : ∀ x e w, Q x e w → Q' x e w) (h : cwp P st c Q e w) : cwp P st c Q' e w :=
  cwp_keeps (ts := []) (e0 := e) c Q Q' (fun x e w _ h => hQ x e w h) e w hk (fun _ ht => by cases ht) h
theorem loop_ok {st : Nat → Nat} {σ : Type} {c : Code} {Q : Exit → Env → World → Prop} {e : Env} {w : World} (pr : Env → σ) (ro : List Nat) (hk : keepsB ro c = true) (F : (σ → World → Prop) → σ → World → Prop)
    (h : loopP F (pr e) w) (hb : ∀ K e' w', Keep ro e e' → F K (pr e') w' → cwp P st c (thenE (fun e'' w'' => K (pr e'') w'') Q) e' w') : cwp P st (.loop c) Q e w := by
  obtain ⟨I, μ, h0, hr⟩ := h
  refine ⟨fun e' w' => Keep ro e e' ∧ I (pr e') w', fun e' w' => μ (pr e') w', ⟨fun _ _ => rfl, h0⟩, fun e' w' ⟨he, hI⟩ => ?_⟩
  exact cwp_keeps c _ _ (thenE.imp (fun e'' w'' he'' h => ⟨⟨he'', h.1⟩, h.2⟩) (fun _ _ _ _ h => h)) e' w' hk he (hb _ e' w' he (hr _ w' hI))
end
def c1 : Code → Code
  | .seq x _ => x
  | .cond _ x _ => x
  | .block _ b => b
  | .loop b => b
  | c => c
def c2 : Code → Code
  | .seq _ y => y
  | .cond _ _ y => y
  | c => c
def cops_ : Code → Array Oper
  | .region _ ops _ => ops
  | _ => #[]
def bodyOf (f : Func) : Code := f.body.getD .skip
end Go.Proofs.Ytnhgdngbdoifnaa.F
namespace Go.Proofs.Ytnhgdngbdoifnaa.F
set_option linter.unusedVariables false
section
variable {P : Program} {st : Nat → Nat} {c : Code} {Q : Exit → Env → World → Prop} {e : Env} {w : World}
def toQ (N : Env → World → Prop) : Exit → Env → World → Prop
  | .normal, e, w => N e w
  | _, _, _ => False
theorem kcast {A B : Prop} (h : A = B) (a : A) : B := h ▸ a
theorem region_ok (id : Nat) (N : Env → World → Prop) (hc : c = .region id (cops_ c) false) (h : cops P (cops_ c) N (cops_ c).toList [] e w) (hN : ∀ e w, N e w → Q .normal e w) (hk : keepsB [] c = true) : cwp P st c Q e w := by
  rw [hc]
  rw [hc] at hk
  exact .inl (cops_keeps (ts := []) (e0 := e) (fun e w _ h => hN e w h) _ _ _ _ hk (fun _ ht => by cases ht) h)
theorem regionK_ok (id : Nat) (N : Env → World → Prop) (hc : c = .region id (cops_ c) false) (h : copsK P (cops_ c) N (cops_ c).toList [] e w) (hN : ∀ e w, N e w → Q .normal e w) (hk : keepsB [] c = true) : cwp P st c Q e w := by
  rw [hc]
  rw [hc] at hk
  exact .inr (copsK_keeps (ts := []) (e0 := e) (fun e w _ h => hN e w h) _ _ _ _ hk (fun _ ht => by cases ht) h)
theorem quiet_ok (id : Nat) (N : Env → World → Prop) (hc : c = .region id (cops_ c) true) (hs : st id = 1) (hB : Region.lexB .any (cops_ c) = true) (h : qops P (cops_ c) w (fun e => anyDraw w (N e)) (cops_ c).toList [] e)
    (hN : ∀ e w, N e w → Q .normal e w) (hk : keepsB [] c = true) : cwp P st c Q e w := by
  rw [hc]
  rw [hc] at hk
  unfold cwp
  rw [hs]
  exact ⟨hB, qops_keeps (ts := []) (e0 := e) (fun e _ h n => hN e _ (h n)) _ _ _ hk (fun _ ht => by cases ht) h⟩
theorem tree_ok (id n : Nat) (l : List Bool) (pl : Plan) (N : Env → World → Prop) (hc : c = .region id (cops_ c) true) (hs : st id = 0) (hB : Region.noSelect (cops_ c) = true) (hn : (cops_ c).size = n) (hl : List.replicate n false = l) (hp : planOk (cops_ c) pl l = true) (h : anyDraw w (tree P (cops_ c) N pl [] e))
    (hN : ∀ e w, N e w → Q .normal e w) (hk : keepsB [] c = true) : cwp P st c Q e w := by
  subst hl
  subst hn
  rw [hc]
  rw [hc] at hk
  unfold cwp
  rw [hs]
  exact ⟨hB, pl, hp, .inl fun n => tree_keeps (ts := []) (e0 := e) (fun e w _ h => hN e w h) hk _ _ _ _ (fun _ ht => by cases ht) (h n)⟩
theorem treeJ_ok (id n : Nat) (l : List Bool) (pl : Plan) (N : Env → World → Prop) (hc : c = .region id (cops_ c) true) (hs : st id = 0) (hB : Region.noSelect (cops_ c) = true) (hn : (cops_ c).size = n) (hl : List.replicate n false = l) (hp : planOk (cops_ c) pl l = true) (h : anyDraw w fun w => heldP w fun J => treeJ P (cops_ c) J N pl [] e w)
    (hN : ∀ e w, N e w → Q .normal e w) (hk : keepsB [] c = true) : cwp P st c Q e w := by
  subst hl
  subst hn
  rw [hc]
  rw [hc] at hk
  unfold cwp
  rw [hs]
  refine ⟨hB, pl, hp, .inr fun n => ?_⟩
  obtain ⟨J, hJ, h⟩ := h n
  exact ⟨J, hJ, treeJ_keeps (ts := []) (e0 := e) (fun e w _ h => hN e w h) hk _ _ _ _ (fun _ ht => by cases ht) h⟩
theorem tail_ok (id n : Nat) (N : Env → World → Prop) (hc : c = .region id (cops_ c) true) (hs : st id = n + 2) (hB : Region.lexTailB .any (cops_ c) n = true) (h : anyDraw w fun w => sops P (cops_ c) w (fun k e => cops P (cops_ c) N ((cops_ c).toList.drop n) k e w) ((cops_ c).toList.take n) [] e)
    (hN : ∀ e w, N e w → Q .normal e w) (hk : keepsB [] c = true) : cwp P st c Q e w := by
  have hi : cwp P st (.region id (cops_ c) true) (toQ N) e w := by
    unfold cwp
    rw [hs]
    exact ⟨hB, h⟩
  rw [hc]
  rw [hc] at hk
  exact cwp_mono hk (fun x e w hq => by cases x <;> first | exact hN _ _ hq | exact hq.elim) hi
theorem cond_ok (o : Operand) (hc : c = .cond o (c1 c) (c2 c)) {A B : Prop} (h : condP (e.ev o) A B) (ha : A → cwp P st (c1 c) Q e w) (hb : B → cwp P st (c2 c) Q e w) : cwp P st c Q e w := by
  rw [hc]
  exact condP.mono ha hb h
theorem seq_ok' (hc : c = .seq (c1 c) (c2 c)) (h : cwp P st (c1 c) (thenE (cwp P st (c2 c) Q) Q) e w) : cwp P st c Q e w := by
  rw [hc]
  exact h
theorem block_ok (id : Nat) (hc : c = .block id (c1 c)) (h : cwp P st (c1 c) (inBlockE id Q) e w) : cwp P st c Q e w := by
  rw [hc]
  exact h
theorem skip_ok (hc : c = .skip) (h : Q .normal e w) : cwp P st c Q e w := by
  rw [hc]
  exact h
theorem ret_ok (hc : c = .ret) (h : Q .ret e w) : cwp P st c Q e w := by
  rw [hc]
  exact h
theorem exit_ok (id : Nat) (hc : c = .exit id) (h : Q (.exit id) e w) : cwp P st c Q e w := by
  rw [hc]
  exact h
theorem loop_ok' {σ : Type} (pr : Env → σ) (ro : List Nat) (hc : c = .loop (c1 c)) (hk : keepsB ro (c1 c) = true) {F : (σ → World → Prop) → σ → World → Prop}
    (h : loopP F (pr e) w) (hb : ∀ K e' w', Keep ro e e' → F K (pr e') w' → cwp P st (c1 c) (thenE (fun e'' w'' => K (pr e'') w'') Q) e' w') : cwp P st c Q e w := by
  rw [hc]
  exact loop_ok pr ro hk F h hb
theorem rgA (id : Nat) (N : Env → World → Prop) {A : Prop} (h0 : A) (hN : ∀ e w, N e w → Q .normal e w) (hc : c = .region id (cops_ c) false := by kernel_rfl) (hA : A = cops P (cops_ c) N (cops_ c).toList [] e w := by kernel_rfl) (hk : keepsB [] c = true := by kernel_rfl) : cwp P st c Q e w :=
  region_ok id N hc (kcast hA h0) hN hk
theorem rgK (id : Nat) (N : Env → World → Prop) {A : Prop} (h0 : A) (hN : ∀ e w, N e w → Q .normal e w) (hc : c = .region id (cops_ c) false := by kernel_rfl) (hA : A = copsK P (cops_ c) N (cops_ c).toList [] e w := by kernel_rfl) (hk : keepsB [] c = true := by kernel_rfl) : cwp P st c Q e w :=
  regionK_ok id N hc (kcast hA h0) hN hk
theorem quA (id : Nat) (N : Env → World → Prop) {A : Prop} (h0 : A) (hN : ∀ e w, N e w → Q .normal e w) (hc : c = .region id (cops_ c) true := by kernel_rfl) (hs : st id = 1 := by kernel_rfl) (hB : Region.lexB .any (cops_ c) = true := by kernel_rfl) (hA : A = qops P (cops_ c) w (fun e => anyDraw w (N e)) (cops_ c).toList [] e := by kernel_rfl) (hk : keepsB [] c = true := by kernel_rfl) : cwp P st c Q e w :=
  quiet_ok id N hc hs hB (kcast hA h0) hN hk
theorem taA (id n : Nat) (N : Env → World → Prop) {A : Prop} (h0 : A) (hN : ∀ e w, N e w → Q .normal e w) (hc : c = .region id (cops_ c) true := by kernel_rfl) (hs : st id = n + 2 := by kernel_rfl) (hB : Region.lexTailB .any (cops_ c) n = true := by kernel_rfl) (hA : A = anyDraw w fun w => sops P (cops_ c) w (fun k e => cops P (cops_ c) N ((cops_ c).toList.drop n) k e w) ((cops_ c).toList.take n) [] e := by kernel_rfl) (hk : keepsB [] c = true := by kernel_rfl) : cwp P st c Q e w :=
  tail_ok id n N hc hs hB (kcast hA h0) hN hk
theorem coA (o : Operand) {A B : Prop} (h : condP (e.ev o) A B) (ha : A → cwp P st (c1 c) Q e w) (hb : B → cwp P st (c2 c) Q e w) (hc : c = .cond o (c1 c) (c2 c) := by kernel_rfl) : cwp P st c Q e w := cond_ok o hc h ha hb
theorem seA (h : cwp P st (c1 c) (thenE (cwp P st (c2 c) Q) Q) e w) (hc : c = .seq (c1 c) (c2 c) := by kernel_rfl) : cwp P st c Q e w := seq_ok' hc h
theorem skA (h : Q .normal e w) (hc : c = .skip := by kernel_rfl) : cwp P st c Q e w := skip_ok hc h
theorem reA (h : Q .ret e w) (hc : c = .ret := by kernel_rfl) : cwp P st c Q e w := ret_ok hc h
theorem exA (id : Nat) (h : Q (.exit id) e w) (hc : c = .exit id := by kernel_rfl) : cwp P st c Q e w := exit_ok id hc h
theorem then_N {next : Env → World → Prop} {Q : Exit → Env → World → Prop} {e : Env} {w : World} (h : next e w) : thenE next Q .normal e w := h
theorem then_R {next : Env → World → Prop} {Q : Exit → Env → World → Prop} {e : Env} {w : World} (h : Q .ret e w) : thenE next Q .ret e w := h
theorem then_X {next : Env → World → Prop} {Q : Exit → Env → World → Prop} {e : Env} {w : World} {i : Nat} (h : Q (.exit i) e w) : thenE next Q (.exit i) e w := h
theorem block_N {i : Nat} {Q : Exit → Env → World → Prop} {e : Env} {w : World} (h : Q .normal e w) : inBlockE i Q .normal e w := h
theorem block_R {i : Nat} {Q : Exit → Env → World → Prop} {e : Env} {w : World} (h : Q .ret e w) : inBlockE i Q .ret e w := h
theorem inBlock_same (id : Nat) {e : Env} {w : World} (h : Q .normal e w) : inBlockE id Q (.exit id) e w := by
  simp only [inBlockE, Nat.beq_refl, cond]
  exact h
theorem inBlock_other (id id' : Nat) (hne : Nat.beq id' id = false) {e : Env} {w : World} (h : Q (.exit id') e w) : inBlockE id Q (.exit id') e w := by
  simp only [inBlockE, hne, cond]
  exact h
end
def binS (op : BinOp) (t : TypeId) (x y : Operand) (a b : Value) : Sem Value := do eqGuard op t x y a b; binOp op t a b
abbrev fnV (f : FuncId) : Value := .func (.func f) #[] #[]
def gotoE (l : Nat) (K : Env → World → Prop) (Q : Exit → Env → World → Prop) : Exit → Env → World → Prop
  | .goto l', e, w => l' = l ∧ K e w
  | x, e, w => Q x e w
def cS : Code → Code
  | .scope b => b
  | c => c
def cwpL (P : Program) (st : Nat → Nat) : Code → (Exit → Env → World → Prop) → Env → World → Prop
  | .seq (.label l) y, Q, e, w => loopP (fun K e w => cwp P st y (gotoE l K Q) e w) e w
  | .seq x y, Q, e, w => cwp P st x (thenE (cwpL P st y Q) Q) e w
  | _, _, _, _ => False
def spineB (n l : Nat) : Code → Bool
  | .seq (.label l') y => Nat.beq l' l && codeOk n y
  | .seq x y => (match findLabel x l with | none => true | some _ => false) && codeOk n x && spineB n l y
  | _ => false
def restL : Code → Code
  | .seq (.label _) y => y
  | .seq _ y => restL y
  | c => c
theorem exists_min {p : Nat → Prop} : (∃ n, p n) → ∃ n, p n ∧ ∀ m, p m → n ≤ m := by
  rintro ⟨n, hn⟩
  induction n using Nat.strongRecOn with
  | _ n ih =>
    by_cases h : ∃ m, m < n ∧ p m
    · obtain ⟨m, hm, hp⟩ := h
      exact ih m hm hp
    · exact ⟨n, hn, fun m hm => Nat.le_of_not_lt fun hlt => h ⟨m, hlt, hm⟩⟩
section
variable {P : Program} {st : Nat → Nat} {n l : Nat} {Q : Exit → Env → World → Prop}
theorem spine_find : ∀ (c : Code), spineB n l c = true → findLabel c l = some (.seq .skip (restL c))
  | .seq x y, h => by
    by_cases hx : ∃ l', x = .label l'
    · obtain ⟨l', rfl⟩ := hx
      simp only [spineB, Bool.and_eq_true] at h
      obtain rfl : l' = l := Nat.eq_of_beq_eq_true h.1
      simp [findLabel, restL]
    · have e1 : spineB n l (.seq x y) = ((match findLabel x l with | none => true | some _ => false) && codeOk n x && spineB n l y) := by
        cases x <;> first | rfl | exact absurd ⟨_, rfl⟩ hx
      have e2 : restL (.seq x y) = restL y := by
        cases x <;> first | rfl | exact absurd ⟨_, rfl⟩ hx
      rw [e1] at h
      simp only [Bool.and_eq_true] at h
      have hn : findLabel x l = none := by
        revert h
        cases findLabel x l <;> simp
      rw [findLabel, hn, e2]
      exact spine_find y h.2
def JL (P : Program) (st : Nat → Nat) (n l : Nat) (Q : Exit → Env → World → Prop) (y : Code) (a : Act) (w : World) (m : Nat) : Prop :=
  ∃ (I : Env → World → Prop) (μ : Env → World → Nat) (e : Env), Fr n a e ∧ I e w ∧ μ e w = m ∧ ∀ e w, I e w → cwp P st y (gotoE l (fun e' w' => I e' w' ∧ μ e' w' < μ e w) Q) e w
open Classical in
noncomputable def ML (P : Program) (st : Nat → Nat) (n l : Nat) (Q : Exit → Env → World → Prop) (y : Code) (a : Act) (w : World) : Nat :=
  if h : ∃ m, JL P st n l Q y a w m then Classical.choose (exists_min h) else 0
theorem ML_spec {y : Code} {a : Act} {w : World} (h : ∃ m, JL P st n l Q y a w m) : JL P st n l Q y a w (ML P st n l Q y a w) ∧ ∀ m, JL P st n l Q y a w m → ML P st n l Q y a w ≤ m := by
  unfold ML
  rw [dif_pos h]
  exact Classical.choose_spec (exists_min h)
theorem pass_ok (hm : P.follows .mixedOrders = true) {y : Code} (hok : codeOk n y = true) {a : Act} {w : World} (h : ∃ m, JL P st n l Q y a w m) :
    y.wp P (Exit.jump l (fun a' w' => (∃ m, JL P st n l Q y a' w' m) ∧ ML P st n l Q y a' w' < ML P st n l Q y a w) (QA n Q)) a w := by
  obtain ⟨⟨I, μ, e, hf, hI, hμ, hr⟩, _⟩ := ML_spec h
  refine wp_mono (cwp_sound hm y _ a e w hok hf (hr e w hI)) fun x a' w' ⟨hp, e', hf', hQ⟩ => ?_
  cases x with
  | goto l' =>
    obtain ⟨rfl, hI', hlt⟩ := hQ
    have hJ : JL P st n l' Q y a' w' (μ e' w') := ⟨I, μ, e', hf', hI', rfl, hr⟩
    refine ⟨rfl, ⟨_, hJ⟩, ?_⟩
    have := (ML_spec ⟨_, hJ⟩).2 _ hJ
    omega
  | panic c => exact absurd rfl (hp c)
  | _ => exact ⟨hp, e', hf', hQ⟩
theorem jump_mono {y : Code} {J J' : Act → World → Prop} {R : Exit → Act → World → Prop} (h : ∀ a w, J a w → J' a w) : ∀ x a w, Exit.jump l J R x a w → Exit.jump l J' R x a w := fun x a w hq => by
  cases x with
  | goto l' => exact ⟨hq.1, h _ _ hq.2⟩
  | _ => exact hq
theorem first_ok (hm : P.follows .mixedOrders = true) (hQ : ∀ l' e w, ¬ Q (.goto l') e w) : ∀ (c : Code) (a : Act) (e : Env) (w : World), spineB n l c = true → Fr n a e → cwpL P st c Q e w →
    c.wp P (Exit.jump l (fun a' w' => ∃ m, JL P st n l Q (restL c) a' w' m) (QA n Q)) a w
  | .seq x y, a, e, w, hs, hf, h => by
    by_cases hx : ∃ l', x = .label l'
    · obtain ⟨l', rfl⟩ := hx
      simp only [spineB, Bool.and_eq_true] at hs
      obtain rfl : l' = l := Nat.eq_of_beq_eq_true hs.1
      obtain ⟨I, μ, h0, hr⟩ := h
      refine wp_seq (wp_label ?_)
      exact wp_mono (pass_ok hm hs.2 ⟨_, I, μ, e, hf, h0, rfl, hr⟩) (jump_mono (y := y) fun _ _ h => h.1)
    · have e1 : spineB n l (.seq x y) = ((match findLabel x l with | none => true | some _ => false) && codeOk n x && spineB n l y) := by
        cases x <;> first | rfl | exact absurd ⟨_, rfl⟩ hx
      have e2 : restL (.seq x y) = restL y := by
        cases x <;> first | rfl | exact absurd ⟨_, rfl⟩ hx
      have e3 : cwpL P st (.seq x y) Q e w = cwp P st x (thenE (cwpL P st y Q) Q) e w := by
        cases x <;> first | rfl | exact absurd ⟨_, rfl⟩ hx
      rw [e1] at hs
      rw [e3] at h
      rw [e2]
      simp only [Bool.and_eq_true] at hs
      refine wp_seq (wp_mono (cwp_sound hm x _ a e w hs.1.2 hf h) fun x' a' w' ⟨hp, e', hf', hq⟩ => ?_)
      cases x' with
      | normal => exact first_ok hm hQ y a' e' w' hs.2 hf' hq
      | goto l' => exact absurd hq (hQ _ _ _)
      | panic c => exact absurd rfl (hp c)
      | _ => exact ⟨hp, e', hf', hq⟩
theorem rest_ok : ∀ (c : Code), spineB n l c = true → codeOk n (restL c) = true
  | .seq x y, hs => by
    by_cases hx : ∃ l', x = .label l'
    · obtain ⟨l', rfl⟩ := hx
      simp only [spineB, Bool.and_eq_true] at hs
      exact hs.2
    · have e1 : spineB n l (.seq x y) = ((match findLabel x l with | none => true | some _ => false) && codeOk n x && spineB n l y) := by
        cases x <;> first | rfl | exact absurd ⟨_, rfl⟩ hx
      have e2 : restL (.seq x y) = restL y := by
        cases x <;> first | rfl | exact absurd ⟨_, rfl⟩ hx
      rw [e1] at hs
      simp only [Bool.and_eq_true] at hs
      rw [e2]
      exact rest_ok y hs.2
theorem scope_sound (hm : P.follows .mixedOrders = true) (hQ : ∀ l' e w, ¬ Q (.goto l') e w) {c : Code} {a : Act} {e : Env} {w : World} (hs : spineB n l c = true) (hf : Fr n a e) (h : cwpL P st c Q e w) : (Code.scope c).wp P (QA n Q) a w :=
  wp_scope_jumps l (fun a' w' => ∃ m, JL P st n l Q (restL c) a' w' m) (ML P st n l Q (restL c)) (spine_find c hs) (first_ok hm hQ c a e w hs hf h) fun a w hJ => wp_seq (wp_skip (pass_ok hm (rest_ok c hs) hJ))
def cwpT (P : Program) (st : Nat → Nat) (b : Code) (Q : Exit → Env → World → Prop) (e : Env) (w : World) : Prop := cwp P st (c1 b) (thenE (cwpL P st (cS (c2 b)) Q) Q) e w
theorem calls_of_cwpT {f : FuncId} {fn : Func} {c : Code} {args : Array Value} {w : World} {R : Value → World → Prop} (l : Nat) (hm : P.follows .mixedOrders = true) (hf : P.funcs[f]? = some fn) (hb : fn.body = some c) (hc : c = .seq (c1 c) (.scope (cS (c2 c))))
    (hn : args.size ≤ fn.ntmps) (hx : codeOk fn.ntmps (c1 c) = true) (hs : spineB fn.ntmps l (cS (c2 c)) = true) (h : cwpT P st c (endE P fn R) (argsE args) w) : Calls P f args w fun e w' => ∃ v, e = .returned v ∧ R v w' := by
  have hQ : ∀ l' e w, ¬ endE P fn R (.goto l') e w := fun _ _ _ h => h
  have hfr : Fr fn.ntmps { tmps := args ++ Array.replicate (fn.ntmps - args.size) undef, defers := [] } (argsE args) := ⟨by simp; omega, rfl, fun t => ?_⟩
  have hwp : c.wp P (QA fn.ntmps (endE P fn R)) { tmps := args ++ Array.replicate (fn.ntmps - args.size) undef, defers := [] } w := by
    rw [hc]
    refine wp_seq (wp_mono (cwp_sound hm (c1 c) _ _ _ w hx hfr h) fun x' a' w' ⟨hp, e', hf', hq⟩ => ?_)
    cases x' with
    | normal => exact scope_sound hm hQ hs hf' hq
    | panic c => exact absurd rfl (hp c)
    | _ => exact ⟨hp, e', hf', hq⟩
  refine calls_of_wp hf hb (wp_mono hwp fun x a' w' ⟨hp, e', hf', hQ⟩ => ?_)
  · cases x with
    | normal =>
      obtain ⟨v, hv, hR⟩ := results_of (R := fun v => R v w') hf' hQ
      exact ⟨hf'.defers, v, hv, v, rfl, hR⟩
    | ret =>
      obtain ⟨v, hv, hR⟩ := results_of (R := fun v => R v w') hf' hQ
      exact ⟨hf'.defers, v, hv, v, rfl, hR⟩
    | panic c => exact absurd rfl (hp c)
    | exit => exact hQ.elim
    | goto => exact hQ.elim
    | outgrown => exact hQ.elim
  · simp only [argsE, Array.getD_eq_getD_getElem?]
    rw [Array.getElem?_append]
    split
    · rfl
    · rename_i hlt
      rw [Array.getElem?_replicate, Array.getElem?_eq_none (xs := args) (by omega)]
      split <;> rfl
end
section
variable {P : Program} {st : Nat → Nat} {c : Code} {Q : Exit → Env → World → Prop} {e : Env} {w : World}
def notLabel : Code → Bool
  | .label _ => false
  | _ => true
theorem seL (h : cwp P st (c1 c) (thenE (cwpL P st (c2 c) Q) Q) e w) (hc : c = .seq (c1 c) (c2 c) := by kernel_rfl) (hl : notLabel (c1 c) = true := by kernel_rfl) : cwpL P st c Q e w := by
  rw [hc]
  generalize c1 c = x at *
  generalize c2 c = y at *
  cases x <;> first | exact h | (cases hl; done)
theorem goA (l : Nat) (h : Q (.goto l) e w) (hc : c = .goto l := by kernel_rfl) : cwp P st c Q e w := by
  rw [hc]
  exact h
theorem lab_ok {σ : Type} (l : Nat) (pr : Env → σ) (ro : List Nat) (hc : c = .seq (.label l) (c2 c)) (hk : keepsB ro (c2 c) = true) {F : (σ → World → Prop) → σ → World → Prop}
    (h : loopP F (pr e) w) (hb : ∀ K e' w', Keep ro e e' → F K (pr e') w' → cwp P st (c2 c) (gotoE l (fun e'' w'' => K (pr e'') w'') Q) e' w') : cwpL P st c Q e w := by
  rw [hc]
  obtain ⟨I, μ, h0, hr⟩ := h
  refine ⟨fun e' w' => Keep ro e e' ∧ I (pr e') w', fun e' w' => μ (pr e') w', ⟨fun _ _ => rfl, h0⟩, fun e' w' ⟨he, hI⟩ => ?_⟩
  refine cwp_keeps (c2 c) _ _ (fun x e'' w'' he'' h => ?_) e' w' hk he (hb _ e' w' he (hr _ w' hI))
  cases x with
  | goto l' => exact ⟨h.1, ⟨he'', h.2.1⟩, h.2.2⟩
  | _ => exact h
theorem then_G {next : Env → World → Prop} {i : Nat} (h : Q (.goto i) e w) : thenE next Q (.goto i) e w := h
theorem goto_R {l : Nat} {K : Env → World → Prop} (h : Q .ret e w) : gotoE l K Q .ret e w := h
theorem goto_K {l : Nat} {K : Env → World → Prop} (h : K e w) : gotoE l K Q (.goto l) e w := ⟨rfl, h⟩
end
end Go.Proofs.Ytnhgdngbdoifnaa.F
namespace Go.Proofs.Ytnhgdngbdoifnaa.F
set_option linter.unusedVariables false
set_option linter.unusedSimpArgs false
open Go Go.RowKit
structure Chg (bs : List Nat) (w w' : World) : Prop where
  os : w'.os = w.os
  tape : w'.tape = w.tape
  output : w'.output = w.output
  size : w.heap.size ≤ w'.heap.size
  block : ∀ k, k < w.heap.size → k ∉ bs → w'.heap[k]? = w.heap[k]?
theorem Chg.refl (bs : List Nat) (w : World) : Chg bs w w := ⟨rfl, rfl, rfl, Nat.le_refl _, fun _ _ _ => rfl⟩
theorem Chg.trans {bs : List Nat} {a b c : World} (h : Chg bs a b) (k : Chg bs b c) : Chg bs a c :=
  ⟨k.os.trans h.os, k.tape.trans h.tape, k.output.trans h.output, Nat.le_trans h.size k.size, fun i hi hn => (k.block i (Nat.lt_of_lt_of_le hi h.size) hn).trans (h.block i hi hn)⟩
theorem Chg.mono {bs bs' : List Nat} {a b : World} (h : Chg bs a b) (hs : ∀ g ∈ bs, g ∈ bs') : Chg bs' a b := ⟨h.os, h.tape, h.output, h.size, fun k hk hn => h.block k hk (fun hm => hn (hs k hm))⟩
theorem Chg.below {a b : World} (h : Chg [] a b) : Below a.heap.size a b := ⟨h.os, h.tape, h.output, h.size, fun k hk => h.block k hk (by simp)⟩
theorem Chg.drewN (bs : List Nat) (w : World) (n : Nat) : Chg bs w (w.drewN n) := ⟨rfl, rfl, rfl, Nat.le_refl _, fun _ _ _ => rfl⟩
theorem Chg.alloc (bs : List Nat) (w : World) (o : Obj) : Chg bs w (w.alloc o) := ⟨rfl, rfl, rfl, by simp, fun k hk _ => Below.heap_alloc w o k hk⟩
theorem Chg.setCell {bs : List Nat} (w : World) {p : Addr} (v : Value) (hp : p.block ∈ bs) : Chg bs w (w.setCell p v) :=
  ⟨rfl, rfl, rfl, by simp, fun k hk hn => Below.heap_setCell w p v k (fun e => hn (e ▸ hp))⟩
theorem Chg.of_grown {w w' : World} {row : Option Nat} (h : w.grownBy w' row) : Chg row.toList w w' :=
  ⟨h.os, h.tape, h.output, h.size, fun k hk hn => h.block k hk (fun e => hn (by rw [← e]; simp))⟩
structure Res where
  blks : List Nat
  H : World → Prop
  loc : ∀ w w' : World, (∀ g ∈ blks, w'.heap[g]? = w.heap[g]?) → H w → H w'
def Res.cells (b : Nat) (t : TypeId) (cs : List Value) : Res :=
  ⟨[b], fun w => w.heap[b]? = some (.cells cs.toArray t (0, 0)), fun w w' h hh => (h b (.head _)).trans hh⟩
def Res.row (e size : Nat) (v : Value) (n : Nat) (xs : List Value) : Res :=
  ⟨v.ownBlock.toList, fun w => w.ownsRow 0 e size v n xs, fun w w' h hh => by
    refine ⟨hh.1, ?_⟩
    rcases hh.2 with h0 | ⟨g, cap, cur, rfl, hb, hg, hr⟩
    · exact .inl h0
    · exact .inr ⟨g, cap, cur, rfl, hb, (h g (by simp [Value.ownBlock])).trans hg, hr⟩⟩
def Res.any (b : Nat) (T : Obj → Prop) : Res :=
  ⟨[b], fun w => ∃ o, w.heap[b]? = some o ∧ T o, fun w w' h ⟨o, ho, hT⟩ => ⟨o, (h b (.head _)).trans ho, hT⟩⟩
structure St (w0 : World) (F : List Nat) (w : World) (L : List Res) : Prop where
  chg : Chg F w0 w
  H : ∀ r ∈ L, r.H w
  lt : ∀ r ∈ L, ∀ g ∈ r.blks, g < w.heap.size
  own : ∀ r ∈ L, ∀ g ∈ r.blks, g ∈ F ∨ w0.heap.size ≤ g
  apart : L.Pairwise fun a b => ∀ g ∈ a.blks, g ∉ b.blks
section
variable {w0 w w' : World} {F : List Nat} {L : List Res}
theorem St.start (w0 : World) : St w0 [] w0 [] := ⟨Chg.refl _ _, fun _ h => (by cases h), fun _ h => (by cases h), fun _ h => (by cases h), .nil⟩
theorem St.perm {L' : List Res} (h : St w0 F w L) (hp : L.Perm L') : St w0 F w L' :=
  ⟨h.chg, fun r hr => h.H r (hp.mem_iff.2 hr), fun r hr => h.lt r (hp.mem_iff.2 hr), fun r hr => h.own r (hp.mem_iff.2 hr), (hp.pairwise_iff (fun hab g hg hn => hab g hn hg)).1 h.apart⟩
theorem St.tail {r : Res} (h : St w0 F w (r :: L)) : St w0 F w L :=
  ⟨h.chg, fun r hr => h.H r (.tail _ hr), fun r hr => h.lt r (.tail _ hr), fun r hr => h.own r (.tail _ hr), (List.pairwise_cons.1 h.apart).2⟩
theorem St.left {L1 L2 : List Res} (h : St w0 F w (L1 ++ L2)) : St w0 F w L1 :=
  ⟨h.chg, fun r hr => h.H r (List.mem_append_left _ hr), fun r hr => h.lt r (List.mem_append_left _ hr), fun r hr => h.own r (List.mem_append_left _ hr), (List.pairwise_append.1 h.apart).1⟩
theorem St.back {L1 L2 L1' : List Res} (h : St w0 F w (L1 ++ L2)) (h' : St w (L1.flatMap (·.blks)) w' L1') : St w0 F w' (L1' ++ L2) := by
  have hap := List.pairwise_append.1 h.apart
  have hnot : ∀ r ∈ L2, ∀ g ∈ r.blks, g ∉ L1.flatMap (·.blks) := fun r hr g hg hm => by
    obtain ⟨r1, hr1, hg1⟩ := List.mem_flatMap.1 hm
    exact hap.2.2 r1 hr1 r hr g hg1 hg
  have hlt2 : ∀ r ∈ L2, ∀ g ∈ r.blks, g < w.heap.size := fun r hr => h.lt r (List.mem_append_right _ hr)
  refine ⟨⟨h'.chg.os.trans h.chg.os, h'.chg.tape.trans h.chg.tape, h'.chg.output.trans h.chg.output, Nat.le_trans h.chg.size h'.chg.size, fun k hk hn => (h'.chg.block k (Nat.lt_of_lt_of_le hk h.chg.size) (fun hm => ?_)).trans (h.chg.block k hk hn)⟩, fun r hr => ?_, fun r hr g hg => ?_, fun r hr g hg => ?_, ?_⟩
  · obtain ⟨r1, hr1, hg1⟩ := List.mem_flatMap.1 hm
    rcases h.own r1 (List.mem_append_left _ hr1) k hg1 with h1 | h1
    · exact hn h1
    · omega
  · rcases List.mem_append.1 hr with hr | hr
    · exact h'.H r hr
    · exact r.loc w w' (fun g hg => h'.chg.block g (hlt2 r hr g hg) (hnot r hr g hg)) (h.H r (List.mem_append_right _ hr))
  · rcases List.mem_append.1 hr with hr | hr
    · exact h'.lt r hr g hg
    · exact Nat.lt_of_lt_of_le (hlt2 r hr g hg) h'.chg.size
  · rcases List.mem_append.1 hr with hr | hr
    · rcases h'.own r hr g hg with h1 | h1
      · obtain ⟨r1, hr1, hg1⟩ := List.mem_flatMap.1 h1
        exact h.own r1 (List.mem_append_left _ hr1) g hg1
      · exact .inr (Nat.le_trans h.chg.size h1)
    · exact h.own r (List.mem_append_right _ hr) g hg
  · refine List.pairwise_append.2 ⟨h'.apart, hap.2.1, fun a ha b hb g hg hgb => ?_⟩
    rcases h'.own a ha g hg with h1 | h1
    · exact hnot b hb g hgb h1
    · have := hlt2 b hb g hgb
      omega
theorem St.quiet (h : St w0 F w L) (hc : Chg [] w w') : St w0 F w' L := by
  have : St w0 F w ([] ++ L) := h
  exact this.back (L1' := []) ⟨hc, fun _ h => (by cases h), fun _ h => (by cases h), fun _ h => (by cases h), .nil⟩
theorem St.drewN (h : St w0 F w L) (n : Nat) : St w0 F (w.drewN n) L := h.quiet (Chg.drewN _ _ _)
theorem St.upd {r r' : Res} (h : St w0 F w (r :: L)) (hc : Chg r.blks w w') (hH : r'.H w') (hb : ∀ g ∈ r'.blks, g ∈ r.blks ∨ (w.heap.size ≤ g)) (hl : ∀ g ∈ r'.blks, g < w'.heap.size) : St w0 F w' (r' :: L) := by
  have : St w0 F w ([r] ++ L) := h
  refine this.back (L1' := [r']) ⟨hc.mono (by simp), ?_, ?_, ?_, by simp⟩
  · intro r1 h1; obtain rfl := List.mem_singleton.1 h1; exact hH
  · intro r1 h1; obtain rfl := List.mem_singleton.1 h1; exact hl
  · intro r1 h1 g hg; obtain rfl := List.mem_singleton.1 h1; simpa using hb g hg
theorem St.add {r : Res} (h : St w0 F w L) (hc : Chg [] w w') (hH : r.H w') (hb : ∀ g ∈ r.blks, w.heap.size ≤ g) (hl : ∀ g ∈ r.blks, g < w'.heap.size) : St w0 F w' (r :: L) := by
  have : St w0 F w ([] ++ L) := h
  refine this.back (L1' := [r]) ⟨hc, ?_, ?_, ?_, by simp⟩
  · intro r1 h1; obtain rfl := List.mem_singleton.1 h1; exact hH
  · intro r1 h1; obtain rfl := List.mem_singleton.1 h1; exact hl
  · intro r1 h1 g hg; obtain rfl := List.mem_singleton.1 h1; exact .inr (hb g hg)
theorem perm_front : ∀ {L : List Res} {k : Nat} {r : Res}, L[k]? = some r → L.Perm (r :: L.eraseIdx k)
  | [], k, r, h => by simp at h
  | a :: l, 0, r, h => by
    obtain rfl : a = r := by simpa using h
    exact .refl _
  | a :: l, k + 1, r, h => by
    have := perm_front (L := l) (k := k) (r := r) (by simpa using h)
    exact (this.cons a).trans (.swap r a _)
theorem set_perm {k : Nat} {r r' : Res} (hk : L[k]? = some r) : (r' :: L.eraseIdx k).Perm (L.set k r') := by
  obtain ⟨hl, he⟩ := List.getElem?_eq_some_iff.1 hk
  have h1 : (L.set k r')[k]? = some r' := by simp [hl]
  have := perm_front h1
  rw [List.eraseIdx_set_eq] at this
  exact this.symm
theorem St.front (k : Nat) {r : Res} (h : St w0 F w L) (hk : L[k]? = some r) : St w0 F w (r :: L.eraseIdx k) := h.perm (perm_front hk)
theorem St.updk (k : Nat) {r r' : Res} (h : St w0 F w L) (hk : L[k]? = some r) (hc : Chg r.blks w w') (hH : r'.H w') (hb : ∀ g ∈ r'.blks, g ∈ r.blks ∨ (w.heap.size ≤ g)) (hl : ∀ g ∈ r'.blks, g < w'.heap.size) : St w0 F w' (L.set k r') :=
  ((h.front k hk).upd hc hH hb hl).perm (set_perm hk)
theorem St.get (k : Nat) {r : Res} (h : St w0 F w L) (hk : L[k]? = some r) : r.H w := h.H r (List.mem_of_getElem? hk)
theorem St.old (h : St w0 F w L) {k : Nat} (hk : k < w0.heap.size) (hn : k ∉ F) : w.heap[k]? = w0.heap[k]? := h.chg.block k hk hn
theorem St.below (h : St w0 [] w L) : Below w0.heap.size w0 w := h.chg.below
theorem St.cell (k : Nat) {b i : Nat} {t : TypeId} {cs : List Value} {v : Value} (h : St w0 F w L) (hk : L[k]? = some (Res.cells b t cs)) (hi : cs[i]? = some v) : w.cell? ⟨b, i, none⟩ = some v := by
  have hh : w.heap[b]? = some (.cells cs.toArray t (0, 0)) := h.get k hk
  simp [World.cell?, hh, hi]
theorem St.frozen (k : Nat) {b i : Nat} {t : TypeId} {cs : List Value} (h : St w0 F w L) (hk : L[k]? = some (Res.cells b t cs)) : w.frozen? ⟨b, i, none⟩ = false := by
  have hh : w.heap[b]? = some (.cells cs.toArray t (0, 0)) := h.get k hk
  simp [World.frozen?, hh]
theorem St.set (k : Nat) {b i : Nat} {t : TypeId} {cs : List Value} (v : Value) (h : St w0 F w L) (hk : L[k]? = some (Res.cells b t cs)) : St w0 F (w.setCell ⟨b, i, none⟩ v) (L.set k (Res.cells b t (cs.set i v))) := by
  have hh : w.heap[b]? = some (.cells cs.toArray t (0, 0)) := h.get k hk
  have hlt : b < w.heap.size := h.lt _ (List.mem_of_getElem? hk) b (.head _)
  refine h.updk k hk (Chg.setCell w v (.head _)) ?_ (fun g hg => .inl hg) (fun g hg => ?_)
  · show (w.setCell ⟨b, i, none⟩ v).heap[b]? = _
    simp [World.setCell, Array.getElem?_modify, hh]
  · obtain rfl : g = b := by simpa [Res.cells] using hg
    simpa using hlt
theorem St.alloc (h : St w0 F w L) (t : TypeId) (cs : List Value) : St w0 F (w.alloc (.cells cs.toArray t)) (Res.cells w.heap.size t cs :: L) := by
  refine h.add (Chg.alloc _ _ _) (heap_alloc_new w _) (fun g hg => ?_) (fun g hg => ?_)
  all_goals
    obtain rfl : g = w.heap.size := List.mem_singleton.1 hg
    simp
theorem add_none (b o j : Nat) : (⟨b, o, none⟩ : Addr).add j = ⟨b, o + j, none⟩ := by
  unfold Addr.add
  split
  · rename_i h; subst h; rfl
  · rfl
theorem St.row_cell (k : Nat) {e size g n c j : Nat} {xs : List Value} {u : Value} (h : St w0 F w L) (hk : L[k]? = some (Res.row e size (.slice (some ⟨g, 0, none⟩) n c) n xs)) (hj : xs[j]? = some u) : w.cell? ⟨g, j, none⟩ = some u := by
  have hh : w.ownsRow 0 e size (.slice (some ⟨g, 0, none⟩) n c) n xs := h.get k hk
  have := hh.cells (g := g) rfl j u hj
  rwa [add_none, Nat.zero_add] at this
theorem row_some {e size n c : Nat} {A : Option Addr} {xs : List Value} (hh : w.ownsRow 0 e size (.slice A n c) n xs) (hn : 0 < n) : ∃ g, A = some ⟨g, 0, none⟩ := by
  rcases hh.2 with ⟨_, h0⟩ | ⟨g, cap, cur, hv, _⟩
  · omega
  · injection hv with h1
    exact ⟨g, h1⟩
theorem St.row_frozen (k : Nat) {e size g n c j : Nat} {xs : List Value} (h : St w0 F w L) (hk : L[k]? = some (Res.row e size (.slice (some ⟨g, 0, none⟩) n c) n xs)) : w.frozen? ⟨g, j, none⟩ = false := by
  have hh : w.ownsRow 0 e size (.slice (some ⟨g, 0, none⟩) n c) n xs := h.get k hk
  rcases hh.2 with ⟨h0, _⟩ | ⟨g', cap, cur, hv, _, hg, _⟩
  · cases h0
  · injection hv with h1 _ _
    cases h1
    simp [World.frozen?, hg]
theorem St.row_set (k : Nat) {e size g n c j : Nat} {xs : List Value} (u : Value) (h : St w0 F w L) (hk : L[k]? = some (Res.row e size (.slice (some ⟨g, 0, none⟩) n c) n xs)) (hj : j < xs.length) :
    St w0 F (w.setCell ⟨g, j, none⟩ u) (L.set k (Res.row e size (.slice (some ⟨g, 0, none⟩) n c) n (xs.set j u))) := by
  have hh : w.ownsRow 0 e size (.slice (some ⟨g, 0, none⟩) n c) n xs := h.get k hk
  have hlt : ∀ x ∈ (Res.row e size (.slice (some ⟨g, 0, none⟩) n c) n xs).blks, x < w.heap.size := h.lt _ (List.mem_of_getElem? hk)
  refine h.updk k hk (Chg.setCell w u (by simp [Res.row, Value.ownBlock])) ?_ (fun g hg => .inl hg) (fun x hx => by have := hlt x hx; simpa using this)
  show World.ownsRow _ 0 e size _ n (xs.set j u)
  refine ⟨by rw [List.length_set]; exact hh.1, .inr ?_⟩
  rcases hh.2 with ⟨h0, _⟩ | ⟨g', cap, cur, hv, hb, hg, hnc, hcm, hcs, ht⟩
  · cases h0
  · injection hv with h1 _ h3
    cases h1
    cases h3
    refine ⟨g, c, cur.setIfInBounds j u, rfl, hb, ?_, hnc, hcm, by simpa using hcs, ?_⟩
    · simp [World.setCell, Array.getElem?_modify, hg]
    · rw [Array.toList_setIfInBounds, List.take_set, ht]
theorem St.row_nil (h : St w0 F w L) (e size : Nat) : St w0 F w (Res.row e size (.slice none 0 0) 0 [] :: L) :=
  h.add (Chg.refl _ _) (World.ownsRow_nil w 0 e size) (fun g hg => by simp [Res.row, Value.ownBlock] at hg) (fun g hg => by simp [Res.row, Value.ownBlock] at hg)
theorem St.row_add {e size n : Nat} {v : Value} {xs : List Value} (h : St w0 F w L) (hc : Chg [] w w') (hr : w'.ownsRow w.heap.size e size v n xs) : St w0 F w' (Res.row e size v n xs :: L) := by
  refine h.add hc ⟨hr.1, hr.2.imp id fun ⟨g, cap, cur, h1, h2, h3⟩ => ⟨g, cap, cur, h1, Nat.zero_le _, h3⟩⟩ (fun g hg => ?_) (fun g hg => ?_)
  · exact (hr.lt g (by simpa [Res.row] using hg)).1
  · exact (hr.lt g (by simpa [Res.row] using hg)).2
theorem St.append (k : Nat) {P : Program} {t e ty : TypeId} {i : TypeInfo} {z : Value} {size bytes n m c : Nat} {v : Value} {xs news : List Value} {a : Addr} (h : St w0 F w L) (hk : L[k]? = some (Res.row e size v n xs))
    (ht : P.underlying t = some (.slice e)) (hi : P.info? e = some i) (hz : i.zero = some z) (hsize : i.size = size) (hby : i.bytes = bytes) (hzs : z.cells.size = size) (hsz : 0 < size)
    (hl : news.length = m * size) (hnews : ∀ j u, news[j]? = some u → w.cell? (a.add j) = some u) (h1 : ∀ u ∈ news, u.oneCell' = true) (h63 : n + m ≤ maxLen) (hbytes : (n + m) * bytes ≤ 140737488355328) :
    ∃ v' w', (Builtin.append_ #[t, t] ty #[v, .slice (some a) m c]).run P w = .ok v' w' ∧ St w0 F w' (L.set k (Res.row e size v' (n + m) (xs ++ news))) ∧ (0 < n + m → ∃ g c', v' = .slice (some ⟨g, 0, none⟩) (n + m) c') := by
  have hh : w.ownsRow 0 e size v n xs := h.get k hk
  obtain ⟨v', w', hr, hown, hgr, hnil, hblk⟩ := run_append_own_at (P := P) w 0 t ty e i z size bytes ht hi hz hsize hby hzs hsz v n xs hh a m c news hl hnews h1 h63 hbytes (Nat.zero_le _)
  refine ⟨v', w', hr, h.updk k hk (Chg.of_grown hgr) hown (fun g hg => ?_) (fun g hg => (hown.lt g (by simpa [Res.row] using hg)).2), fun hp => ?_⟩
  · have hg' : v'.ownBlock = some g := by simpa [Res.row] using hg
    rcases hblk with hb | hb
    · exact .inl (by show g ∈ v.ownBlock.toList; rw [← hb, hg']; simp)
    · exact .inr (by rw [hb] at hg'; injection hg' with e; omega)
  · rcases hown.2 with ⟨_, h0⟩ | ⟨g, cap, cur, hv, _⟩
    · omega
    · exact ⟨g, cap, hv⟩
def Rd (w : World) (size : Nat) (A : Option Addr) (n : Nat) (xs : List Value) : Prop :=
  xs.length = n * size ∧ (0 < xs.length → ∃ g o, A = some ⟨g, o, none⟩ ∧ ∀ j u, xs[j]? = some u → w.cell? ⟨g, o + j, none⟩ = some u)
theorem Rd.nil_ (w : World) (size : Nat) (A : Option Addr) : Rd w size A 0 [] := ⟨by simp, fun h => by simp at h⟩
theorem cell_lt {b o : Nat} {u : Value} (h : w.cell? ⟨b, o, none⟩ = some u) : b < w.heap.size := by
  unfold World.cell? at h
  cases hb : w.heap[b]? with
  | none => simp [hb] at h
  | some x => exact (Array.getElem?_eq_some_iff.1 hb).1
theorem Rd.keep {size n : Nat} {A : Option Addr} {xs : List Value} (h : Rd w size A n xs) (hk : ∀ g o, A = some ⟨g, o, none⟩ → g < w.heap.size → w'.heap[g]? = w.heap[g]?) : Rd w' size A n xs :=
  ⟨h.1, fun hp => by
    obtain ⟨g, o, hA, hc⟩ := h.2 hp
    refine ⟨g, o, hA, fun j u hj => ?_⟩
    rw [← hc j u hj]
    exact World.cell?_of_block (a := ⟨g, o + j, none⟩) (hk g o hA (cell_lt (hc j u hj)))⟩
theorem Rd.chg {size n : Nat} {A : Option Addr} {xs : List Value} (h : Rd w size A n xs) {bs : List Nat} (hc : Chg bs w w') (hA : ∀ g o, A = some ⟨g, o, none⟩ → g ∉ bs) : Rd w' size A n xs :=
  h.keep fun g o e hl => hc.block g hl (hA g o e)
theorem Rd.drewN {size n : Nat} {A : Option Addr} {xs : List Value} (h : Rd w size A n xs) (m : Nat) : Rd (w.drewN m) size A n xs := h
theorem Rd.of_row {e size n c : Nat} {A : Option Addr} {xs : List Value} (h : w.ownsRow 0 e size (.slice A n c) n xs) : Rd w size A n xs :=
  ⟨h.1, fun hp => by
    rcases h.2 with ⟨_, h0⟩ | ⟨g, cap, cur, hv, _, hg, hr⟩
    · have := h.1; rw [h0] at this; simp at this; simp [this] at hp
    · injection hv with h1 _ _
      refine ⟨g, 0, h1, fun j u hj => ?_⟩
      have := h.cells (g := g) (by rw [h1]; rfl) j u hj
      rwa [add_none] at this⟩
theorem St.row_rd (k : Nat) {e size n c : Nat} {A : Option Addr} {xs : List Value} (h : St w0 F w L) (hk : L[k]? = some (Res.row e size (.slice A n c) n xs)) : Rd w size A n xs := Rd.of_row (h.get k hk)
theorem Rd.at_ {n i : Nat} {A : Option Addr} {xs : List Value} (h : Rd w 1 A n xs) (hi : i < n) : ∃ g o, A = some ⟨g, o, none⟩ ∧ w.cell? ⟨g, o + i, none⟩ = xs[i]? := by
  have hl : xs.length = n := by simpa using h.1
  obtain ⟨g, o, hA, hc⟩ := h.2 (by omega)
  refine ⟨g, o, hA, ?_⟩
  have : xs[i]? = some xs[i] := List.getElem?_eq_getElem (by omega)
  rw [hc i _ this, this]
end
end Go.Proofs.Ytnhgdngbdoifnaa.F
namespace Go.Proofs.Ytnhgdngbdoifnaa.F
set_option linter.unusedVariables false
set_option linter.unusedSimpArgs false
open Go Go.RowKit
section
variable {P : Program} {w w' : World} {K : Value → World → Prop} {KQ : Value → Prop}
theorem valP_ok {s : Sem Value} {v : Value} (h : s.run P w = .ok v w') (hK : K v w') : valP P s w K := ⟨v, w', h, hK⟩
theorem valQ_ok {s : Sem Value} {v : Value} (h : ∀ w, s.run P w = .ok v w) (hK : KQ v) : valQ P s w KQ := ⟨v, fun n => h _, hK⟩
theorem valQ_at {s : Sem Value} {v : Value} (h : ∀ n, s.run P (w.drewN n) = .ok v (w.drewN n)) (hK : KQ v) : valQ P s w KQ := ⟨v, h, hK⟩
theorem valS_ok {s : Sem Value} {v : Value} (h : s.run P w = .ok v w) (hK : KQ v) : valS P s w KQ := ⟨v, h, hK⟩
theorem pureP_ok {s : Sem Value} {v : Value} (h : ∀ w, s.run P w = .ok v w) (hK : KQ v) : pureP P s KQ := ⟨v, h, hK⟩
theorem valJ_ok {J : World → Prop} {s : Sem Value} {v : Value} (h : ∀ w, s.run P w = .ok v w) (hK : KQ v) : valJ P J s KQ := ⟨v, fun w _ => h w, hK⟩
theorem valJ_at {J : World → Prop} {s : Sem Value} {v : Value} (h : ∀ w, J w → s.run P w = .ok v w) (hK : KQ v) : valJ P J s KQ := ⟨v, h, hK⟩
theorem valJ_load {J : World → Prop} {T : Nat} {p : Addr} {v : Value} (hT : ∀ {w : World} {p : Addr} {v : Value}, w.cell? p = some v → (Instr.loadAt T (.pointer (some p))).run P w = .ok v w) (hc : ∀ w, J w → w.cell? p = some v) (hK : KQ v) : valJ P J (Instr.loadAt T (.pointer (some p))) KQ :=
  ⟨v, fun w hw => hT (hc w hw), hK⟩
def AllH (Rs : List Res) (w : World) : Prop := ∀ r ∈ Rs, r.H w
theorem AllH.cell (k : Nat) {Rs : List Res} {b i : Nat} {t : TypeId} {cs : List Value} {v : Value} (hk : Rs[k]? = some (Res.cells b t cs)) (hi : cs[i]? = some v) (w : World) (h : AllH Rs w) : w.cell? ⟨b, i, none⟩ = some v := by
  have hh : w.heap[b]? = some (.cells cs.toArray t (0, 0)) := h _ (List.mem_of_getElem? hk)
  simp [World.cell?, hh, hi]
theorem AllH.row_cell (k : Nat) {Rs : List Res} {e size g n c j : Nat} {xs : List Value} {u : Value} (hk : Rs[k]? = some (Res.row e size (.slice (some ⟨g, 0, none⟩) n c) n xs)) (hj : xs[j]? = some u) (w : World) (h : AllH Rs w) : w.cell? ⟨g, j, none⟩ = some u := by
  have hh : w.ownsRow 0 e size (.slice (some ⟨g, 0, none⟩) n c) n xs := h _ (List.mem_of_getElem? hk)
  have := hh.cells (g := g) rfl j u hj
  rwa [add_none, Nat.zero_add] at this
theorem unitP_ok {s : Sem Unit} (h : s.run P w = .ok () w') (hK : K undef w') : unitP P s w K := ⟨w', h, hK⟩
theorem pick_t {t : Bool} {a b : Value} (ht : t = true) (h : KQ a) : pickP (.bool t) a b KQ := ⟨t, rfl, by rw [ht]; exact h⟩
theorem pick_f {t : Bool} {a b : Value} (ht : t = false) (h : KQ b) : pickP (.bool t) a b KQ := ⟨t, rfl, by rw [ht]; exact h⟩
theorem pick_dt {p : Prop} [Decidable p] {a b : Value} (hp : p) (h : KQ a) : pickP (.bool (decide p)) a b KQ := pick_t (decide_eq_true hp) h
theorem pick_df {p : Prop} [Decidable p] {a b : Value} (hp : ¬ p) (h : KQ b) : pickP (.bool (decide p)) a b KQ := pick_f (decide_eq_false hp) h
theorem cond_t {A B : Prop} {t : Bool} (ht : t = true) (h : A) : condP (.bool t) A B := .inl ⟨by rw [ht], h⟩
theorem cond_f {A B : Prop} {t : Bool} (ht : t = false) (h : B) : condP (.bool t) A B := .inr ⟨by rw [ht], h⟩
theorem cond_dt {A B p : Prop} [Decidable p] (hp : p) (h : A) : condP (.bool (decide p)) A B := cond_t (decide_eq_true hp) h
theorem cond_df {A B p : Prop} [Decidable p] (hp : ¬ p) (h : B) : condP (.bool (decide p)) A B := cond_f (decide_eq_false hp) h
theorem cond_split {A B p : Prop} [Decidable p] (ha : p → A) (hb : ¬ p → B) : condP (.bool (decide p)) A B := by
  by_cases h : p
  · exact cond_dt h (ha h)
  · exact cond_df h (hb h)
theorem cond_bsplit {A B : Prop} {t : Bool} (ha : t = true → A) (hb : t = false → B) : condP (.bool t) A B := by
  cases t with
  | true => exact cond_t rfl (ha rfl)
  | false => exact cond_f rfl (hb rfl)
theorem loop_in {σ : Type} {F : (σ → World → Prop) → σ → World → Prop} {s : σ} (I : σ → World → Prop) (μ : σ → World → Nat) (h0 : I s w) (hr : ∀ s w, I s w → F (fun s' w' => I s' w' ∧ μ s' w' < μ s w) s w) : loopP F s w := ⟨I, μ, h0, hr⟩
def callsOk (P : Program) (f : FuncId) : Bool :=
  match P.funcs[f]? with
  | some fn => !(fn.name == "runtime.NumGoroutine") && fn.body.isSome
  | none => false
theorem callFunc_run {f : FuncId} (h : callsOk P f = true) (args : Array Value) (w : World) : (callFunc f args).run P w = .ok (.enter f args) w := by
  unfold callsOk at h
  cases hf : P.funcs[f]? with
  | none => rw [hf] at h; cases h
  | some fn =>
    rw [hf] at h
    simp only [Bool.and_eq_true, Bool.not_eq_true'] at h
    have h2 : fn.body.isNone = false := by
      cases hb : fn.body with
      | none => rw [hb] at h; simp at h
      | some b => rfl
    simp only [callFunc, Sem.run_bind, run_program, Result.andThen_ok, hf]
    rw [if_neg (by rw [h.1]; simp), if_neg (by rw [h2]; simp)]
    rfl
theorem ofValue_run {f : FuncId} (h : callsOk P f = true) (first cap args : Array Value) (w : World) :
    ((do let d ← Deferred.ofValue (.func (.func f) first cap) args; invoke d.target d.args : Sem Next)).run P w = .ok (.enter f (first ++ args ++ cap)) w := by
  simp only [Deferred.ofValue, Sem.run_bind, Sem.run_pure, Result.andThen_ok, invoke]
  exact callFunc_run h _ w
theorem call_ok {f : FuncId} {args : Array Value} (hf : callsOk P f = true) (h : Calls P f args w fun e w' => ∃ v, e = .returned v ∧ K v w') : callP P (fnV f) args w K := by
  unfold callP
  rw [ofValue_run hf]
  simpa [Nx] using h
theorem store_at {w0 : World} {F : List Nat} {L : List Res} {T b i : Nat} {t : TypeId} {cs : List Value} {v : Value} (k : Nat)
    (hT : ∀ {w : World} {p : Addr} {u v : Value}, w.cell? p = some u → w.frozen? p = false → v.oneCell' = true → (Instr.storeAt T (.pointer (some p)) v).run P w = .ok () (w.setCell p v))
    (hS : St w0 F w L) (hk : L[k]? = some (Res.cells b t cs)) (hi : i < cs.length) (ho : v.oneCell' = true) (h : ∀ w', St w0 F w' (L.set k (Res.cells b t (cs.set i v))) → K undef w') : unitP P (Instr.storeAt T (.pointer (some ⟨b, i, none⟩)) v) w K :=
  unitP_ok (hT (hS.cell k hk (List.getElem?_eq_getElem hi)) (hS.frozen k hk) ho) (h _ (hS.set k v hk))
theorem new_ok {w0 : World} {F : List Nat} {L : List Res} {t : TypeId} {cs : List Value} {s : Sem Value} (hs : s.run P w = .ok (.pointer (some ⟨w.heap.size, 0, none⟩)) (w.alloc (.cells cs.toArray t))) (hS : St w0 F w L)
    (h : ∀ b w', St w0 F w' (Res.cells b t cs :: L) → K (.pointer (some ⟨b, 0, none⟩)) w') : valP P s w K :=
  valP_ok hs (h _ _ (hS.alloc t cs))
theorem drawn_ok {w0 : World} {F : List Nat} {L : List Res} {K : World → Prop} (hS : St w0 F w L) (h : ∀ w', St w0 F w' L → K w') : anyDraw w K := fun n => h _ (hS.drewN n)
theorem binS_run (op : BinOp) (T : TypeId) (x y : Operand) (a b : Value) (hg : (eqGuard op T x y a b).run P w = .ok () w) : (binS op T x y a b).run P w = (binOp op T a b).run P w := by
  simp only [binS, Sem.run_bind, hg, Result.andThen_ok]
variable (T : TypeId) (x y : Operand)
theorem add_ok {a b : Int} (h1 : -9223372036854775808 ≤ a + b) (h2 : a + b ≤ 9223372036854775807) (w : World) : (binS .add T x y (.int .i64 a) (.int .i64 b)).run P w = .ok (.int .i64 (a + b)) w := by
  rw [binS_run _ _ _ _ _ _ rfl]
  simp only [go_sem, binOp]
  simp [go_sem, IntKind.wrap_i64]
  omega
theorem sub_ok {a b : Int} (h1 : -9223372036854775808 ≤ a - b) (h2 : a - b ≤ 9223372036854775807) (w : World) : (binS .sub T x y (.int .i64 a) (.int .i64 b)).run P w = .ok (.int .i64 (a - b)) w := by
  rw [binS_run _ _ _ _ _ _ rfl]
  simp [go_sem, binOp, IntKind.wrap_i64]
  omega
theorem mul_ok {a b : Int} (h1 : -9223372036854775808 ≤ a * b) (h2 : a * b ≤ 9223372036854775807) (w : World) : (binS .mul T x y (.int .i64 a) (.int .i64 b)).run P w = .ok (.int .i64 (a * b)) w := by
  rw [binS_run _ _ _ _ _ _ rfl]
  simp [go_sem, binOp, IntKind.wrap_i64]
  omega
theorem quo_ok {a b : Int} (h0 : 0 ≤ a) (ha : a ≤ 9223372036854775807) (hb : 0 < b) (w : World) : (binS .quo T x y (.int .i64 a) (.int .i64 b)).run P w = .ok (.int .i64 (a / b)) w := by
  rw [binS_run _ _ _ _ _ _ rfl]
  have hne : b ≠ 0 := by omega
  have h1 : a.tdiv b = a / b := Int.tdiv_eq_ediv_of_nonneg h0
  have h2 : 0 ≤ a / b := Int.ediv_nonneg h0 (by omega)
  have h3 : a / b ≤ a := Int.ediv_le_self _ h0
  simp [go_sem, binOp, IntKind.wrap_i64, hne, h1]
  omega
theorem rem_ok {a b : Int} (h0 : 0 ≤ a) (ha : a ≤ 9223372036854775807) (hb : 0 < b) (w : World) : (binS .rem T x y (.int .i64 a) (.int .i64 b)).run P w = .ok (.int .i64 (a % b)) w := by
  rw [binS_run _ _ _ _ _ _ rfl]
  have hne : b ≠ 0 := by omega
  have h1 : a.tmod b = a % b := Int.tmod_eq_emod_of_nonneg h0
  simp [go_sem, binOp, IntKind.wrap_i64, hne, h1]
theorem lss_ok (k : IntKind) (a b : Int) (w : World) : (binS .lss T x y (.int k a) (.int k b)).run P w = .ok (.bool (decide (a < b))) w := by
  rw [binS_run _ _ _ _ _ _ rfl]
  simp [go_sem, binOp]
theorem leq_ok (k : IntKind) (a b : Int) (w : World) : (binS .leq T x y (.int k a) (.int k b)).run P w = .ok (.bool (decide (a ≤ b))) w := by
  rw [binS_run _ _ _ _ _ _ rfl]
  simp [go_sem, binOp]
theorem gtr_ok (k : IntKind) (a b : Int) (w : World) : (binS .gtr T x y (.int k a) (.int k b)).run P w = .ok (.bool (decide (b < a))) w := by
  rw [binS_run _ _ _ _ _ _ rfl]
  simp [go_sem, binOp]
theorem geq_ok (k : IntKind) (a b : Int) (w : World) : (binS .geq T x y (.int k a) (.int k b)).run P w = .ok (.bool (decide (b ≤ a))) w := by
  rw [binS_run _ _ _ _ _ _ rfl]
  simp [go_sem, binOp]
theorem not_ok (p : Prop) [Decidable p] (w : World) : (Op.unary .not (.bool (decide p))).run P w = .ok (.bool (decide (¬ p))) w := by
  by_cases h : p <;> simp [Op.unary, h] <;> rfl
theorem notb_ok (b : Bool) (w : World) : (Op.unary .not (.bool b)).run P w = .ok (.bool (!b)) w := rfl
theorem extract_ok (vs : Array Value) (i : Nat) {v : Value} (h : vs[i]? = some v) (w : World) : (Instr.extract (.tuple vs) i).run P w = .ok v w := by
  simp [Instr.extract, h]
theorem builtin_ok {b : Builtin} {ats : Array TypeId} {t : TypeId} {cs : Array Bool} {args : Array Value} {v : Value} (hb : (builtin b ats t cs args : Sem Next).run P w = .ok (.value v) w') (h : K v w') : builtinP P b ats t cs args w K := by
  unfold builtinP
  rw [hb]
  exact h
theorem builtinS_ok {b : Builtin} {ats : Array TypeId} {t : TypeId} {cs : Array Bool} {args : Array Value} {v : Value} (hb : (builtin b ats t cs args : Sem Next).run P w = .ok (.value v) w) (h : KQ v) : builtinS P b ats t cs args w KQ := ⟨v, hb, h⟩
theorem min_run {ats : Array TypeId} {t : TypeId} {cs : Array Bool} (a b : Int) (w : World) : (builtin .min ats t cs #[.int .i64 a, .int .i64 b] : Sem Next).run P w = .ok (.value (.int .i64 (min a b))) w := by
  by_cases hab : a ≤ b
  · rw [Int.min_eq_left hab]
    simp [go_sem]
    try omega
  · rw [Int.min_eq_right (by omega)]
    simp [go_sem]
    try omega
theorem max_run {ats : Array TypeId} {t : TypeId} {cs : Array Bool} (a b : Int) (w : World) : (builtin .max ats t cs #[.int .i64 a, .int .i64 b] : Sem Next).run P w = .ok (.value (.int .i64 (max a b))) w := by
  by_cases hab : a ≤ b
  · rw [Int.max_eq_right hab]
    simp [go_sem]
    try omega
  · rw [Int.max_eq_left (by omega)]
    simp [go_sem]
    try omega
end
end Go.Proofs.Ytnhgdngbdoifnaa.F
namespace Go.Proofs.Ytnhgdngbdoifnaa.F
set_option linter.unusedVariables false
set_option linter.unusedSimpArgs false
open Go Go.RowKit
abbrev Elem := Value → Option (DataW Unit × List MemPlace)
def Elem.apart (R : Elem) : Prop := ∀ u v d p q, R u = some (d, p) → R v = some (d, q) → u = v
open Classical in
noncomputable def updV (M : Value → Option Value) (k : Value) (x : Option Value) : Value → Option Value := fun v => if v = k then x else M v
theorem updV_same (M : Value → Option Value) (k : Value) (x : Option Value) : updV M k x k = x := by unfold updV; rw [if_pos rfl]
theorem updV_other {M : Value → Option Value} {k v : Value} {x : Option Value} (h : v ≠ k) : updV M k x v = M v := by unfold updV; rw [if_neg h]
def MapV (P : Program) (k : TypeId) (R : Elem) (b n : Nat) (M : Value → Option Value) (w : World) : Prop :=
  ∃ D : DataW Unit, w.ownsMap P k R b n D ∧ ∀ v l, keyOf P k v = some l →
    match M v with
    | none => Go.Maps.has D l = false ∧ ∀ z, D.atKey l z = z
    | some u => Go.Maps.has D l = true ∧ ∃ d p, R u = some (d, p) ∧ ∀ z, D.atKey l z = d
section
variable {P : Program} {k e t : TypeId} {R : Elem} {b n : Nat} {M : Value → Option Value} {w w' : World}
theorem MapV.loc (h : w'.heap[b]? = w.heap[b]?) (hM : MapV P k R b n M w) : MapV P k R b n M w' := by
  obtain ⟨D, ⟨es, c, hb, hr⟩, h2⟩ := hM
  exact ⟨D, ⟨es, c, h.trans hb, hr⟩, h2⟩
def Res.map (P : Program) (k : TypeId) (R : Elem) (b n : Nat) (M : Value → Option Value) : Res := ⟨[b], MapV P k R b n M, fun w w' h hM => hM.loc (h b (.head _))⟩
theorem MapV.made (w : World) : MapV P k R w.heap.size 0 (fun _ => none) (w.alloc (.map #[] 0)) := ⟨.map [], World.ownsMap_made _ _ _ _, fun v l _ => ⟨rfl, fun _ => rfl⟩⟩
theorem MapV.more (h : MapV P k R b n M w) {m : Nat} (hm : n ≤ m) : MapV P k R b m M w := by
  obtain ⟨D, h1, h2⟩ := h
  exact ⟨D, h1.mono hm, h2⟩
theorem MapV.lookup (h : MapV P k R b n M w) (hR : R.apart) (K : Go.Maps.Keyed P k) (ht : P.underlying t = some (.map k e)) {z : Value} (hz : (zeroValue e).run P w = .ok z w) {zd : DataW Unit × List MemPlace} (hzd : R z = some zd) {key : Value} {l : Lit} (hkey : keyOf P k key = some l) :
    (Instr.lookup t (.map (some b)) key false).run P w = .ok ((M key).getD z) w := by
  obtain ⟨D, h1, h2⟩ := h
  obtain ⟨v, ps, hr, hv⟩ := h1.lookup K ht hz (zd := zd.1) (zp := zd.2) hzd hkey
  have h3 := h2 key l hkey
  rw [hr]
  congr 1
  cases hM : M key with
  | none =>
    rw [hM] at h3
    rw [h3.2] at hv
    exact hR _ _ _ _ _ hv hzd
  | some u =>
    rw [hM] at h3
    obtain ⟨_, d, p, hu, hd⟩ := h3
    rw [hd] at hv
    exact hR _ _ _ _ _ hv hu
theorem MapV.update (h : MapV P k R b n M w) (K : Go.Maps.Keyed P k) (ht : P.underlying t = some (.map k e)) (hn : n < maxLen) {key val : Value} {l : Lit} (hkey : keyOf P k key = some l) {d : DataW Unit × List MemPlace} (hv : R val = some d) :
    ∃ w', (Instr.mapUpdate t (.map (some b)) key val).run P w = .ok () w' ∧ MapV P k R b (n + 1) (updV M key (some val)) w' ∧ w.grownBy w' (some b) := by
  obtain ⟨D, h1, h2⟩ := h
  obtain ⟨w', hr, h3, h4⟩ := h1.update K ht hn hkey (d := d.1) (ps := d.2) hv
  have hD : Go.Maps.IsMap D := h1.isMap
  refine ⟨w', hr, ⟨_, h3, fun v' l' hl' => ?_⟩, h4⟩
  by_cases e1 : v' = key
  · subst e1
    have : l' = l := Option.some.inj (hl'.symm.trans hkey)
    subst this
    rw [updV_same]
    exact ⟨Go.Maps.has_put_same hD (K.key hkey) _, d.1, d.2, hv, fun z => Go.Maps.atKey_put_same hD (K.key hkey) _ _⟩
  · have hne : l' ≠ l := fun e2 => e1 (K.inj (hl'.trans (congrArg some e2)) hkey)
    rw [updV_other e1]
    have := h2 v' l' hl'
    cases hM : M v' with
    | none => rw [hM] at this; exact ⟨by rw [Go.Maps.has_put_other hne]; exact this.1, fun z => by rw [Go.Maps.atKey_put_other hne]; exact this.2 z⟩
    | some u =>
      rw [hM] at this
      obtain ⟨hh, d', p', hu, hd'⟩ := this
      exact ⟨by rw [Go.Maps.has_put_other hne]; exact hh, d', p', hu, fun z => by rw [Go.Maps.atKey_put_other hne]; exact hd' z⟩
end
section
variable {P : Program} {k e t : TypeId} {R : Elem} {b n : Nat} {M : Value → Option Value} {w w0 : World} {F : List Nat} {L : List Res} {K : Value → World → Prop}
theorem makeMap_ok (k : TypeId) (R : Elem) (hS : St w0 F w L) (h : ∀ b w', St w0 F w' (Res.map P k R b 0 (fun _ => none) :: L) → K (.map (some b)) w') : valP P (Instr.makeMap t none) w K := by
  refine valP_ok (run_makeMap t w) (h _ _ (hS.add (Chg.alloc _ _ _) (MapV.made w) (fun g hg => ?_) (fun g hg => ?_)))
  all_goals
    obtain rfl : g = w.heap.size := List.mem_singleton.1 hg
    simp
theorem mapUpdate_at (j : Nat) (hS : St w0 F w L) (hj : L[j]? = some (Res.map P k R b n M)) (Kd : Go.Maps.Keyed P k) (ht : P.underlying t = some (.map k e)) (hn : n < maxLen) {key val : Value} {l : Lit} (hkey : keyOf P k key = some l) {d : DataW Unit × List MemPlace} (hv : R val = some d)
    (h : ∀ w', St w0 F w' (L.set j (Res.map P k R b (n + 1) (updV M key (some val)))) → K undef w') : unitP P (Instr.mapUpdate t (.map (some b)) key val) w K := by
  have hm : MapV P k R b n M w := hS.get j hj
  obtain ⟨w', hr, hm', hg⟩ := hm.update Kd ht hn hkey hv
  have hlt : b < w.heap.size := hS.lt _ (List.mem_of_getElem? hj) b (.head _)
  exact unitP_ok hr (h _ (hS.updk j hj ((Chg.of_grown hg).mono (by simp [Res.map])) hm' (fun g hg => .inl hg) (fun g' hg' => by
    obtain rfl : g' = b := List.mem_singleton.1 hg'
    exact Nat.lt_of_lt_of_le hlt hg.size)))
end
end Go.Proofs.Ytnhgdngbdoifnaa.F
namespace Go.Proofs.Ytnhgdngbdoifnaa.F
set_option linter.unusedVariables false
set_option linter.unusedSimpArgs false
open Go Go.RowKit
def Ret (P : Program) (f : FuncId) (args : Array Value) (w : World) (R : Value → World → Prop) : Prop := Calls P f args w fun e w' => ∃ v, e = .returned v ∧ R v w'
theorem Ret.mono {P : Program} {f : FuncId} {args : Array Value} {w : World} {R R' : Value → World → Prop} (h : Ret P f args w R) (hr : ∀ v w', R v w' → R' v w') : Ret P f args w R' :=
  Calls.mono h fun e w' ⟨v, he, hR⟩ => ⟨v, he, hr _ _ hR⟩
section
variable {P : Program} {w w' : World} {K : Value → World → Prop} {KQ : Value → Prop}
theorem callR {f : FuncId} {args : Array Value} {R : Value → World → Prop} (hf : callsOk P f = true) (hc : Ret P f args w R) (h : ∀ v w', R v w' → K v w') : callP P (fnV f) args w K := call_ok hf (hc.mono h)
end
section
variable {α : Type} (enc : α → List Value) (k : Nat)
theorem flat_len (hk : ∀ x, (enc x).length = k) (l : List α) : (l.flatMap enc).length = l.length * k := by
  induction l with
  | nil => simp
  | cons a l ih => rw [List.flatMap_cons, List.length_append, ih, hk, List.length_cons, Nat.succ_mul, Nat.add_comm]
theorem flat_get (hk : ∀ x, (enc x).length = k) : ∀ (l : List α) (i j : Nat) (hi : i < l.length), j < k → (l.flatMap enc)[i * k + j]? = (enc l[i])[j]?
  | [], i, j, hi, _ => absurd hi (Nat.not_lt_zero _)
  | a :: l, 0, j, hi, hj => by
    rw [List.flatMap_cons, Nat.zero_mul, Nat.zero_add, List.getElem?_append_left (by rw [hk]; exact hj)]
    rfl
  | a :: l, i + 1, j, hi, hj => by
    rw [List.flatMap_cons, List.getElem?_append_right (by rw [hk, Nat.succ_mul]; omega), hk, show (i + 1) * k + j - k = i * k + j by rw [Nat.succ_mul]; omega]
    exact flat_get hk l i j (by simpa using hi) hj
theorem flat_take (hk : ∀ x, (enc x).length = k) : ∀ (l : List α) (n : Nat), (l.flatMap enc).take (n * k) = (l.take n).flatMap enc
  | [], n => by simp
  | a :: l, 0 => by simp
  | a :: l, n + 1 => by
    rw [List.flatMap_cons, List.take_append, List.take_succ_cons, List.flatMap_cons, hk, show (n + 1) * k - k = n * k by rw [Nat.succ_mul]; omega, flat_take hk l n]
    congr 1
    exact List.take_of_length_le (by rw [hk, Nat.succ_mul]; omega)
end
abbrev ints (l : List Int) : List Value := l.map (Value.int .i64)
section
variable {w0 w w' : World} {F : List Nat} {L : List Res}
theorem own_take {e size n c k : Nat} {A : Option Addr} {xs : List Value} (h : w.ownsRow 0 e size (.slice A n c) n xs) (hk : k ≤ n) : w.ownsRow 0 e size (.slice A k c) k (xs.take (k * size)) := by
  refine ⟨by rw [List.length_take, h.1]; exact Nat.min_eq_left (Nat.mul_le_mul_right _ hk), ?_⟩
  rcases h.2 with ⟨hv, h0⟩ | ⟨g, cap, cur, hv, hb, hg, hn, hm, hs, ht⟩
  · injection hv with h1 h2 h3
    exact .inl ⟨by rw [h1, h3]; congr 1; omega, by omega⟩
  · injection hv with h1 h2 h3
    exact .inr ⟨g, cap, cur, by rw [h1, h3], hb, hg, by omega, hm, hs, by rw [← ht, List.take_take, Nat.min_eq_left (Nat.mul_le_mul_right _ hk)]⟩
theorem St.row_take (j : Nat) {e size n c k : Nat} {A : Option Addr} {xs : List Value} (h : St w0 F w L) (hj : L[j]? = some (Res.row e size (.slice A n c) n xs)) (hk : k ≤ n) : St w0 F w (L.set j (Res.row e size (.slice A k c) k (xs.take (k * size)))) :=
  h.updk j hj (Chg.refl _ _) (own_take (h.get j hj) hk) (fun g hg => .inl (by cases A <;> exact hg)) (fun g hg => h.lt _ (List.mem_of_getElem? hj) g (by cases A <;> exact hg))
theorem St.row_form (j : Nat) {e size n : Nat} {v : Value} {xs : List Value} (h : St w0 F w L) (hj : L[j]? = some (Res.row e size v n xs)) : ∃ A c, v = .slice A n c ∧ xs.length = n * size := by
  have hh : w.ownsRow 0 e size v n xs := h.get j hj
  rcases hh.2 with ⟨hv, h0⟩ | ⟨g, cap, cur, hv, hb, hg, hn, hm, hs, ht⟩
  · exact ⟨none, 0, by rw [hv, h0], hh.1⟩
  · exact ⟨_, cap, hv, hh.1⟩
theorem St.row_max (j : Nat) {e size n c : Nat} {A : Option Addr} {xs : List Value} (h : St w0 F w L) (hj : L[j]? = some (Res.row e size (.slice A n c) n xs)) : n ≤ c ∧ c ≤ maxLen := by
  have hh : w.ownsRow 0 e size (.slice A n c) n xs := h.get j hj
  rcases hh.2 with ⟨hv, h0⟩ | ⟨g, cap, cur, hv, hb, hg, hn, hm, hs, ht⟩
  · injection hv with h1 h2 h3; subst h3; exact ⟨by omega, by decide⟩
  · injection hv with h1 h2 h3; subst h3; exact ⟨hn, hm⟩
theorem Rd.old {size n : Nat} {A : Option Addr} {xs : List Value} (h : Rd w0 size A n xs) (hS : St w0 F w L) (hF : ∀ g o, A = some ⟨g, o, none⟩ → g ∉ F) : Rd w size A n xs :=
  h.chg hS.chg hF
theorem Rd.old0 {size n : Nat} {A : Option Addr} {xs : List Value} (h : Rd w0 size A n xs) (hS : St w0 [] w L) : Rd w size A n xs := h.old hS (fun _ _ _ => by simp)
theorem Rd.cell_ {n i o g : Nat} {xs : List Value} {u : Value} (h : Rd w 1 (some ⟨g, o, none⟩) n xs) (hu : xs[i]? = some u) : w.cell? ⟨g, o + i, none⟩ = some u := by
  have hl : 0 < xs.length := by
    obtain ⟨hi, _⟩ := List.getElem?_eq_some_iff.1 hu
    omega
  obtain ⟨g', o', hA, hc⟩ := h.2 hl
  injection hA with hA
  injection hA with h1 h2
  subst h1
  subst h2
  exact hc i u hu
theorem Rd.cells_ {size n i o g : Nat} {xs : List Value} {u : Value} (h : Rd w size (some ⟨g, o, none⟩) n xs) (hu : xs[i]? = some u) : w.cell? ⟨g, o + i, none⟩ = some u := by
  have hl : 0 < xs.length := by
    obtain ⟨hi, _⟩ := List.getElem?_eq_some_iff.1 hu
    omega
  obtain ⟨g', o', hA, hc⟩ := h.2 hl
  injection hA with hA
  injection hA with h1 h2
  subst h1
  subst h2
  exact hc i u hu
theorem Rd.some_ {size n : Nat} {A : Option Addr} {xs : List Value} (h : Rd w size A n xs) (hn : 0 < n) (hs : 0 < size) : ∃ g o, A = some ⟨g, o, none⟩ := by
  obtain ⟨g, o, hA, _⟩ := h.2 (by rw [h.1]; exact Nat.mul_pos hn hs)
  exact ⟨g, o, hA⟩
end
end Go.Proofs.Ytnhgdngbdoifnaa.F
namespace Go.Proofs.Ytnhgdngbdoifnaa.F
set_option linter.unusedVariables false
set_option linter.unusedSimpArgs false
open Go Go.RowKit
def SlT (P : Program) (t e size bytes : Nat) (z : Value) : Prop := P.underlying t = some (.slice e) ∧ (P.info? e).map (fun i => (i.zero, i.size, i.bytes)) = some (some z, size, bytes) ∧ z.cells.size = size ∧ 0 < size
theorem SlT.parts {P : Program} {t e size bytes : Nat} {z : Value} (h : SlT P t e size bytes z) : ∃ i, P.info? e = some i ∧ i.zero = some z ∧ i.size = size ∧ i.bytes = bytes := by
  cases hi : P.info? e with
  | none => have := h.2.1; rw [hi] at this; cases this
  | some i =>
    have := h.2.1
    rw [hi] at this
    simp only [Option.map_some, Option.some.injEq, Prod.mk.injEq] at this
    exact ⟨i, rfl, this.1, this.2.1, this.2.2⟩
section
variable {P : Program} {w w0 w' : World} {F : List Nat} {L : List Res} {K : Value → World → Prop}
theorem append_run {cs : Array Bool} {v : Value} {args : Array Value} {ats : Array TypeId} {t : TypeId} (h : (Builtin.append_ ats t args).run P w = .ok v w') : (builtin .append ats t cs args : Sem Next).run P w = .ok (.value v) w' := by
  simp [builtin, h]
theorem append_ok (k : Nat) {t e ty size bytes n m c : Nat} {z : Value} {v : Value} {cs : Array Bool} {xs news : List Value} {a : Addr} (hT : SlT P t e size bytes z) (hS : St w0 F w L) (hk : L[k]? = some (Res.row e size v n xs))
    (hl : news.length = m * size) (hnews : ∀ j u, news[j]? = some u → w.cell? (a.add j) = some u) (h1 : ∀ u ∈ news, u.oneCell' = true) (h63 : n + m ≤ maxLen) (hbytes : (n + m) * bytes ≤ 140737488355328)
    (h : ∀ A' c' w', St w0 F w' (L.set k (Res.row e size (.slice A' (n + m) c') (n + m) (xs ++ news))) → K (.slice A' (n + m) c') w') : builtinP P .append #[t, t] ty cs #[v, .slice (some a) m c] w K := by
  obtain ⟨i, hi, hz, hs, hb⟩ := hT.parts
  obtain ⟨v', w', hr, hS', _⟩ := hS.append k (ty := ty) (c := c) hk hT.1 hi hz hs hb hT.2.2.1 hT.2.2.2 hl hnews h1 h63 hbytes
  obtain ⟨hlt, _⟩ := List.getElem?_eq_some_iff.1 hk
  obtain ⟨A', c', rfl, _⟩ := hS'.row_form (e := e) (size := size) (n := n + m) (v := v') (xs := xs ++ news) k (by simp [hlt])
  exact builtin_ok (append_run hr) (h A' c' w' hS')
theorem append_rd (k : Nat) {t e ty size bytes n m c : Nat} {z : Value} {v : Value} {cs : Array Bool} {xs news : List Value} {A : Option Addr} {A' : Addr} (hT : SlT P t e size bytes z) (hS : St w0 F w L) (hk : L[k]? = some (Res.row e size v n xs))
    (hR : Rd w size (some A') m news) (hA : A = some A') (h1 : ∀ u ∈ news, u.oneCell' = true) (h63 : n + m ≤ maxLen) (hbytes : (n + m) * bytes ≤ 140737488355328)
    (h : ∀ A' c' w', St w0 F w' (L.set k (Res.row e size (.slice A' (n + m) c') (n + m) (xs ++ news))) → K (.slice A' (n + m) c') w') : builtinP P .append #[t, t] ty cs #[v, .slice A m c] w K := by
  subst hA
  refine append_ok k hT hS hk hR.1 (fun j u hj => ?_) h1 h63 hbytes h
  obtain ⟨hi, _⟩ := List.getElem?_eq_some_iff.1 hj
  obtain ⟨g, o, hA, hc⟩ := hR.2 (by omega)
  injection hA with hA
  subst hA
  rw [add_none]
  exact hc j u hj
theorem own_cells {b e size n : Nat} {cs : List Value} (h : w.heap[b]? = some (.cells cs.toArray e (0, 0))) (hn : cs.length = n * size) (hm : n ≤ maxLen) : w.ownsRow 0 e size (.slice (some ⟨b, 0, none⟩) n n) n cs :=
  ⟨hn, .inr ⟨b, n, cs.toArray, rfl, Nat.zero_le _, h, Nat.le_refl _, hm, by simpa using hn, by rw [List.take_of_length_le (by simp; omega)]⟩⟩
theorem St.as_row (k : Nat) {b e : Nat} (size n : Nat) {cs : List Value} (hS : St w0 F w L) (hk : L[k]? = some (Res.cells b e cs)) (hn : cs.length = n * size) (hm : n ≤ maxLen) : St w0 F w (L.set k (Res.row e size (.slice (some ⟨b, 0, none⟩) n n) n cs)) :=
  hS.updk k hk (Chg.refl _ _) (own_cells (hS.get k hk) hn hm) (fun g hg => .inl hg) (fun g hg => hS.lt _ (List.mem_of_getElem? hk) g hg)
theorem Rd.of_cells (k : Nat) {b e size n : Nat} {cs : List Value} (hS : St w0 F w L) (hk : L[k]? = some (Res.cells b e cs)) (hn : cs.length = n * size) : Rd w size (some ⟨b, 0, none⟩) n cs :=
  ⟨hn, fun _ => ⟨b, 0, rfl, fun j u hj => by rw [Nat.zero_add]; exact hS.cell k hk hj⟩⟩
theorem newslice_ok {t n m : Nat} {cs : List Value} {s : Sem Value} (hs : s.run P w = .ok (.slice (some ⟨w.heap.size, 0, none⟩) n m) (w.alloc (.cells cs.toArray t))) (hS : St w0 F w L)
    (h : ∀ b w', St w0 F w' (Res.cells b t cs :: L) → K (.slice (some ⟨b, 0, none⟩) n m) w') : valP P s w K := valP_ok hs (h _ _ (hS.alloc t cs))
end
end Go.Proofs.Ytnhgdngbdoifnaa.F
namespace Go.Proofs.Ytnhgdngbdoifnaa.F
set_option linter.unusedVariables false
set_option linter.unusedSimpArgs false
theorem cellD {w : World} {p : Addr} {v : Value} (h : w.cell? p = some v) (n : Nat) : (w.drewN n).cell? p = some v := h
theorem valQ_load {P : Program} {w : World} {KQ : Value → Prop} {T : Nat} {p : Addr} {v : Value} (hT : ∀ {w : World} {p : Addr} {v : Value}, w.cell? p = some v → (Instr.loadAt T (.pointer (some p))).run P w = .ok v w) (hc : w.cell? p = some v) (hK : KQ v) : valQ P (Instr.loadAt T (.pointer (some p))) w KQ :=
  valQ_at (fun n => hT (w := w.drewN n) hc) hK
theorem St.own_row {w0 w : World} {F : List Nat} {L : List Res} (k : Nat) {e size n : Nat} {v : Value} {xs : List Value} (h : St w0 F w L) (hk : L[k]? = some (Res.row e size v n xs)) : w.ownsRow 0 e size v n xs := h.get k hk
theorem St.row_ptr {w0 w : World} {F : List Nat} {L : List Res} (k : Nat) {e size n c : Nat} {A : Option Addr} {xs : List Value} (h : St w0 F w L) (hk : L[k]? = some (Res.row e size (.slice A n c) n xs)) (hn : 0 < n) : ∃ g, A = some ⟨g, 0, none⟩ := row_some (h.get k hk) hn
end Go.Proofs.Ytnhgdngbdoifnaa.F
namespace Go.Proofs.Ytnhgdngbdoifnaa.F
set_option linter.unusedVariables false
set_option linter.unusedSimpArgs false
def Bes (w0 : World) (F : List Nat) (L : List Res) (size : Nat) (A : Option Addr) (n : Nat) (xs : List Value) : Prop := ∀ w L', St w0 F w L' → (∀ r ∈ L, r ∈ L') → Rd w size A n xs
section
variable {w0 w : World} {F : List Nat} {L L' : List Res} {size n : Nat} {A : Option Addr} {xs : List Value}
theorem Bes.of_row (k : Nat) {e c : Nat} (hk : L[k]? = some (Res.row e size (.slice A n c) n xs)) : Bes w0 F L size A n xs :=
  fun w L' hS hL => Rd.of_row (hS.H _ (hL _ (List.mem_of_getElem? hk)))
theorem Bes.of_cells (k : Nat) {b e : Nat} (hk : L[k]? = some (Res.cells b e xs)) (hn : xs.length = n * size) : Bes w0 F L size (some ⟨b, 0, none⟩) n xs := fun w L' hS hL => by
  obtain ⟨j, hj⟩ := List.mem_iff_getElem?.1 (hL _ (List.mem_of_getElem? hk))
  exact Rd.of_cells j hS hj hn
theorem Bes.of_old (h : Rd w0 size A n xs) (hF : ∀ g o, A = some ⟨g, o, none⟩ → g ∉ F) : Bes w0 F L size A n xs := fun w L' hS _ => h.old hS hF
theorem Bes.of_old0 (h : Rd w0 size A n xs) : Bes w0 [] L size A n xs := Bes.of_old h (fun _ _ _ => by simp)
set_option linter.unusedVariables false in
theorem Bes.mono (h : Bes w0 F L size A n xs) (hL : ∀ r ∈ L, r ∈ L') : Bes w0 F L' size A n xs := fun w L'' hS hL' => h w L'' hS (fun r hr => hL' r (hL r hr))
theorem Bes.rd (h : Bes w0 F L size A n xs) (hS : St w0 F w L) : Rd w size A n xs := h w L hS (fun _ h => h)
theorem Bes.rd1 (h : Bes w0 F L size A n xs) {a : Res} (hS : St w0 F w (a :: L)) : Rd w size A n xs := h w _ hS (fun _ h => .tail _ h)
end
end Go.Proofs.Ytnhgdngbdoifnaa.F
namespace Go.Proofs.Ytnhgdngbdoifnaa.F
set_option linter.unusedVariables false
set_option linter.unusedSimpArgs false
open Go Go.RowKit
section
variable {P : Program} {w w0 w' : World} {F : List Nat} {L : List Res} {K : Value → World → Prop}
theorem list_set_set {α : Type} (l : List α) (k : Nat) (a b : α) : (l.set k a).set k b = l.set k b := by simp
def setAll {α : Type} : List α → Nat → List α → List α
  | xs, _, [] => xs
  | xs, j, v :: vs => setAll (xs.set j v) (j + 1) vs
theorem setAll_len {α : Type} : ∀ (vs xs : List α) (j : Nat), (setAll xs j vs).length = xs.length
  | [], xs, j => rfl
  | v :: vs, xs, j => by unfold setAll; rw [setAll_len vs]; simp
theorem setAll_take {α : Type} : ∀ (vs xs : List α) (j i : Nat), i ≤ j → (setAll xs j vs).take i = xs.take i
  | [], xs, j, i, _ => rfl
  | v :: vs, xs, j, i, h => by unfold setAll; rw [setAll_take vs _ _ _ (by omega), List.take_set_of_le h]
theorem setAll_eq {α : Type} : ∀ (vs xs : List α) (j : Nat), j + vs.length ≤ xs.length → setAll xs j vs = xs.take j ++ vs ++ xs.drop (j + vs.length)
  | [], xs, j, h => by simp [setAll]
  | v :: vs, xs, j, h => by
    simp only [List.length_cons] at h
    unfold setAll
    rw [setAll_eq vs _ _ (by rw [List.length_set]; omega), List.take_succ_eq_append_getElem (by rw [List.length_set]; omega), List.take_set_of_le (Nat.le_refl _), List.getElem_set_self, List.drop_set_of_lt (by omega)]
    simp [Nat.add_comm 1, Nat.add_assoc, Nat.add_left_comm]
theorem setAll_flat {α β : Type} (enc : α → List β) (k : Nat) (hk : ∀ x, (enc x).length = k) : ∀ (l : List α) (i : Nat) (x : α), i < l.length → setAll (l.flatMap enc) (i * k) (enc x) = (l.set i x).flatMap enc
  | [], i, x, h => absurd h (Nat.not_lt_zero _)
  | a :: l, 0, x, _ => by
    rw [Nat.zero_mul, setAll_eq _ _ _ (by simp [List.flatMap_cons, hk]), List.take_zero, List.nil_append, Nat.zero_add, List.flatMap_cons, List.set_cons_zero, List.flatMap_cons, hk, List.drop_append_of_le_length (by rw [hk]; exact Nat.le_refl _)]
    rw [show (enc a).drop k = [] from List.drop_of_length_le (by rw [hk]; exact Nat.le_refl _), List.nil_append]
  | a :: l, i + 1, x, h => by
    have ih := setAll_flat enc k hk l i x (by simpa using h)
    have hlen : i * k + k ≤ (l.flatMap enc).length := by
      rw [← Nat.succ_mul]
      have : (l.flatMap enc).length = l.length * k := by
        clear ih h
        induction l with
        | nil => simp
        | cons b l ih => rw [List.flatMap_cons, List.length_append, ih, hk, List.length_cons, Nat.succ_mul, Nat.add_comm]
      rw [this]
      exact Nat.mul_le_mul_right _ (Nat.succ_le_of_lt (by simpa using h))
    rw [setAll_eq _ _ _ (by rw [hk]; exact hlen)] at ih
    rw [setAll_eq _ _ _ (by rw [hk, List.flatMap_cons, List.length_append, hk, Nat.succ_mul]; omega), List.set_cons_succ, List.flatMap_cons, List.flatMap_cons, ← ih, Nat.succ_mul, hk]
    rw [List.take_append, List.drop_append, hk, List.take_of_length_le (by rw [hk]; omega), List.drop_of_length_le (by rw [hk]; omega), show i * k + k - k = i * k by omega, show i * k + k + k - k = i * k + k by omega]
    simp
theorem St.row_sets (k : Nat) {e size g n c : Nat} : ∀ (vs : List Value) (j : Nat) {w : World} {L : List Res} {xs : List Value}, St w0 F w L → L[k]? = some (Res.row e size (.slice (some ⟨g, 0, none⟩) n c) n xs) → j + vs.length ≤ xs.length →
    St w0 F (w.setCells g j vs) (L.set k (Res.row e size (.slice (some ⟨g, 0, none⟩) n c) n (setAll xs j vs)))
  | [], j, w, L, xs, hS, hk, hj => by
    obtain ⟨hlt, he⟩ := List.getElem?_eq_some_iff.1 hk
    show St w0 F w (L.set k (Res.row e size (.slice (some ⟨g, 0, none⟩) n c) n xs))
    rw [← he, List.set_getElem_self]
    exact hS
  | v :: vs, j, w, L, xs, hS, hk, hj => by
    obtain ⟨hlt, he⟩ := List.getElem?_eq_some_iff.1 hk
    simp only [List.length_cons] at hj
    have h1 := hS.row_set k (j := j) v hk (by omega)
    have hk1 : (L.set k (Res.row e size (.slice (some ⟨g, 0, none⟩) n c) n (xs.set j v)))[k]? = some (Res.row e size (.slice (some ⟨g, 0, none⟩) n c) n (xs.set j v)) := by simp [hlt]
    have h2 := St.row_sets k vs (j + 1) h1 hk1 (by rw [List.length_set]; omega)
    rw [list_set_set] at h2
    exact h2
theorem zeroValue_ok {e : TypeId} {i : TypeInfo} {z : Value} (hi : P.info? e = some i) (hz : i.zero = some z) (w : World) : (zeroValue e).run P w = .ok z w := by
  simp [zeroValue, typeInfo, hi, hz, go_sem]
theorem clear_ok (k : Nat) {t e ty size bytes n c i : Nat} {cs : Array Bool} {z : Value} {A : Option Addr} {xs : List Value} (hT : SlT P t e size bytes z) (h1 : ∀ v ∈ z.cells, v.oneCell' = true) (hS : St w0 F w L) (hk : L[k]? = some (Res.row e size (.slice A n c) n xs)) (hi : i ≤ n)
    (h : ∀ w' xs', xs'.length = xs.length → xs'.take (i * size) = xs.take (i * size) → St w0 F w' (L.set k (Res.row e size (.slice A n c) n xs')) → K (.tuple #[]) w') :
    builtinP P .clear #[t] ty cs #[.slice (if c = i then A else A.map (·.add (i * size))) (n - i) (c - i)] w K := by
  obtain ⟨inf, hinf, hz, hs, hb⟩ := hT.parts
  obtain ⟨hlt, he⟩ := List.getElem?_eq_some_iff.1 hk
  have hself : St w0 F w (L.set k (Res.row e size (.slice A n c) n xs)) := by rw [← he, List.set_getElem_self]; exact hS
  obtain ⟨_, _, e0, hxl⟩ := hS.row_form k hk
  have hnc := (hS.row_max k hk).1
  by_cases hin : i = n
  · subst hin
    refine builtin_ok (w' := w) (v := .tuple #[]) ?_ (h w xs rfl rfl hself)
    rw [Nat.sub_self]
    cases (if c = i then A else A.map (·.add (i * size))) <;> simp [builtin, Builtin.clear_, run_underlying hT.1]
  · obtain ⟨g, rfl⟩ := hS.row_ptr k hk (by omega)
    rw [if_neg (by omega)]
    show builtinP P .clear #[t] ty cs #[.slice (some ((⟨g, 0, none⟩ : Addr).add (i * size))) (n - i) (c - i)] w K
    rw [add_none, Nat.zero_add]
    have hsz := hT.2.2.1
    have hpos := hT.2.2.2
    have hzl : (Builtin.zeroCells z.cells (n - i)).toList.length = (n - i) * size := by simp [Builtin.zeroCells, hsz]
    have hms : i * size + (n - i) * size = n * size := by rw [← Nat.add_mul]; congr 1; omega
    have hS' := hS.row_sets k (Builtin.zeroCells z.cells (n - i)).toList (i * size) hk (by omega)
    have x1 := setAll_len (Builtin.zeroCells z.cells (n - i)).toList xs (i * size)
    have x2 := setAll_take (Builtin.zeroCells z.cells (n - i)).toList xs (i * size) (i * size) (Nat.le_refl _)
    generalize setAll xs (i * size) (Builtin.zeroCells z.cells (n - i)).toList = xs' at hS' x1 x2
    have hst := run_storeCells_cells (P := P) g (i * size) (Builtin.zeroCells z.cells (n - i)).toList 0 w (fun j hj => by
      rw [Nat.add_zero, hS.row_cell k hk (u := xs[i * size + j]'(by omega)) (by simp)]; rfl) (fun j hj => hS.row_frozen k hk) (fun v hv => h1 v (by
        simp only [Builtin.zeroCells, Array.toList_map, List.mem_map] at hv
        obtain ⟨q, _, rfl⟩ := hv
        have hq : q % z.cells.size < z.cells.size := Nat.mod_lt _ (by omega)
        rw [getElem!_pos z.cells (q % z.cells.size) hq]
        exact Array.getElem_mem hq))
    rw [Nat.add_zero] at hst
    refine builtin_ok (w' := w.setCells g (i * size) (Builtin.zeroCells z.cells (n - i)).toList) (v := .tuple #[]) ?_ (h _ xs' x1 x2 hS')
    obtain ⟨m, hm⟩ : ∃ m, n - i = m + 1 := ⟨n - i - 1, by omega⟩
    have hzv := fun w => zeroValue_ok (w := w) hinf hz
    rw [hm] at hst ⊢
    simp [builtin, Builtin.clear_, run_underlying hT.1, hzv, hst]
theorem Rd.struct {α : Type} {enc : α → List Value} {k i o g : Nat} {l : List α} (hk : ∀ x, (enc x).length = k) (h : Rd w k (some ⟨g, o, none⟩) l.length (l.flatMap enc)) (hi : i < l.length) {j : Nat} (hj : j < k) {v : Value} (hv : (enc l[i])[j]? = some v) : w.cell? ⟨g, o + i * k + j, none⟩ = some v := by
  have := flat_get enc k hk l i j hi hj
  rw [hv] at this
  have := h.cells_ this
  rwa [← Nat.add_assoc] at this
theorem rem_any (T : TypeId) (x y : Operand) {a b : Int} (ha : -9223372036854775808 ≤ a) (ha' : a ≤ 9223372036854775807) (hb : 0 < b) (hb' : b ≤ 9223372036854775807) (w : World) : (binS .rem T x y (.int .i64 a) (.int .i64 b)).run P w = .ok (.int .i64 (a.tmod b)) w := by
  rw [binS_run _ _ _ _ _ _ rfl]
  have hne : b ≠ 0 := by omega
  have h1 := Int.tmod_lt_of_pos a hb
  have h2 : -b < a.tmod b := by
    have := Int.lt_tmod_of_pos a hb
    omega
  simp [go_sem, binOp, IntKind.wrap_i64, hne] <;> omega
theorem tmod_bounds (a : Int) {b : Int} (hb : 0 < b) : -b < a.tmod b ∧ a.tmod b < b := ⟨Int.lt_tmod_of_pos a hb, Int.tmod_lt_of_pos a hb⟩
theorem St.pick (n : Nat) (idx : List Nat) (h : St w0 F w L) (hn : n ≤ L.length) (hd : idx.Nodup ∧ ∀ i ∈ idx, i < n) : St w0 F w (idx.filterMap (fun i => L[i]?) ++ L.drop n) := by
  have hmem : ∀ r ∈ idx.filterMap (fun i => L[i]?) ++ L.drop n, r ∈ L := fun r hr => by
    rcases List.mem_append.1 hr with hr | hr
    · obtain ⟨i, _, hi⟩ := List.mem_filterMap.1 hr
      exact List.mem_of_getElem? hi
    · exact List.mem_of_mem_drop hr
  have hap : ∀ (i j : Nat) (a b : Res), i ≠ j → L[i]? = some a → L[j]? = some b → ∀ g ∈ a.blks, g ∉ b.blks := fun i j a b hne ha hb g hga hgb => by
    obtain ⟨hi, rfl⟩ := List.getElem?_eq_some_iff.1 ha
    obtain ⟨hj, rfl⟩ := List.getElem?_eq_some_iff.1 hb
    rcases Nat.lt_or_gt_of_ne hne with hlt | hlt
    · exact List.pairwise_iff_getElem.1 h.apart i j hi hj hlt g hga hgb
    · exact List.pairwise_iff_getElem.1 h.apart j i hj hi hlt g hgb hga
  refine ⟨h.chg, fun r hr => h.H r (hmem r hr), fun r hr => h.lt r (hmem r hr), fun r hr => h.own r (hmem r hr), List.pairwise_append.2 ⟨?_, (List.pairwise_append.1 (by rw [List.take_append_drop]; exact h.apart : (L.take n ++ L.drop n).Pairwise _)).2.1, fun a ha b hb => ?_⟩⟩
  · rw [List.pairwise_filterMap]
    exact hd.1.imp fun {i j} hij a ha b hb => hap i j a b hij ha hb
  · obtain ⟨i, hi, hia⟩ := List.mem_filterMap.1 ha
    obtain ⟨j, hj⟩ := List.mem_iff_getElem?.1 hb
    rw [List.getElem?_drop] at hj
    exact hap i (n + j) a b (by have := hd.2 i hi; omega) hia hj
theorem St.swap {A B : List Res} (h : St w0 F w (A ++ (B ++ L))) : St w0 F w (B ++ (A ++ L)) := by
  refine h.perm ?_
  rw [← List.append_assoc, ← List.append_assoc]
  exact List.perm_append_comm.append_right L
end
end Go.Proofs.Ytnhgdngbdoifnaa.F
namespace Go.Proofs.Ytnhgdngbdoifnaa.M
open Go.Proofs.Ytnhgdngbdoifnaa.F Go.RowKit
set_option linter.unusedVariables false
set_option linter.unusedSimpArgs false
set_option maxRecDepth 100000
set_option maxHeartbeats 2000000
attribute [local irreducible] Res.cells Res.row Res.map Res.any World.cell? World.frozen? Instr.fieldAt Instr.loadAt Instr.storeAt Instr.indexAt Instr.lookup Instr.mapUpdate Instr.box Instr.build Instr.buildSlice Instr.extract Instr.alloc Instr.field Instr.index Instr.sliceAt Instr.makeSlice Instr.makeMap Instr.makeFunc binS Op.unary Sem.run
open Go.RowKit
def bytesN (s : ByteArray) : List Nat := s.data.toList.map UInt8.toNat
theorem bytesN_length (s : ByteArray) : (bytesN s).length = s.size := by unfold bytesN; rw [List.length_map, Array.length_toList]; rfl
theorem bytesN_lt (s : ByteArray) : ∀ b ∈ bytesN s, b < 256 := by
  intro b hb; simp only [bytesN, List.mem_map] at hb; obtain ⟨u, _, rfl⟩ := hb; exact u.toNat_lt
theorem bytesN_inj {a b : ByteArray} (h : bytesN a = bytesN b) : a = b := by
  unfold bytesN at h
  have := (List.map_inj_right (fun a b h => UInt8.toNat_inj.mp h)).mp h
  exact ByteArray.ext (Array.toList_inj.mp this)
theorem bytesN_append (a b : ByteArray) : bytesN (a ++ b) = bytesN a ++ bytesN b := by
  unfold bytesN; rw [ByteArray.data_append, Array.toList_append, List.map_append]
theorem bytesN_drop (s : ByteArray) (j : Nat) : bytesN (s.extract j s.size) = (bytesN s).drop j := by
  unfold bytesN
  rw [ByteArray.data_extract, Array.toList_extract]
  have e : s.size = s.data.toList.length := by rw [Array.length_toList]; rfl
  rw [e, List.extract_eq_take_drop, ← List.map_drop, List.take_of_length_le (by rw [List.length_drop]; omega)]
theorem bytesN_take (s : ByteArray) (j : Nat) : bytesN (s.extract 0 j) = (bytesN s).take j := by
  unfold bytesN
  rw [ByteArray.data_extract, Array.toList_extract, List.extract_eq_take_drop, List.drop_zero, Nat.sub_zero, List.map_take]
theorem bytesN_get (s : ByteArray) (i : Nat) (h : i < s.size) : (bytesN s)[i]'(by rw [bytesN_length]; exact h) = s[i].toNat := by
  unfold bytesN
  rw [List.getElem_map]
  rfl
def lebN (u : Nat) : List Nat := if u < 128 then [u] else (u % 128 + 128) :: lebN (u / 128)
theorem lebN_lo {u : Nat} (h : u < 128) : lebN u = [u] := by rw [lebN, if_pos h]
theorem lebN_hi {u : Nat} (h : ¬ u < 128) : lebN u = (u % 128 + 128) :: lebN (u / 128) := by rw [lebN, if_neg h]
theorem lebN_lt (u : Nat) : ∀ b ∈ lebN u, b < 256 := by
  induction u using Nat.strongRecOn with
  | _ u ih =>
    by_cases h : u < 128
    · rw [lebN_lo h]; intro b hb; simp at hb; omega
    · rw [lebN_hi h]; intro b hb
      rcases List.mem_cons.1 hb with rfl | hb
      · omega
      · exact ih _ (by omega) b hb
theorem bytesN_strOfNums (L : List Nat) (hL : ∀ b ∈ L, b < 256) : bytesN (strOfNums (L.map Int.ofNat)) = L := by
  unfold bytesN strOfNums
  simp only [List.map_map]
  rw [List.map_congr_left (g := id)]
  · simp
  · intro b hb
    have := hL b hb
    simp only [Function.comp_apply, id]
    exact Nat.mod_eq_of_lt this
def vT : Nat → Nat → List Nat → Option (Nat × List Nat)
  | _, _, [] => none
  | k, a, c :: l => if 10 ≤ k then none else if 128 ≤ c then vT (k + 1) (a + (c - 128) * 2 ^ (7 * k)) l
      else if (0 < k ∧ c = 0) ∨ (k = 9 ∧ 1 < c) then none else some (a + c * 2 ^ (7 * k), l)
theorem pow7 (k : Nat) : 2 ^ (7 * (k + 1)) = 128 * 2 ^ (7 * k) := by rw [show 7 * (k + 1) = 7 + 7 * k by omega, Nat.pow_add]
theorem pow64 (k : Nat) (hk : k ≤ 8) : 2 ^ (64 - 7 * k) = 128 * 2 ^ (64 - 7 * (k + 1)) := by rw [show 64 - 7 * k = 7 + (64 - 7 * (k + 1)) by omega, Nat.pow_add]
theorem pow64_9 : 2 ^ (64 - 7 * 9) = 2 := by decide
theorem pow64_le (k : Nat) (hk : k ≤ 8) : 256 ≤ 2 ^ (64 - 7 * k) := by
  have := Nat.pow_le_pow_right (n := 2) (by decide) (show 8 ≤ 64 - 7 * k by omega)
  omega
theorem vT_lebN (u : Nat) : ∀ (k a : Nat) (l : List Nat), k ≤ 9 → u < 2 ^ (64 - 7 * k) → (0 < k → 0 < u) → vT k a (lebN u ++ l) = some (a + u * 2 ^ (7 * k), l) := by
  induction u using Nat.strongRecOn with
  | _ u ih =>
    intro k a l hk hu h0
    by_cases h : u < 128
    · rw [lebN_lo h, List.singleton_append]
      simp only [vT]
      rw [if_neg (by omega), if_neg (by omega), if_neg]
      rintro (⟨g1, g2⟩ | ⟨g1, g2⟩)
      · have := h0 g1; omega
      · subst g1; rw [pow64_9] at hu; omega
    · have hk8 : k ≤ 8 := by
        rcases Nat.lt_or_ge k 9 with g | g
        · omega
        · obtain rfl : k = 9 := by omega
          rw [pow64_9] at hu; omega
      rw [lebN_hi h, List.cons_append]
      simp only [vT]
      rw [if_neg (by omega), if_pos (by omega), Nat.add_sub_cancel, ih (u / 128) (by omega) (k + 1) _ l (by omega) (by rw [pow64 k hk8] at hu; exact Nat.div_lt_of_lt_mul hu) (by omega), pow7]
      congr 2
      have : u = u % 128 + 128 * (u / 128) := (Nat.mod_add_div u 128).symm
      generalize hz : 2 ^ (7 * k) = z
      generalize u / 128 = q at *
      generalize u % 128 = r at *
      subst this
      rw [Nat.add_mul, Nat.add_assoc]
      congr 2
      ac_rfl
theorem vT_canon (l : List Nat) : ∀ (k a v : Nat) (rest : List Nat), k ≤ 10 → (∀ b ∈ l, b < 256) → vT k a l = some (v, rest) →
    ∃ u, v = a + u * 2 ^ (7 * k) ∧ l = lebN u ++ rest ∧ k ≤ 9 ∧ u < 2 ^ (64 - 7 * k) ∧ (0 < k → 0 < u) := by
  induction l with
  | nil => intro k a v rest _ _ h; cases h
  | cons c l ih =>
    intro k a v rest hk hl h
    have hc := hl c (List.mem_cons_self ..)
    simp only [vT] at h
    by_cases g : 10 ≤ k
    · rw [if_pos g] at h; cases h
    rw [if_neg g] at h
    by_cases g1 : 128 ≤ c
    · rw [if_pos g1] at h
      obtain ⟨u, h1, h2, h3, h4, h5⟩ := ih (k + 1) _ v rest (by omega) (fun b hb => hl b (List.mem_cons_of_mem _ hb)) h
      have h0 := h5 (by omega)
      refine ⟨c - 128 + 128 * u, ?_, ?_, by omega, ?_, fun _ => by omega⟩
      · rw [h1, pow7, Nat.add_mul, Nat.add_assoc]
        congr 2
        ac_rfl
      · rw [lebN_hi (by omega), h2, show (c - 128 + 128 * u) % 128 + 128 = c by omega, show (c - 128 + 128 * u) / 128 = u by omega, List.cons_append]
      · rw [pow64 k (by omega)]; generalize 2 ^ (64 - 7 * (k + 1)) = z at *; omega
    · rw [if_neg g1] at h
      by_cases g2 : (0 < k ∧ c = 0) ∨ (k = 9 ∧ 1 < c)
      · rw [if_pos g2] at h; cases h
      · rw [if_neg g2] at h
        obtain ⟨rfl, rfl⟩ := Prod.mk.inj (Option.some.inj h)
        refine ⟨c, rfl, by rw [lebN_lo (by omega)]; rfl, by omega, ?_, fun _ => by omega⟩
        rcases Nat.lt_or_ge k 9 with e | e
        · have := pow64_le k (by omega); omega
        · obtain rfl : k = 9 := by omega
          rw [pow64_9]; omega
def nextU (u : Int) (c : Int) (k : Nat) : Int := Go.bits .or .u64 u (IntKind.u64.wrap (IntKind.u64.wrap (Go.bits .and .u8 c 127) * 2 ^ (7 * k)))
def unzI (u : Int) : Int := Go.bits .xor .i64 (wrap64 (u / 2)) (wrap64 (-wrap64 (Go.bits .and .u64 u 1)))
def zzI (n : Int) : Int := Go.bits .xor .u64 (IntKind.u64.wrap (IntKind.u64.wrap n * 2)) (IntKind.u64.wrap (n / 9223372036854775808))
theorem and127 (c : Nat) (hc : c < 256) : Go.bits .and .u8 (c : Int) 127 = ((c % 128 : Nat) : Int) := by
  rw [show (127 : Int) = ((127 : Nat) : Int) from rfl, (bits_nat .u8 8 (by decide) wraps_u8 c 127 hc (by decide)).1]
  congr 1
  exact Nat.and_two_pow_sub_one_eq_mod c 7
theorem wrap_u64 (n : Int) : IntKind.u64.wrap n = n % 18446744073709551616 := by simp [IntKind.wrap, IntKind.bits, IntKind.signed]
theorem wraps_u64 (n : Int) (h₀ : 0 ≤ n) (h₁ : n < 2 ^ 64) : IntKind.u64.wrap n = n := by rw [wrap_u64]; omega
theorem nextU_eq (a c k : Nat) (hk : k ≤ 9) (ha : a < 2 ^ (7 * k)) (hc : c < 256) (h9 : k = 9 → c % 128 ≤ 1) : nextU (a : Int) (c : Int) k = ((a + (c % 128) * 2 ^ (7 * k) : Nat) : Int) := by
  unfold nextU
  have hlt : (c % 128) * 2 ^ (7 * k) < 2 ^ 64 := by
    rcases Nat.lt_or_ge k 9 with e | e
    · have h1 := Nat.pow_le_pow_right (n := 2) (by decide) (show 7 * k ≤ 56 by omega)
      have h2 : c % 128 < 128 := Nat.mod_lt _ (by decide)
      calc (c % 128) * 2 ^ (7 * k) ≤ 127 * 2 ^ 56 := Nat.mul_le_mul (by omega) h1
        _ < 2 ^ 64 := by decide
    · obtain rfl : k = 9 := by omega
      have := h9 rfl
      calc (c % 128) * 2 ^ (7 * 9) ≤ 1 * 2 ^ (7 * 9) := Nat.mul_le_mul this (Nat.le_refl _)
        _ < 2 ^ 64 := by decide
  have ha64 : a < 2 ^ 64 := Nat.lt_of_lt_of_le ha (Nat.pow_le_pow_right (by decide) (by omega))
  have e1 : IntKind.u64.wrap (((c % 128 : Nat) : Int)) = ((c % 128 : Nat) : Int) := wraps_u64 _ (by omega) (by omega)
  have e2 : (((c % 128 : Nat) : Int) * 2 ^ (7 * k)) = (((c % 128) * 2 ^ (7 * k) : Nat) : Int) := by rw [Int.natCast_mul]; simp
  rw [and127 c hc, e1, e2, wraps_u64 _ (by omega) (by exact_mod_cast hlt), (bits_nat .u64 64 (by decide) wraps_u64 a _ ha64 hlt).2]
  congr 1
  have := Nat.two_pow_add_eq_or_of_lt ha (c % 128)
  rw [Nat.mul_comm (c % 128), Nat.or_comm, ← this]; omega
def unz (v : Nat) : Int := if v % 2 = 0 then ((v / 2 : Nat) : Int) else -((v / 2 : Nat) : Int) - 1
def zz (n : Int) : Nat := if 0 ≤ n then (2 * n).toNat else (-2 * n - 1).toNat
theorem unz_zz (n : Int) : unz (zz n) = n := by unfold unz zz; split <;> split <;> omega
theorem zz_unz (v : Nat) : zz (unz v) = v := by unfold unz zz; split <;> split <;> omega
theorem and1_64 (v : Nat) (hv : v < 2 ^ 64) : Go.bits .and .u64 (v : Int) 1 = ((v % 2 : Nat) : Int) := by
  rw [show (1 : Int) = ((1 : Nat) : Int) from rfl, (bits_nat .u64 64 (by decide) wraps_u64 v 1 hv (by decide)).1, Nat.and_one_is_mod]
theorem xor_i64_zero (x : Nat) (hx : x < 2 ^ 63) : Go.bits .xor .i64 (x : Int) 0 = (x : Int) := by
  show IntKind.i64.wrap ((BitVec.ofInt 64 (x : Int) ^^^ BitVec.ofInt 64 ((0 : Nat) : Int)).toNat) = _
  rw [BitVec.ofInt_natCast, BitVec.ofInt_natCast, BitVec.toNat_xor, BitVec.toNat_ofNat, BitVec.toNat_ofNat, Nat.mod_eq_of_lt (by omega), Nat.zero_mod, Nat.xor_zero, IntKind.wrap_i64]
  omega
theorem xor_i64_ones (x : Nat) (hx : x < 2 ^ 63) : Go.bits .xor .i64 (x : Int) (-1) = -(x : Int) - 1 := by
  show IntKind.i64.wrap ((BitVec.ofInt 64 (x : Int) ^^^ BitVec.ofInt 64 (-1)).toNat) = _
  have e : BitVec.ofInt 64 (-1) = BitVec.allOnes 64 := by decide
  rw [e, BitVec.xor_allOnes, BitVec.toNat_not, BitVec.ofInt_natCast, BitVec.toNat_ofNat, Nat.mod_eq_of_lt (by omega), IntKind.wrap_i64]
  omega
theorem unzI_eq (v : Nat) (hv : v < 2 ^ 64) : unzI (v : Int) = unz v := by
  unfold unzI unz
  rw [and1_64 v hv]
  have e1 : wrap64 ((v : Int) / 2) = ((v / 2 : Nat) : Int) := by unfold wrap64; omega
  rw [e1]
  by_cases h : v % 2 = 0
  · rw [if_pos h, h, show wrap64 (-wrap64 ((0 : Nat) : Int)) = 0 by unfold wrap64; omega]
    exact xor_i64_zero _ (by omega)
  · rw [if_neg h, show v % 2 = 1 by omega, show wrap64 (-wrap64 ((1 : Nat) : Int)) = -1 by unfold wrap64; omega]
    exact xor_i64_ones _ (by omega)
theorem zzI_eq (n : Int) (h1 : -9223372036854775808 ≤ n) (h2 : n ≤ 9223372036854775807) : zzI n = ((zz n : Nat) : Int) := by
  unfold zzI zz
  by_cases h : 0 ≤ n
  · rw [if_pos h]
    have e1 : IntKind.u64.wrap (IntKind.u64.wrap n * 2) = (((2 * n).toNat : Nat) : Int) := by rw [wrap_u64, wrap_u64]; omega
    have e2 : IntKind.u64.wrap (n / 9223372036854775808) = ((0 : Nat) : Int) := by rw [wrap_u64]; omega
    rw [e1, e2]
    show IntKind.u64.wrap ((BitVec.ofInt 64 _ ^^^ BitVec.ofInt 64 _).toNat) = _
    rw [BitVec.ofInt_natCast, BitVec.ofInt_natCast, BitVec.toNat_xor, BitVec.toNat_ofNat, BitVec.toNat_ofNat, Nat.mod_eq_of_lt (by omega), Nat.zero_mod, Nat.xor_zero, wrap_u64]
    omega
  · rw [if_neg h]
    have e1 : IntKind.u64.wrap (IntKind.u64.wrap n * 2) = (((18446744073709551616 + 2 * n).toNat : Nat) : Int) := by rw [wrap_u64, wrap_u64]; omega
    have e2 : IntKind.u64.wrap (n / 9223372036854775808) = 18446744073709551615 := by rw [wrap_u64]; omega
    rw [e1, e2]
    show IntKind.u64.wrap ((BitVec.ofInt 64 _ ^^^ BitVec.ofInt 64 18446744073709551615).toNat) = _
    have e : BitVec.ofInt 64 18446744073709551615 = BitVec.allOnes 64 := by decide
    rw [e, BitVec.xor_allOnes, BitVec.toNat_not, BitVec.ofInt_natCast, BitVec.toNat_ofNat, Nat.mod_eq_of_lt (by omega), wrap_u64]
    omega
theorem zz_lt (n : Int) (h1 : -9223372036854775808 ≤ n) (h2 : n ≤ 9223372036854775807) : zz n < 2 ^ 64 := by unfold zz; split <;> omega
def takeL (l : List Nat) : Option (Int × List Nat) := (vT 0 0 l).map fun p => (unz p.1, p.2)
theorem vT_ten (a : Nat) (l : List Nat) : vT 10 a l = none := by
  cases l with
  | nil => rfl
  | cons c l => simp only [vT]; rw [if_pos (by omega)]
theorem takeL_put (n : Int) (l : List Nat) (h1 : -9223372036854775808 ≤ n) (h2 : n ≤ 9223372036854775807) : takeL (lebN (zz n) ++ l) = some (n, l) := by
  unfold takeL
  rw [vT_lebN (zz n) 0 0 l (by omega) (zz_lt n h1 h2) (by omega)]
  simp [unz_zz]
theorem takeL_canon {l rest : List Nat} {n : Int} (hl : ∀ b ∈ l, b < 256) (h : takeL l = some (n, rest)) : l = lebN (zz n) ++ rest ∧ -9223372036854775808 ≤ n ∧ n ≤ 9223372036854775807 := by
  unfold takeL at h
  cases hv : vT 0 0 l with
  | none => rw [hv] at h; cases h
  | some p =>
    obtain ⟨v, r⟩ := p
    rw [hv] at h
    obtain ⟨rfl, rfl⟩ := Prod.mk.inj (Option.some.inj h)
    obtain ⟨u, e1, e2, -, e4, -⟩ := vT_canon l 0 0 v r (by omega) hl hv
    have e5 : v = u := by rw [e1]; simp
    subst e5
    refine ⟨by rw [zz_unz]; exact e2, ?_, ?_⟩ <;> (unfold unz; split <;> omega)
theorem lebN_len (u : Nat) : u < 2 ^ 64 → (lebN u).length ≤ 10 := fun h => by
  have key : ∀ k u, u < 2 ^ (7 * k) → 1 ≤ k → (lebN u).length ≤ k := by
    intro k
    induction k with
    | zero => intro u _ h; omega
    | succ k ih =>
      intro u hu _
      by_cases h : u < 128
      · rw [lebN_lo h]; simp
      · rw [lebN_hi h, List.length_cons]
        by_cases hk : k = 0
        · subst hk; exact absurd hu (by simpa using h)
        have := ih (u / 128) (by rw [pow7] at hu; omega) (by omega)
        omega
  exact key 10 u (Nat.lt_trans h (by decide)) (by omega)
abbrev ints (l : List Nat) : List Int := l.map Int.ofNat
def strN (l : List Nat) : ByteArray := strOfNums (ints l)
def putS (n : Int) : ByteArray := strN (lebN (zz n))
theorem bytesN_strN {l : List Nat} (h : ∀ b ∈ l, b < 256) : bytesN (strN l) = l := bytesN_strOfNums l h
theorem bytesN_putS (n : Int) : bytesN (putS n) = lebN (zz n) := bytesN_strN (lebN_lt _)
theorem strN_bytesN (s : ByteArray) : strN (bytesN s) = s := bytesN_inj (bytesN_strN (bytesN_lt s))
def takeS (s : ByteArray) : Option (Int × ByteArray) := (vT 0 0 (bytesN s)).map fun p => (unz p.1, strN p.2)
end Go.Proofs.Ytnhgdngbdoifnaa.M
