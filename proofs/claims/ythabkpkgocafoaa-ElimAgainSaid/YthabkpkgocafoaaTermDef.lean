/- What package term computes, as plain functions of lists and integers. No program's function. -/
import Derived.Test.YthabkpkgocafoaaTermB
import Derived.Test.YthabkpkgocafoaaMult
import Derived.Lib.SlicesCompact
namespace Go.Proofs.Ythabkpkgocafoaa
set_option linter.unusedVariables false
set_option linter.unusedSimpArgs false
open Go.RowKit

def oneB (m : Int) : Bool := decide (1 ≤ m) && decide (m ≤ 3)
/-- is the variable at i one that may stand there? -/
def varB (l : List Int) (i : Nat) : Bool := decide (0 ≤ l.getD i 0) && decide (l.getD i 0 < 1048576) && (decide (i = 0) || decide (l.getD (i - 1) 0 < l.getD i 0))
def varsB (l : List Int) : Nat → Bool
  | 0 => true
  | k + 1 => varsB l k && varB l k
def mayB (t : TermD) : Bool :=
  if t.never then t.c == 0 && t.vars.isEmpty
  else oneB t.c && !(t.c == 3 && !t.vars.isEmpty) && varsB t.vars t.vars.length
def mayE (t : TermD) : Int := if mayB t then 0 else 2
theorem mayE_yes {t : TermD} (h : mayB t = true) : mayE t = 0 := by simp [mayE, h]
theorem mayE_no {t : TermD} (h : mayB t = false) : mayE t = 2 := by simp [mayE, h]
/-- the variables of a list, in order, each once -/
def sset (vs : List Int) : List Int := Lib.compact (vs.mergeSort fun x y => decide (x ≤ y))
def cleanT (c : Int) (vs : List Int) : TermD := ⟨false, c, if c = 3 ∨ vs = [] then [] else sset vs⟩
def someT (ts : List TermD) : List TermD := ts.filter fun t => !t.never
def joinC0 (ts : List TermD) : Int := if (someT ts).length < ts.length then 2 else 1
def joinCs (c : Int) (l : List TermD) : Int := l.foldl (fun a t => max a t.c) c
def joinVs (l : List TermD) : List Int := l.flatMap (·.vars)
def joinT (ts : List TermD) : TermD := if someT ts = [] then ⟨true, 0, []⟩ else cleanT (joinCs (joinC0 ts) (someT ts)) (joinVs (someT ts))
def zeroT : TermD := ⟨false, 0, []⟩
def sumT (ts : List TermD) : TermD :=
  match someT ts with
  | [] => ⟨true, 0, []⟩
  | [t] => cleanT t.c t.vars
  | _ => ⟨false, 3, []⟩
def sameB (a b : TermD) : Bool := a.never == b.never && a.c == b.c && a.vars == b.vars
theorem sameB_iff (a b : TermD) : sameB a b = true ↔ a = b := by
  cases a; cases b
  simp [sameB, and_assoc]
def isB (c v : Int) : Bool := c == 0 && decide (0 ≤ v) && decide (v < 1048576) || oneB c && v == 0
def isE (c v : Int) : Int := if isB c v then 0 else 2
theorem isE_yes {c v : Int} (h : isB c v = true) : isE c v = 0 := by simp [isE, h]
theorem isE_no {c v : Int} (h : isB c v = false) : isE c v = 2 := by simp [isE, h]
def ofT (u : Int) : TermD := if u = 0 then ⟨true, 0, []⟩ else ⟨false, leastI u, []⟩
def leastT (t : TermD) : TermD := if t.never then ⟨false, 2, []⟩ else t
def atV (asg : List Int) (v : Int) : Int := asg.getD v.toNat 0
def okV (asg : List Int) (v : Int) : Bool := decide (v < asg.length) && oneB (atV asg v)
def atGo (asg : List Int) : Int → List Int → Int × Int
  | u, [] => (u, 0)
  | u, v :: r => if okV asg v then atGo asg (scaleI (atV asg v) u) r else (0, 5)
def atR (t : TermD) (asg : List Int) : Int × Int := if mayB t then atGo asg t.c t.vars else (0, 2)
def scaleT (c v : Int) (t : TermD) : TermD := if t.never then t else if c = 0 then cleanT t.c (t.vars ++ [v]) else cleanT (max c t.c) t.vars

/-- the call returns the term t -/
def RetT (t : TermD) (w : World) (e : Ending) (w' : World) : Prop :=
  ∃ A n c, e = .returned (.agg #[.bool t.never, .int .u8 t.c, .slice A n c]) ∧ RdI .i64 w' w'.heap.size A n c t.vars ∧ Below w.heap.size w w'
/-- the call returns the term t and the error x -/
def RetTE (t : TermD) (x : Int) (w : World) (e : Ending) (w' : World) : Prop :=
  ∃ A n c, e = .returned (.tuple #[.agg #[.bool t.never, .int .u8 t.c, .slice A n c], .int .i64 x]) ∧ RdI .i64 w' w'.heap.size A n c t.vars ∧ Below w.heap.size w w'

end Go.Proofs.Ythabkpkgocafoaa
