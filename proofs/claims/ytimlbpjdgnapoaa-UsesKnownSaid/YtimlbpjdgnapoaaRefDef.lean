/- What the reference computes of terms, as plain functions of lists and integers. -/
import Derived.Test.YtimlbpjdgnapoaaTermDef
import Derived.Test.YtimlbpjdgnapoaaRefO
namespace Go.Proofs.Ytimlbpjdgnapoaa
set_option linter.unusedVariables false
set_option linter.unusedSimpArgs false
open Go.RowKit

def insL (out : List Int) (x : Int) : List Int := if out.contains x then out else out ++ [x]
def bothGo : List Int → List Int → List Int → List Int
  | [], [], out => out
  | x :: a, [], out => bothGo a [] (insL out x)
  | [], y :: b, out => bothGo [] b (insL out y)
  | x :: a, y :: b, out => if x ≤ y then bothGo a (y :: b) (insL out x) else bothGo (x :: a) b (insL out y)
termination_by a b _ => a.length + b.length
def greatT (a b : TermD) : TermD :=
  if max a.c b.c = 3 then ⟨false, 3, []⟩ else ⟨false, max a.c b.c, bothGo a.vars b.vars []⟩
def rJoin (a b : TermD) : TermD :=
  if a.never && b.never then a else if a.never then greatT ⟨false, 2, []⟩ b else if b.never then greatT ⟨false, 2, []⟩ a else greatT a b
def rSum (a b : TermD) : TermD := if a.never then b else if b.never then a else ⟨false, 3, []⟩
def rScale (c v : Int) (t : TermD) : TermD := if t.never then t else if c ≠ 0 then greatT ⟨false, c, []⟩ t else greatT ⟨false, 1, [v]⟩ t
def rAtGo (asg : List Int) : Int → List Int → Int × Int
  | top, [] => (ofI top, 0)
  | top, v :: r => if okV asg v then rAtGo asg (max top (atV asg v)) r else (0, 5)
def rAt (t : TermD) (asg : List Int) : Int × Int := if t.never then (0, 0) else rAtGo asg t.c t.vars

end Go.Proofs.Ytimlbpjdgnapoaa
