import Derived.Test.YtdmakpmbknindaaGreatDoorM26
import Derived.Test.YtdmakpmbknindaaGreatDoorP0
import Derived.Test.YtdmakpmbknindaaGreatDoorP4
set_option linter.unusedVariables false
set_option linter.unusedSimpArgs false
namespace Go.Proofs.YtdmakpmbknindaaGreatDoor
open Go.RowKit
section
variable {w w':World} {g:Nat} {t:TyD} {A:Option Addr} {m cp n c:Nat} {l:List Int}
theorem BT.five (h:BT w g t A m cp):w.cell? ⟨g,0,none⟩=some (.int .u8 t.k)∧w.cell? ⟨g,1,none⟩=some (.int .i64 t.n)∧w.cell? ⟨g,2,none⟩=some (.int .i64 t.v)∧w.cell? ⟨g,3,none⟩=some (.int .u8 t.c)∧w.cell? ⟨g,4,none⟩=some (.slice A m cp):=
 ⟨h.1.cell 0,h.1.cell 1,h.1.cell 2,h.1.cell 3,h.1.cell 4⟩
end
theorem put_u {t u:TyD} {types:List TyD} {ms:List (Int × Int)} {x:Int} (ht:putT t types ms=u) (hx:putE t types ms=x) (A:Option Addr) (m cp:Nat) (A1:Option Addr) (n1 c1:Nat) (A2:Option Addr) (n2 c2:Nat) (w:World) (hl:TysV w w.heap.size A m cp t.l) (hts:TysV w w.heap.size A1 n1 c1 types) (hms:MusV w w.heap.size A2 n2 c2 ms) (hn:n1≤1099511627776):
 Calls Tryz.prog 20 #[.agg #[.int .u8 t.k,.int .i64 t.n,.int .i64 t.v,.int .u8 t.c,.slice A m cp],.slice A1 n1 c1,.slice A2 n2 c2] w fun e w'=>∃ A m cp,e=.returned (.tuple #[.agg #[.int .u8 u.k,.int .i64 u.n,.int .i64 u.v,.int .u8 u.c,.slice A m cp],.int .i64 x])∧TysV w' w'.heap.size A m cp u.l∧Below w.heap.size w w':=by
 subst ht; subst hx
 refine(tyPut_any t A m cp A1 n1 c1 types A2 n2 c2 ms w hl hts hms hn).mono ?_;rintro e w' ⟨A',m',cp',rfl,h1,h2⟩;exact⟨A',m',cp',rfl,h1.lt fun b hb=>hb.2,h2⟩
theorem MusV.fresh {w w':World} {A:Option Addr} {n c:Nat} {ms:List (Int × Int)} (h:MusV w w.heap.size A n c ms) (hb:Below w.heap.size w w'):MusV w' w'.heap.size A n c ms:=(h.below hb).more hb.size
end Go.Proofs.YtdmakpmbknindaaGreatDoor
