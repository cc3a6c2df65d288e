import Derived.Test.YtgpeijkjmkocgaaDoorM8
import Derived.Test.YtgpeijkjmkocgaaDoorTie
import Derived.Test.YtgpeijkjmkocgaaDoorCards
import Derived.LaidMore
import Derived.Stop.Joined
import Derived.Stop.LaidErr
import Derived.SevenTiedAt
set_option linter.unusedVariables false
set_option linter.unusedSimpArgs false
set_option maxRecDepth 100000
namespace Go.Proofs.YtgpeijkjmkocgaaDoor
open Go.ChangeShapes Go.WideShapes Go.ChangeAt Go.RowKit
def laid3:List (String × DataW Unit):=[("math/bits.deBruijn32tab",Rows.laid_math_bits_deBruijn32tab),("math/bits.deBruijn64tab",Rows.laid_math_bits_deBruijn64tab),("internal/strconv.uint64pow10",Rows.laid_internal_strconv_uint64pow10)]
theorem door_met (os:Os) (args:Array Value):laidMetH Tryd.prog laid3 ((World.doorLaid Tryd.prog 400 os).forCall (fun _ _=>0) ⟨#[],args,[]⟩).memory:=
 laidMetH_of_parts3 (fuel:=8) (laidMet_of_run' 8 (by kernel_rfl) (by kernel_rfl)) (by kernel_rfl) (by kernel_rfl)
theorem tab_of_laid {W:World} (h:laidMetH Tryd.prog laid3 W):Tab W:=by
 rw[MakeChecks.laidMetH_plain _ _ _ (by kernel_rfl)] at h;have h2:laidMet Tryd.prog (("internal/strconv.uint64pow10",Lib.tabData .u64 Lib.pow10Tab) :: []) W:=(laidMet.tail (laidMet.tail h));exact Lib.tabIs_of_head (g:=0) (t:=188) (e:=181) (n:=20) (by kernel_rfl) (by kernel_rfl) Tryd.underlying188 Tryd.underlying181 (by kernel_rfl) (by kernel_rfl) h2
end Go.Proofs.YtgpeijkjmkocgaaDoor
namespace Go.Proofs.YtgpeijkjmkocgaaDoor
open Go.RowKit
def OutAt (w:World) (g base:Nat) (R:Nat→Prop) (k n v c:Int) (l:List TyD) (A5:Option Addr) (c5:Nat):Prop:=
 Blk w g 63 #[.int .u8 k,.int .i64 n,.int .i64 v,.int .u8 c,.slice A5 l.length c5]∧OwnC w base 63 5 R (.slice A5 l.length c5) l.length (l.flatMap encT)∧R g∧g<base
theorem OutAt.below {w w':World} {g base:Nat} {R:Nat→Prop} {k n v c:Int} {l:List TyD} {A5:Option Addr} {c5:Nat} (h:OutAt w g base R k n v c l A5 c5) (hb:Below w.heap.size w w'):OutAt w' g base R k n v c l A5 c5:=
 ⟨h.1.below hb h.1.lt,h.2.1.beyond hb,h.2.2⟩
theorem OutAt.push {w w':World} {g base:Nat} {R:Nat→Prop} {k n v c:Int} {l:List TyD} {A5 A6:Option Addr} {c5 c6:Nat} (h:OutAt w g base R k n v c l A5 c5) (u:TyD) (ho:OwnC w' base 63 5 R (.slice A6 (l.length+1) c6) (l.length+1) (l.flatMap encT++encT u)) (hg:w.grownBy w' (Value.slice A5 l.length c5).ownBlock):
  OutAt (w'.setCell ⟨g,4,none⟩ (.slice A6 (l.length+1) c6)) g base R k n v c (l++[u]) A6 c6:=by
 have hgb:some g≠(Value.slice A5 l.length c5).ownBlock:=fun e=>by have:=(h.2.1.lt _ e.symm).1; have:=h.2.2.2; omega
 have hk:=h.1.grown hg hgb
 have e1:(l++[u]).length=l.length+1:=by simp
 have e2:(l++[u]).flatMap encT=l.flatMap encT++encT u:=by simp
 refine⟨?_,?_,h.2.2⟩
 · rw[e1]; exact hk.set_ 4 _
 · rw[e1,e2]; exact ho.set (by exact h.2.2.2) (by exact h.2.2.1) _
theorem OutAt.done {w:World} {g base K s:Nat} {k n v c:Int} {l:List TyD} {A5:Option Addr} {c5:Nat} (h:OutAt w g base (fun b=>K≤b∧b<base) k n v c l A5 c5) (hs:s≤base) (hK:K≤s):TysS w (fun b=>b<K∨(s≤b∧b<w.heap.size)) A5 l.length c5 l:=by
 have h2:=(h.2.1.cel (R':=fun b=>K≤b∧b<base) (fun _ h=>h) (fun b hb h=>by omega)).mono (S':=fun b=>b<K∨(s≤b∧b<w.heap.size)) fun b hb=>by
  have:=hb.2
  by_cases h:K≤b
  · exact .inr ⟨by have:¬ b<base:=fun h3=>this ⟨h,h3⟩; omega,hb.1⟩
  · exact .inl (by omega)
 obtain⟨A',m',c',e,h3⟩:=(sl_iff encT_len (by omega)).1 h2
 injection e with e1 e2 e3
 subst e1; subst e2; subst e3
 exact tysS_sl.2 h3
end Go.Proofs.YtgpeijkjmkocgaaDoor
