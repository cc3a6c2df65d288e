import Derived.Test.YtgpeijkjmkocgaaDoorM9
import Derived.Test.YtgpeijkjmkocgaaDoorTie
import Derived.Test.YtgpeijkjmkocgaaDoorCards
import Derived.LaidMore
import Derived.Stop.Joined
import Derived.Stop.LaidErr
import Derived.SevenTiedAt
set_option linter.unusedVariables false
set_option linter.unusedSimpArgs false
set_option maxRecDepth 100000
namespace Go.Proofs.YtgpeijkjmkocgaaDoor
open Go.ChangeShapes Go.WideShapes Go.ChangeAt Go.RowKit
def laid3:List (String × DataW Unit):=[("math/bits.deBruijn32tab",Rows.laid_math_bits_deBruijn32tab),("math/bits.deBruijn64tab",Rows.laid_math_bits_deBruijn64tab),("internal/strconv.uint64pow10",Rows.laid_internal_strconv_uint64pow10)]
theorem door_met (os:Os) (args:Array Value):laidMetH Tryd.prog laid3 ((World.doorLaid Tryd.prog 400 os).forCall (fun _ _=>0) ⟨#[],args,[]⟩).memory:=
 laidMetH_of_parts3 (fuel:=8) (laidMet_of_run' 8 (by kernel_rfl) (by kernel_rfl)) (by kernel_rfl) (by kernel_rfl)
theorem tab_of_laid {W:World} (h:laidMetH Tryd.prog laid3 W):Tab W:=by
 rw[MakeChecks.laidMetH_plain _ _ _ (by kernel_rfl)] at h;have h2:laidMet Tryd.prog (("internal/strconv.uint64pow10",Lib.tabData .u64 Lib.pow10Tab) :: []) W:=(laidMet.tail (laidMet.tail h));exact Lib.tabIs_of_head (g:=0) (t:=188) (e:=181) (n:=20) (by kernel_rfl) (by kernel_rfl) Tryd.underlying188 Tryd.underlying181 (by kernel_rfl) (by kernel_rfl) h2
end Go.Proofs.YtgpeijkjmkocgaaDoor
namespace Go.Proofs.YtgpeijkjmkocgaaDoor
open Go.ChangeShapes Go.WideShapes Go.ChangeAt Go.RowKit Go.Deep Go.Joins
section
variable {H:Type} {enc:TypeId × Value→H} {w:World} {P:Program}
theorem addr_addH (b o j:Nat):(Addr.add ⟨b,o,none⟩ j)=⟨b,o+j,none⟩:=by unfold Addr.add; split <;> simp_all
theorem bulk_pos (d:DataW H):1≤Rows.uptoBulk d:=by
 cases d with
 | lit l=>cases l <;> simp[Rows.uptoBulk]
 | nil=>simp[Rows.uptoBulk]
 | ptr d=>simp[Rows.uptoBulk]
 | slice elems spare=>simp[Rows.uptoBulk]
 | agg parts=>simp[Rows.uptoBulk]
 | iface t d=>simp[Rows.uptoBulk]
 | map entries=>simp[Rows.uptoBulk]
 | held h=>simp[Rows.uptoBulk]
theorem bulk_part {d:DataW H} {l:List (DataW H)} (h:d∈l):Rows.uptoBulk d≤Rows.uptoBulkAll l:=by
 induction l with
 | nil=>cases h
 | cons x r ih=>
   simp only[Rows.uptoBulkAll]
   rcases qk.1 h with e | e
   · subst e; omega
   · have:=ih e; omega
theorem rows_q {X:Type} [Inhabited X] {t e:TypeId} (k:Nat) (El:List Value→DataW H→X→Prop) (ht:P.underlying t=some (.slice e)) (hk:P.cellsOf e=k) (hk0:0<k)
  {fuel:Nat} {cs:List Value} {x:DataW H × List MemPlace} (h:DataW.trod enc P w 0 (fun _=>true) true fuel t cs=some x)
  (hel:∀ (n:Nat) (cs':List Value) (D:DataW H) (Pl:List MemPlace),cs'.length=k→DataW.trod enc P w 0 (fun _=>true) true n e cs'=some (D,Pl)→Rows.uptoBulk D<Rows.uptoBulk x.1→∃ y,El cs' D y):
  ∃ (A:Option Addr) (n c:Nat) (xs:List X) (Ds:List (DataW H)),cs=[.slice A n c]∧xs.length=n∧Ds.length=n∧n≤c∧c≤maxLen∧Rows.uptoBulkAll Ds+1≤Rows.uptoBulk x.1 ∧
   (0<n→∃ b off,A=some ⟨b,off,none⟩∧b<w.heap.size∧∀ i (h1:i<xs.length) (h2:i<Ds.length),∃ cs':List Value,cs'.length=k∧(∀ j (hj:j<cs'.length),w.cell? ⟨b,off+i * k+j,none⟩=some cs'[j])∧El cs' Ds[i] xs[i]):=by
 rcases open_slice ht h with ⟨hcs,hx⟩ | ⟨a,l,c',m,n',D,Pl,hcs,hb,hln,hm,hmm,hx,hi⟩
 · exact⟨none,0,0,[],[],hcs,rfl,rfl,Nat.le_refl _,Nat.zero_le _,by rw[hx]; simp[Rows.uptoBulk,Rows.uptoBulkAll],fun h=>absurd h (by omega)⟩
 · simp only[if_true] at hmm
   subst hmm;subst hx
   have hbk:Rows.uptoBulkAll ((List.range l).map D)+1≤Rows.uptoBulk (DataW.slice ((List.range l).map D) ((List.range (m - l)).map fun j=>D (l+j))):=by
    simp only[Rows.uptoBulk];omega
   have hall:∀ i,i<l→∃ x:X,∃ b off,a=⟨b,off,none⟩∧b<w.heap.size∧∃ cs':List Value,cs'.length=k∧(∀ j (hj:j<cs'.length),w.cell? ⟨b,off+i * k+j,none⟩=some cs'[j])∧El cs' (D i) x:=by
    intro i hin;obtain⟨cs',hc,ht'⟩:=hi i (by omega);rw[hk] at hc;obtain⟨_,hcl,hat⟩:=World.cells?_some hc
    obtain⟨x,hx⟩:=hel _ _ _ _ hcl ht' (by
     have:=bulk_part (List.mem_map.2 ⟨i,List.mem_range.2 hin,rfl⟩:D i∈(List.range l).map D);show Rows.uptoBulk (D i)<Rows.uptoBulk (DataW.slice ((List.range l).map D) ((List.range (m - l)).map fun j=>D (l+j)))
     omega)
    obtain⟨b,off,sp⟩:=a
    have hs:sp=none:=by
     obtain⟨cs0,hc0,_⟩:=hi 0 (by omega);rw[hk] at hc0;have d0:=(World.cells?_some hc0).2.2 0 (by omega);simp only[Nat.zero_mul,Nat.add_zero,Addr.add,if_true] at d0
     rw[qj (by rw[(World.cells?_some hc0).2.1]; exact hk0)] at d0
     exact spot_none d0
    subst hs;simp only[Go.Deep.add_add] at hat;have h0:=hat 0 (by omega);rw[addr_addH,qj (by omega)] at h0;refine⟨x,b,off,rfl,World.block_lt_of_cell? _ _ h0,cs',hcl,fun j hj=>?_,hx⟩;have hj':=hat j (by omega);rw[addr_addH,qj hj] at hj';rw[Nat.add_assoc];exact hj'
   obtain⟨f,hf⟩:=choose_lt hall
   refine⟨some a,l,m,(List.range l).map f,(List.range l).map D,hcs,by simp,by simp,hln,hm,hbk,fun hn=>?_⟩
   obtain⟨b,off,rfl,hb,_⟩:=hf 0 hn;refine⟨b,off,rfl,hb,fun i h1 h2=>?_⟩;rw[List.length_map,List.length_range] at h1;obtain⟨b',off',e,_,h'⟩:=hf i h1
   injection e with e1 e2 _
   subst e1; subst e2
   simpa using h'
end
end Go.Proofs.YtgpeijkjmkocgaaDoor
namespace Go.Proofs.YtgpeijkjmkocgaaDoor
open Go.RowKit
def OutAt (w:World) (g base:Nat) (R:Nat→Prop) (k n v c:Int) (l:List TyD) (A5:Option Addr) (c5:Nat):Prop:=
 Blk w g 63 #[.int .u8 k,.int .i64 n,.int .i64 v,.int .u8 c,.slice A5 l.length c5]∧OwnC w base 63 5 R (.slice A5 l.length c5) l.length (l.flatMap encT)∧R g∧g<base
theorem OutAt.below {w w':World} {g base:Nat} {R:Nat→Prop} {k n v c:Int} {l:List TyD} {A5:Option Addr} {c5:Nat} (h:OutAt w g base R k n v c l A5 c5) (hb:Below w.heap.size w w'):OutAt w' g base R k n v c l A5 c5:=
 ⟨h.1.below hb h.1.lt,h.2.1.beyond hb,h.2.2⟩
theorem OutAt.push {w w':World} {g base:Nat} {R:Nat→Prop} {k n v c:Int} {l:List TyD} {A5 A6:Option Addr} {c5 c6:Nat} (h:OutAt w g base R k n v c l A5 c5) (u:TyD) (ho:OwnC w' base 63 5 R (.slice A6 (l.length+1) c6) (l.length+1) (l.flatMap encT++encT u)) (hg:w.grownBy w' (Value.slice A5 l.length c5).ownBlock):
  OutAt (w'.setCell ⟨g,4,none⟩ (.slice A6 (l.length+1) c6)) g base R k n v c (l++[u]) A6 c6:=by
 have hgb:some g≠(Value.slice A5 l.length c5).ownBlock:=fun e=>by have:=(h.2.1.lt _ e.symm).1; have:=h.2.2.2; omega
 have hk:=h.1.grown hg hgb
 have e1:(l++[u]).length=l.length+1:=by simp
 have e2:(l++[u]).flatMap encT=l.flatMap encT++encT u:=by simp
 refine⟨?_,?_,h.2.2⟩
 · rw[e1]; exact hk.set_ 4 _
 · rw[e1,e2]; exact ho.set (by exact h.2.2.2) (by exact h.2.2.1) _
theorem OutAt.done {w:World} {g base K s:Nat} {k n v c:Int} {l:List TyD} {A5:Option Addr} {c5:Nat} (h:OutAt w g base (fun b=>K≤b∧b<base) k n v c l A5 c5) (hs:s≤base) (hK:K≤s):TysS w (fun b=>b<K∨(s≤b∧b<w.heap.size)) A5 l.length c5 l:=by
 have h2:=(h.2.1.cel (R':=fun b=>K≤b∧b<base) (fun _ h=>h) (fun b hb h=>by omega)).mono (S':=fun b=>b<K∨(s≤b∧b<w.heap.size)) fun b hb=>by
  have:=hb.2
  by_cases h:K≤b
  · exact .inr ⟨by have:¬ b<base:=fun h3=>this ⟨h,h3⟩; omega,hb.1⟩
  · exact .inl (by omega)
 obtain⟨A',m',c',e,h3⟩:=(sl_iff encT_len (by omega)).1 h2
 injection e with e1 e2 e3
 subst e1; subst e2; subst e3
 exact tysS_sl.2 h3
end Go.Proofs.YtgpeijkjmkocgaaDoor
