import Derived.Test.YtdmakpmbknindaaGreatDoorM18
import Derived.Shelf.SlicesE.Clone
import Derived.Laws.IdiomCopy
set_option linter.unusedVariables false
set_option linter.unusedSimpArgs false
set_option maxHeartbeats 8000000
set_option maxRecDepth 100000
namespace Go.Proofs.YtdmakpmbknindaaGreatDoor
open Go.RowKit
theorem typeInfo:(Tryz.prog.info? 27).map (fun i=>(i.zero,i.size,i.bytes))=some (some (.agg #[.int .u8 0,.int .i64 0,.int .i64 0,.int .u8 0,.slice none 0 0]),5,56):=by kernel_rfl
def cloneRenT:Go.Shelf.Ren:=⟨fun | 41=>122 | n=>n,fun | 22=>25 | 23=>27 | 4=>4 | n=>n,fun | n=>n⟩
theorem cloneLaysT:Go.Proofs.SlLaysE0.n41 Tryz.prog cloneRenT := {
 mixed:=by kernel_rfl
 f41:=⟨Tryz.f122.name,by decide,Tryz.func122.trans (congrArg some (by kernel_rfl))⟩
 t4:=Tryz.underlying4
 a4:=Tryz.isAgg4
 z4:=Tryz.sizeOf4
 v4:=Tryz.zeroValue4
 t22:=Tryz.underlying25
 a22:=Tryz.isAgg25
 z22:=Tryz.sizeOf25
 v22:=Tryz.zeroValue25 }
def C5 (w:World) (S:Nat→Prop) (cs:List Value) (x:Nat) (t:TyD):Prop:=
 ∃ A n c,cs[x * 5]?=some (.int .u8 t.k)∧cs[x * 5+1]?=some (.int .i64 t.n)∧cs[x * 5+2]?=some (.int .i64 t.v)∧cs[x * 5+3]?=some (.int .u8 t.c)∧cs[x * 5+4]?=some (.slice A n c)∧TysS w S A n c t.l
theorem C5.keep {w w':World} {S S':Nat→Prop} {cs:List Value} {x:Nat} {t:TyD} (h:C5 w S cs x t) (hS:∀ b,S b→S' b) (hk:∀ p:Addr,S p.block→w'.cell? p=w.cell? p):C5 w' S' cs x t:=by
 obtain⟨A,n,c,e0,e1,e2,e3,e4,hr⟩:=h;exact⟨A,n,c,e0,e1,e2,e3,e4,hr.keep hS hk⟩
theorem C5.congr {w:World} {S:Nat→Prop} {cs cs':List Value} {x:Nat} {t:TyD} (h:C5 w S cs x t) (he:∀ k,x * 5≤k→k<x * 5+5→cs'[k]?=cs[k]?):C5 w S cs' x t:=by
 obtain⟨A,n,c,e0,e1,e2,e3,e4,hr⟩:=h
 exact⟨A,n,c,by rw[he _ (by omega) (by omega)]; exact e0,by rw[he _ (by omega) (by omega)]; exact e1,by rw[he _ (by omega) (by omega)]; exact e2,by rw[he _ (by omega) (by omega)]; exact e3,by rw[he _ (by omega) (by omega)]; exact e4,hr⟩
theorem C5.cells {w:World} {S:Nat→Prop} {base:Nat} {e:TypeId} {g n c:Nat} {cs:List Value} {x:Nat} {t:TyD} (h:C5 w S cs x t) (hown:w.ownsRow base e 5 (.slice (some ⟨g,0,none⟩) n c) n cs) (hx:x<n):TyIn w S t g (0+x * 5):=by
 obtain⟨A,m,d,e0,e1,e2,e3,e4,hr⟩:=h;rw[Nat.zero_add]
 exact tyIn_iff.2 ⟨by rw[hown.cellAt _ (by omega)]; exact e0,by rw[hown.cellAt _ (by omega)]; exact e1,by rw[hown.cellAt _ (by omega)]; exact e2,by rw[hown.cellAt _ (by omega)]; exact e3,A,m,d,by rw[hown.cellAt _ (by omega)]; exact e4,hr⟩
theorem TysV.cells {w:World} {B:Nat} {b off:Nat}:∀ (m:Nat) (ts:List TyD),m≤ts.length→(∀ i (h:i<ts.length),TyAt w B ts[i] b (off+i * 5)) →
 ∃ cs:List Value,cs.length=m * 5∧(∀ j u,cs[j]?=some u→w.cell? ⟨b,off+j,none⟩=some u)∧(∀ u∈cs,u.oneCell'=true)∧∀ i (h:i<ts.length),i<m→C5 w (fun b=>b<B) cs i ts[i]
 | 0,ts,_,_=>⟨[],rfl,fun j u h=>by simp at h,fun u h=>by simp at h,fun i _ h=>absurd h (by omega)⟩
 | m+1,ts,hm,hat=>by
   obtain⟨cs,hl,hc,h1,h3⟩:=TysV.cells m ts (by omega) hat;obtain⟨e0,e1,e2,e3,A,n,c,e4,hr⟩:=tyAt_iff.1 (hat m (by omega))
   refine⟨cs++[.int .u8 ts[m].k,.int .i64 ts[m].n,.int .i64 ts[m].v,.int .u8 ts[m].c,.slice A n c],by simp[hl]; omega,fun j u hu=>?_,fun u hu=>?_,fun i hi him=>?_⟩
   · rw[List.getElem?_append] at hu
     split at hu
     · exact hc j u hu
     · rename_i hj
       have hj3:j - cs.length<5:=by
        have:=(List.getElem?_eq_some_iff.1 hu).1
        simpa using this
       have:j=m * 5∨j=m * 5+1∨j=m * 5+2∨j=m * 5+3∨j=m * 5+4:=by omega
       rcases this with rfl | rfl | rfl | rfl | rfl
       · rw[hl,Nat.sub_self] at hu
         simp at hu
         rw[← hu]; exact e0
       · rw[hl,show m * 5+1 - m * 5=1 from by omega] at hu
         simp at hu
         rw[← hu,show off+(m * 5+1)=off+m * 5+1 from by omega]; exact e1
       · rw[hl,show m * 5+2 - m * 5=2 from by omega] at hu
         simp at hu
         rw[← hu,show off+(m * 5+2)=off+m * 5+2 from by omega]; exact e2
       · rw[hl,show m * 5+3 - m * 5=3 from by omega] at hu
         simp at hu
         rw[← hu,show off+(m * 5+3)=off+m * 5+3 from by omega]; exact e3
       · rw[hl,show m * 5+4 - m * 5=4 from by omega] at hu
         simp at hu
         rw[← hu,show off+(m * 5+4)=off+m * 5+4 from by omega]; exact e4
   · simp only[List.mem_append,qk,List.not_mem_nil,or_false] at hu
     rcases hu with hu | rfl | rfl | rfl | rfl | rfl
     · exact h1 u hu
     · rfl
     · rfl
     · rfl
     · rfl
     · rfl
   · rcases Nat.lt_or_ge i m with h | h
     · exact(h3 i hi h).congr fun k h4 h5=>List.getElem?_append_left (by omega)
     · have:i=m:=by omega
       subst this;refine⟨A,n,c,?_,?_,?_,?_,?_,hr.in_⟩
       · rw[List.getElem?_append_right (by omega),hl,Nat.sub_self]; rfl
       · rw[List.getElem?_append_right (by omega),hl,show i * 5+1 - i * 5=1 from by omega]; rfl
       · rw[List.getElem?_append_right (by omega),hl,show i * 5+2 - i * 5=2 from by omega]; rfl
       · rw[List.getElem?_append_right (by omega),hl,show i * 5+3 - i * 5=3 from by omega]; rfl
       · rw[List.getElem?_append_right (by omega),hl,show i * 5+4 - i * 5=4 from by omega]; rfl
def OwnTy (w:World) (base:Nat) (v:Value) (n:Nat) (ts:List TyD) (S:Nat→Nat→Prop):Prop:=
 ts.length=n∧∃ cs,w.ownsRow base 27 5 v n cs∧∀ i (h:i<ts.length),C5 w (S i) cs i ts[i]
def CloneTy (ts:List TyD) (n:Nat) (w:World) (e:Ending) (w':World):Prop:=
 ∃ v,e=.returned v∧OwnTy w' w.heap.size v n ts (fun _ b=>b<w.heap.size)∧(v=.slice none 0 0∨∃ g c,v=.slice (some ⟨g,0,none⟩) n c)∧Below w.heap.size w w'
theorem cloneTy_zero (a:Addr) (c:Nat) (w:World):
 Calls Tryz.prog 122 #[.slice (some a) 0 c] w (CloneTy [] 0 w):=by
 obtain⟨i0,hi0,hz0,hz1,hz2⟩:=info_parts typeInfo;have hq:=fun w a n c n' c'=>Lib.run_eql_slice_nil (P:=Tryz.prog) w 25 27 a n c n' c' Tryz.underlying25
 go_enter Tryz.func122,Tryz.ntmps122
 go_wp2_with (at_builtin; refine wpList_append_own _ rfl _ _ 25 rfl w.heap.size 27 i0 _ 5 56 Tryz.underlying25 hi0 hz0 hz1 hz2 rfl (by omega) _ 0 [] rfl (World.ownsRow_lit w #[] 0 (Nat.le_refl _) (Nat.zero_le _) rfl) a 0 c [] rfl rfl (fun j u h=>by simp at h) (fun u h=>by simp at h) (Nat.zero_le _) (by omega) (by simp) ?_; intro v1 w1 hown1 hg1 hnil)
 go_ret
 refine⟨v1,rfl,⟨rfl,[],hown1,fun i h=>absurd h (by simp)⟩,?_,((Below.refl _ _).alloc (Nat.le_refl _) _).grown hg1 (by simp) (fun k hk=>by have hk':some w.heap.size=some k:=hk; injection hk' with h; omega)⟩
 rcases hown1.2 with ⟨e0,_⟩ | ⟨g,cap,cur,rfl,_⟩
 · exact .inl e0
 · exact .inr ⟨g,cap,rfl⟩
theorem cloneTy_any (A:Option Addr) (n c:Nat) (ts:List TyD) (w:World) (hr:TysV w w.heap.size A n c ts) (hbig:n * 56≤140737488355328):
 Calls Tryz.prog 122 #[.slice A n c] w (CloneTy ts n w):=by
 have hat:=hr.at_;obtain⟨hlen,hnc,hcm,hat0⟩:=hr
 rcases A with _ | ⟨b,off,sp⟩
 · have hn:n=0:=by
    rcases Nat.eq_zero_or_pos n with h | h
    · exact h
    · obtain⟨_,_,e,_⟩:=hat h
      cases e
   subst hn;have hts:ts=[]:=List.eq_nil_of_length_eq_zero hlen;subst hts;refine(AnyE.slices_Clone_nil cloneLaysT 0 c w).mono ?_;rintro e w1 ⟨rfl,rfl⟩;exact⟨_,rfl,⟨rfl,[],World.ownsRow_nil _ _ _ _,fun i h=>absurd h (by simp)⟩,.inl rfl,Below.refl _ _⟩
 · obtain⟨i0,hi0,hz0,hz1,hz2⟩:=info_parts typeInfo
   rcases Nat.eq_zero_or_pos n with h0 | h0
   · subst h0
     have hts:ts=[]:=List.eq_nil_of_length_eq_zero hlen;subst hts;exact cloneTy_zero _ c w
   · obtain⟨b',off',e,hb,hcell⟩:=hat h0
     injection e with e
     injection e with e1 e2 e3
     subst e1; subst e2; subst e3
     obtain⟨cs,hl,hc,h1,h3⟩:=TysV.cells n ts (by omega) hcell;refine(AnyE.slices_Clone cloneLaysT i0 _ 5 56 hi0 hz0 hz1 hz2 rfl (by omega) Tryz.sizeOf27 b off n c cs w hl (Nat.le_trans hnc hcm) hbig hc h1).mono ?_;rintro e w1 ⟨v',rfl,hown,hne,hb1⟩;refine⟨v',rfl,⟨hlen,cs,hown,fun i hi=>(h3 i hi (by omega)).keep (fun _ h=>h) fun q hq=>hb1.cell hq⟩,.inr ?_,hb1⟩
     rcases hown.2 with ⟨e0,_⟩ | ⟨g,cap,cur,rfl,_⟩
     · exact absurd e0 hne
     · exact⟨g,cap,rfl⟩
theorem isN_len {t:TyD} (h:isN t=true):t.l.length≤4:=by
 unfold isN at h;simp only[Bool.and_eq_true,decide_eq_true_eq] at h;have:=h.1.2;omega
theorem mayT_len {t:TyD} (h:mayT t=true):t.l.length≤4:=by
 rw[mayT_eq,Bool.and_eq_true] at h;exact isN_len h.1
theorem mayT_kid {t:TyD} (h:mayT t=true) {i:Nat} (hi:i<t.l.length):mayT t.l[i]=true:=by
 rw[mayT_eq,Bool.and_eq_true] at h;exact List.all_eq_true.1 h.2 _ (List.getElem_mem hi)
theorem ownTy_setCells {base:Nat} {e:TypeId} {size g n c:Nat}:∀ (vs:List Value) (cs:List Value) (o:Nat) (w:World),w.ownsRow base e size (.slice (some ⟨g,0,none⟩) n c) n cs→o+vs.length≤cs.length →
 (∃ cs',(w.setCells g o vs).ownsRow base e size (.slice (some ⟨g,0,none⟩) n c) n cs'∧(∀ k,o≤k→k<o+vs.length→cs'[k]?=vs[k - o]?)∧(∀ k,k<o∨o+vs.length≤k→cs'[k]?=cs[k]?))∧w.grownBy (w.setCells g o vs) (some g)
 | [],cs,o,w,h,_=>⟨⟨cs,h,fun k h1 h2=>by simp at h2; omega,fun _ _=>rfl⟩,World.grownBy.refl w _⟩
 | v :: vs,cs,o,w,h,hl=>by
   obtain⟨h1,h2⟩:=h.stored o v;simp only[List.length_cons] at hl
   obtain⟨⟨cs',h3,h4,h6⟩,h5⟩:=ownTy_setCells vs (cs.set o v) (o+1) _ h1 (by rw[List.length_set]; omega)
   refine⟨⟨cs',h3,fun k hk1 hk2=>?_,fun k hk=>?_⟩,?_⟩
   · simp only[List.length_cons] at hk2
     rcases Nat.eq_or_lt_of_le hk1 with rfl | hk
     · rw[h6 _ (.inl (by omega)),Nat.sub_self,List.getElem?_set_self (by omega)]; rfl
     · rw[h4 k (by omega) (by omega),show k - o=(k - (o+1))+1 from by omega]; rfl
   · simp only[List.length_cons] at hk
     rw[h6 k (by omega),List.getElem?_set_ne (by omega)]
   · exact⟨h5.os.trans h2.os,h5.tape.trans h2.tape,h5.output.trans h2.output,Nat.le_trans h2.size h5.size,fun k hk hne=>(h5.block k (Nat.lt_of_lt_of_le hk h2.size) hne).trans (h2.block k hk hne)⟩
def FreshT (t:TyD) (w:World) (e:Ending) (w':World):Prop:=
 ∃ A m cp,e=.returned (.agg #[.int .u8 t.k,.int .i64 t.n,.int .i64 t.v,.int .u8 t.c,.slice A m cp])∧TysS w' (fun b=>w.heap.size≤b∧b<w'.heap.size) A m cp t.l∧Below w.heap.size w w'
def grownN (sz:List Int):TyD→Int
 | .mk k n _ _ l=>if k=1∧n<sz.length then sz.getD n.toNat 0 else 1+grownL sz l
where grownL (sz:List Int):List TyD→Int
 | []=>0
 | t :: r=>grownN sz t+grownL sz r
def grownW (sz:List Int) (t:TyD):Int:=wrap64 (grownN sz t)
theorem mayT_n {t:TyD} (h:mayT t=true):0≤t.n:=by
 rw[mayT_eq,Bool.and_eq_true] at h;have:=h.1;unfold isN at this;simp only[Bool.and_eq_true,decide_eq_true_eq] at this;exact this.1.1.1.1.2
def TurnI (ts us:List TyD) (B base:Nat) (v:Value) (m:Nat) (k:Nat) (w:World):Prop:=
 ts.length=m∧us.length=m∧∃ cs,w.ownsRow base 27 5 v m cs∧∀ i (h:i<ts.length) (h2:i<us.length),C5 w (fun b=>if i<k then base≤b∧b<w.heap.size∧some b≠v.ownBlock else b<B) cs i (if i<k then us[i] else ts[i])
theorem TurnI.step {ts us:List TyD} {B base g m c k:Nat} {w w3:World} (h:TurnI ts us B base (.slice (some ⟨g,0,none⟩) m c) m k w) (hk:k<us.length) (u:TyD) (hu:us[k]=u) (hb:Below w.heap.size w w3) (hB:B≤base) (hbase:base≤w.heap.size)
 {A:Option Addr} {n d:Nat} (hx:TysS w3 (fun b=>w.heap.size≤b∧b<w3.heap.size) A n d u.l):
 TurnI ts us B base (.slice (some ⟨g,0,none⟩) m c) m (k+1) (w3.setCells g (k * 5) [.int .u8 u.k,.int .i64 u.n,.int .i64 u.v,.int .u8 u.c,.slice A n d]) ∧
  w3.grownBy (w3.setCells g (k * 5) [.int .u8 u.k,.int .i64 u.n,.int .i64 u.v,.int .u8 u.c,.slice A n d]) (some g)∧base≤g∧g<w.heap.size:=by
 obtain⟨hl,hl2,cs,hown,hc⟩:=h;have hg:=hown.lt g rfl;have hown3:=ownsRow_beyond hown hb;have hcl:cs.length=m * 5:=hown.1
 obtain⟨⟨cs',h1,h2,h3⟩,h4⟩:=ownTy_setCells [.int .u8 u.k,.int .i64 u.n,.int .i64 u.v,.int .u8 u.c,.slice A n d] cs (k * 5) w3 hown3 (by rw[hcl]; simp; omega)
 simp only[List.length_cons,List.length_nil] at h2 h3;have hs3:=hb.size;have hs4:=h4.size
 have hcell:∀ p:Addr,p.block≠g→p.block<w3.heap.size→(w3.setCells g (k * 5) [.int .u8 u.k,.int .i64 u.n,.int .i64 u.v,.int .u8 u.c,.slice A n d]).cell? p=w3.cell? p:=fun p hp hlt=>
  World.cell?_of_block (h4.block p.block hlt (by intro e; injection e with e; exact hp e))
 refine⟨⟨hl,hl2,cs',h1,fun i hi hi2=>?_⟩,h4,hg.1,hg.2⟩
 rcases Nat.lt_trichotomy i k with hik | hik | hik
 · have h5:=hc i hi hi2
   simp only[if_pos hik] at h5
   rw[if_pos (show i<k+1 by omega)]
   have h6:=(h5.congr fun x h7 h8=>h3 x (.inl (by omega)));refine h6.keep (fun b hb'=>?_) fun p hp=>?_
   · rw[if_pos (show i<k+1 by omega)]; exact⟨hb'.1,by omega,hb'.2.2⟩
   · rw[hcell p (fun e=>hp.2.2 (by rw[e]; rfl)) (by omega)]
     exact hb.cell hp.2.1
 · subst hik
   rw[if_pos (show i<i+1 by omega),hu]
   refine⟨A,n,d,?_,?_,?_,?_,?_,?_⟩
   · rw[h2 _ (by omega) (by omega),Nat.sub_self]; rfl
   · rw[h2 _ (by omega) (by omega),show i * 5+1 - i * 5=1 from by omega]; rfl
   · rw[h2 _ (by omega) (by omega),show i * 5+2 - i * 5=2 from by omega]; rfl
   · rw[h2 _ (by omega) (by omega),show i * 5+3 - i * 5=3 from by omega]; rfl
   · rw[h2 _ (by omega) (by omega),show i * 5+4 - i * 5=4 from by omega]; rfl
   · refine hx.keep (fun b hb'=>?_) fun p hp=>?_
     · rw[if_pos (show i<i+1 by omega)]
       refine⟨by omega,by omega,fun e=>?_⟩
       have e':b=g:=by injection e
       omega
     · exact hcell p (fun e=>by have:=hp.1; omega) hp.2
 · have h5:=hc i hi hi2
   simp only[if_neg (show ¬ i<k by omega)] at h5
   rw[if_neg (show ¬ i<k+1 by omega)]
   have h6:=(h5.congr fun x h7 h8=>h3 x (.inr (by omega)));refine h6.keep (fun b hb'=>?_) fun p hp=>?_
   · rw[if_neg (show ¬ i<k+1 by omega)]; exact hb'
   · rw[hcell p (fun e=>by omega) (by omega)]
     exact hb.cell (by omega)
theorem TurnI.done {ts us:List TyD} {B base m c:Nat} {A:Option Addr} {w:World} (h:TurnI ts us B base (.slice A m c) m m w):TysS w (fun b=>base≤b∧b<w.heap.size) A m c us:=by
 obtain⟨hl,hl2,cs,hown,hc⟩:=h
 rcases hown.2 with ⟨e0,hn⟩ | ⟨g,cap,cur,e0,hb,hg,hn,hm,hs,ht⟩
 · injection e0 with e1 e2 e3
   subst e1; subst e2; subst e3
   exact⟨hl2,Nat.le_refl _,Nat.zero_le _,fun h=>absurd h (by omega)⟩
 · injection e0 with e1 e2 e3
   subst e1; subst e3
   refine⟨hl2,hn,hm,fun _=>⟨g,0,rfl,⟨hb,(Array.getElem?_eq_some_iff.1 hg).1⟩,RowIn.of fun i hi=>?_⟩⟩;have h5:=hc i (by omega) hi
   simp only[if_pos (show i<m by omega)] at h5
   have h6:C5 w (fun b=>base≤b∧b<w.heap.size) cs i us[i]:=h5.keep (fun b hb=>⟨hb.1,hb.2.1⟩) fun _ _=>rfl;exact h6.cells hown (by omega)
theorem TurnI.slot {ts us:List TyD} {B base m c k:Nat} {A:Option Addr} {w:World} (h:TurnI ts us B base (.slice A m c) m k w) (hk:k<ts.length):∃ g,A=some ⟨g,0,none⟩∧base≤g∧g<w.heap.size ∧
 ∃ A' n' c',w.cell? ⟨g,k * 5,none⟩=some (.int .u8 ts[k].k)∧w.cell? ⟨g,k * 5+1,none⟩=some (.int .i64 ts[k].n)∧w.cell? ⟨g,k * 5+2,none⟩=some (.int .i64 ts[k].v)∧w.cell? ⟨g,k * 5+3,none⟩=some (.int .u8 ts[k].c)∧w.cell? ⟨g,k * 5+4,none⟩=some (.slice A' n' c') ∧
  TysV w B A' n' c' ts[k].l∧∀ j,w.frozen? ⟨g,j,none⟩=false:=by
 obtain⟨hl,hl2,cs,hown,hc⟩:=h
 rcases hown.2 with ⟨e0,hn⟩ | ⟨g,cap,cur,e0,hb,hg,hn,hm,hs,ht⟩
 · injection e0 with e1 e2 e3
   omega
 · injection e0 with e1 e2 e3
   subst e1; subst e3
   have h5:=hc k hk (by omega)
   simp only[if_neg (show ¬ k<k by omega)] at h5
   have h6:=h5.cells hown (by omega);rw[Nat.zero_add] at h6;obtain⟨q0,q1,q2,q3,A',n',c',q4,hr⟩:=tyIn_iff.1 h6;exact⟨g,rfl,hb,(Array.getElem?_eq_some_iff.1 hg).1,A',n',c',q0,q1,q2,q3,q4,tysS_lt.1 hr,fun j=>hown.frozenAt j⟩
theorem TurnI.start {ts us:List TyD} {m c:Nat} {A:Option Addr} {W w1:World} (h:OwnTy w1 W.heap.size (.slice A m c) m ts (fun _ b=>b<W.heap.size)) (hu:us.length=ts.length):TurnI ts us W.heap.size W.heap.size (.slice A m c) m 0 w1:=by
 obtain⟨h1,cs,h2,h3⟩:=h
 refine⟨h1,by omega,cs,h2,fun i hi _=>?_⟩
 rw[if_neg (show ¬ i<0 by omega)]
 exact(h3 i hi).keep (fun b hb=>by rw[if_neg (show ¬ i<0 by omega)]; exact hb) fun _ _=>rfl
def turnT (fv:Int→Option TyD) (fm:Int→Int × Int):TyD→TyD
 | .mk k n v c l=>if k=1 then (fv n).getD (.mk k n v c l) else .mk k n (if k=7∧c=0 then (fm v).1 else v) (if k=7∧c=0 then (fm v).2 else c) (turnL fv fm l)
where turnL (fv:Int→Option TyD) (fm:Int→Int × Int):List TyD→List TyD
 | []=>[]
 | t :: r=>turnT fv fm t :: turnL fv fm r
theorem turnL_map (fv:Int→Option TyD) (fm:Int→Int × Int) (l:List TyD):turnT.turnL fv fm l=l.map (turnT fv fm):=by
 induction l with
 | nil=>rfl
 | cons t r ih=>rw[turnT.turnL,ih]; rfl
theorem turnT_eq (fv:Int→Option TyD) (fm:Int→Int × Int) (t:TyD):turnT fv fm t=if t.k=1 then (fv t.n).getD t else .mk t.k t.n (if t.k=7∧t.c=0 then (fm t.v).1 else t.v) (if t.k=7∧t.c=0 then (fm t.v).2 else t.c) (t.l.map (turnT fv fm)):=by
 cases t
 rw[turnT,turnL_map];rfl
theorem mayT_v {t:TyD} (h:mayT t=true):0≤t.v:=by
 rw[mayT_eq,Bool.and_eq_true] at h;have:=h.1;unfold isN at this;simp only[Bool.and_eq_true,Bool.or_eq_true,decide_eq_true_eq] at this
 rcases this.2 with h1 | h1
 · omega
 · have h2:=h1.2
   unfold isB at h2;simp only[Bool.or_eq_true,Bool.and_eq_true,decide_eq_true_eq,beq_iff_eq] at h2
   rcases h2 with h2 | h2 <;> omega
theorem mayT_leaf {t:TyD} (h:mayT t=true) (hk:t.k=1):t.l=[]:=by
 rw[mayT_eq,Bool.and_eq_true] at h;have:=h.1;unfold isN at this;rw[hk] at this;simp only[Bool.and_eq_true,Bool.not_eq_true',Bool.and_eq_false_iff,Bool.not_eq_false',decide_eq_true_eq,decide_eq_false_iff_not] at this;have h1:=this.1.1.2
 have hk0:kidsI 1=0:=by decide
 rw[hk0] at h1
 exact List.length_eq_zero_iff.1 (by rcases h1 with h1 | h1 <;> omega)
def VPost (fv:Int→Option TyD) (n:Int) (w':World) (e:Ending) (w'':World):Prop:=
 ∃ (x:TyD) (A:Option Addr) (m c:Nat) (b:Bool),e=.returned (.tuple #[.agg #[.int .u8 x.k,.int .i64 x.n,.int .i64 x.v,.int .u8 x.c,.slice A m c],.bool b])∧TysS w'' (fun q=>w'.heap.size≤q∧q<w''.heap.size) A m c x.l∧fv n=(if b then some x else none)∧Below w'.heap.size w' w''
def TurnC (w:World) (A:Option Addr) (m cp:Nat) (t:TyD) (V C:Int) (wx:World):Prop:=
 Blk wx w.heap.size 27 #[.int .u8 t.k,.int .i64 t.n,.int .i64 V,.int .u8 C,.slice A m cp]∧Blk wx (w.heap.size+1) 27 #[.int .u8 0,.int .i64 0,.int .i64 0,.int .u8 0,.slice none 0 0]∧Below w.heap.size w wx∧TysV wx w.heap.size A m cp t.l
theorem turnG (fv:Int→Option TyD) (fm:Int→Int × Int) (F1 F2:FuncId) (cap1 cap2:Array Value) (hF1:∀ (a:Array Value) (w:World),Sem.run Tryz.prog (callFunc F1 a) w=.ok (.enter F1 a) w) (hF2:∀ (a:Array Value) (w:World),Sem.run Tryz.prog (callFunc F2 a) w=.ok (.enter F2 a) w) (N:Nat):∀ (t:TyD),nodes t≤N→mayT t=true→∀ (A:Option Addr) (m cp:Nat) (w:World),TysV w w.heap.size A m cp t.l →
 (∀ (n:Int) (w':World),0≤n→Below w.heap.size w w'→Calls Tryz.prog F1 (#[.int .i64 n]++cap1) w' (VPost fv n w')) →
 (∀ (n:Int) (w':World),0≤n→Below w.heap.size w w'→Calls Tryz.prog F2 (#[.int .i64 n]++cap2) w' fun e w''=>e=.returned (.agg #[.int .i64 (fm n).1,.int .u8 (fm n).2])∧Below w'.heap.size w' w'') →
 Calls Tryz.prog 64 #[.agg #[.int .u8 t.k,.int .i64 t.n,.int .i64 t.v,.int .u8 t.c,.slice A m cp],.func (.func F1) #[] cap1,.func (.func F2) #[] cap2] w (FreshT (turnT fv fm t) w):=by
 induction N with
 | zero=>intro t hN; exact absurd hN (by rw[nodes_eq t]; omega)
 | succ N ih=>
   intro t hN hm A m cp w hl hv hmu;have Ih:=qq ih;clear ih;have hlen:=hl.len
   have m4:m≤4:=by rw[← hlen]; exact mayT_len hm
   have hbx:Below w.heap.size w ((w.alloc (Obj.cells #[.int .u8 t.k,.int .i64 t.n,.int .i64 t.v,.int .u8 t.c,.slice A m cp] 27)).alloc (Obj.cells #[.int .u8 0,.int .i64 0,.int .i64 0,.int .u8 0,.slice none 0 0] 27)):=((Below.refl _ _).alloc (Nat.le_refl _) _).alloc (by simp) _;have hz:=(blk_new w #[.int .u8 t.k,.int .i64 t.n,.int .i64 t.v,.int .u8 t.c,.slice A m cp] 27).alloc (Obj.cells #[.int .u8 0,.int .i64 0,.int .i64 0,.int .u8 0,.slice none 0 0] 27);have hy:=blk_new (w.alloc (Obj.cells #[.int .u8 t.k,.int .i64 t.n,.int .i64 t.v,.int .u8 t.c,.slice A m cp] 27)) #[.int .u8 0,.int .i64 0,.int .i64 0,.int .u8 0,.slice none 0 0] 27;rw[World.size_alloc] at hy;obtain⟨W,hW⟩:∃ W,(w.alloc (Obj.cells #[.int .u8 t.k,.int .i64 t.n,.int .i64 t.v,.int .u8 t.c,.slice A m cp] 27)).alloc (Obj.cells #[.int .u8 0,.int .i64 0,.int .i64 0,.int .u8 0,.slice none 0 0] 27)=W:=⟨_,rfl⟩;rw[hW] at hbx hz hy;have HL:=qq ((hl.below hbx).more hbx.size);have HL0:=qq (hl.below hbx);have HW:=qq hW;have Hbx:=qq hbx;have Hz:=qq hz;have Hy:=qq hy;have HM:=qq hm;have HV:=qq hv;have HMu:=qq hmu
   have HN:Hid (∀ i (h:i<t.l.length),nodes t.l[i]≤N):=qq fun i h=>by have:=nodes_get h; omega
   have z0:=hz.cell 0;have z1:=hz.cell 1;have z2:=hz.cell 2;have z3:=hz.cell 3;have z4:=hz.cell 4;have hU:=turnT_eq fv fm t;have HU0:=qq hU;clear hl hbx hz hy hW hN hm hv hmu hU
   by_cases hk:t.k=1
   · have e70:=trivial
     clear e70
     have d1:(t.k==1)=true:=by simp[hk]
     have hn0:=mayT_n HM.out;have hleaf:=mayT_leaf HM.out hk;have hq:=HV.out t.n W hn0 Hbx.out;have Hq:=qq hq;have HU1:Hid (turnT fv fm t=(fv t.n).getD t):=qq (by rw[HU0.out,if_pos hk]);have Hleaf:=qq hleaf;clear hk hq hleaf HU0
     go_enter Tryz.func64,Tryz.ntmps64
     go_wp2_with fail;rw[HW.out]
     refine Hq.out.mono ?_; rintro e w3 ⟨x,A3,m3,c3,b,rfl,hx3,hfv,hb3⟩
     obtain⟨g2,hg2⟩:∃ g2,w.heap.size+1=g2:=⟨_,rfl⟩
     have hg2w:w.heap.size≤g2:=by omega
     have hWs:w.heap.size+1<W.heap.size:=Hy.out.lt;have hb0:Below w.heap.size w w3:=Hbx.out.trans (hb3.mono Hbx.out.size)
     cases b with
     | true=>
       have HU:Hid (turnT fv fm t=x):=qq (by rw[HU1.out,hfv]; rfl)
       have hbB:=below_box (w:=w3) (Obj.cells #[.int .u8 x.k,.int .i64 x.n,.int .i64 x.v,.int .u8 x.c,.slice A3 m3 c3] 27);have hx4:=blk_new w3 #[.int .u8 x.k,.int .i64 x.n,.int .i64 x.v,.int .u8 x.c,.slice A3 m3 c3] 27;have hy4:=(Hy.out.below hb3 Hy.out.lt).below hbB (Hy.out.below hb3 Hy.out.lt).lt;have hb4:=hb0.trans (hbB.mono hb0.size)
       have hT4:TysS (w3.alloc (Obj.cells #[.int .u8 x.k,.int .i64 x.n,.int .i64 x.v,.int .u8 x.c,.slice A3 m3 c3] 27)) (fun q=>w.heap.size≤q∧q<(w3.alloc (Obj.cells #[.int .u8 x.k,.int .i64 x.n,.int .i64 x.v,.int .u8 x.c,.slice A3 m3 c3] 27)).heap.size∧q≠g2) A3 m3 c3 x.l:=
        hx3.keep (fun q hq=>⟨by omega,by have:=hbB.size; omega,by omega⟩) fun p hp=>hbB.cell hp.2
       rw[hg2] at hy4 ⊢;have s0:=hy4.frozen 0;have s1:=hy4.frozen 1;have s2:=hy4.frozen 2;have s3:=hy4.frozen 3;have s4:=hy4.frozen 4;have r0:=hy4.cell 0;have r1:=hy4.cell 1;have r2:=hy4.cell 2;have r3:=hy4.cell 3;have r4:=hy4.cell 4;have Hy4:=qq hy4;have Hb4:=qq hb4;have HT4:=qq hT4;clear z0 z1 z2 z3 z4 hx3 hb3 hfv hbB hx4 hy4 hb4 hT4 hb0 HL HW Hbx Hz Hy HV HMu Hq HU1 hWs hg2;go_wp2_with fail
       have hs:Blk ((((((w3.alloc (Obj.cells #[.int .u8 x.k,.int .i64 x.n,.int .i64 x.v,.int .u8 x.c,.slice A3 m3 c3] 27)).setCell ⟨g2,0,none⟩ (.int .u8 x.k)).setCell ⟨g2,1,none⟩ (.int .i64 x.n)).setCell ⟨g2,2,none⟩ (.int .i64 x.v)).setCell ⟨g2,3,none⟩ (.int .u8 x.c)).setCell ⟨g2,4,none⟩ (.slice A3 m3 c3)) g2 27 #[.int .u8 x.k,.int .i64 x.n,.int .i64 x.v,.int .u8 x.c,.slice A3 m3 c3]:=
        ((((Hy4.out.set_ 0 (.int .u8 x.k)).set_ 1 (.int .i64 x.n)).set_ 2 (.int .i64 x.v)).set_ 3 (.int .u8 x.c)).set_ 4 (.slice A3 m3 c3)
       have hb9:=((((Hb4.out.setCell (p:=⟨g2,0,none⟩) hg2w (.int .u8 x.k)).setCell (p:=⟨g2,1,none⟩) hg2w (.int .i64 x.n)).setCell (p:=⟨g2,2,none⟩) hg2w (.int .i64 x.v)).setCell (p:=⟨g2,3,none⟩) hg2w (.int .u8 x.c)).setCell (p:=⟨g2,4,none⟩) hg2w (.slice A3 m3 c3)
       have hr9:∀ (l:List TyD) (A:Option Addr) (m c:Nat),TysS (w3.alloc (Obj.cells #[.int .u8 x.k,.int .i64 x.n,.int .i64 x.v,.int .u8 x.c,.slice A3 m3 c3] 27)) (fun q=>w.heap.size≤q∧q<(w3.alloc (Obj.cells #[.int .u8 x.k,.int .i64 x.n,.int .i64 x.v,.int .u8 x.c,.slice A3 m3 c3] 27)).heap.size∧q≠g2) A m c l→TysS ((((((w3.alloc (Obj.cells #[.int .u8 x.k,.int .i64 x.n,.int .i64 x.v,.int .u8 x.c,.slice A3 m3 c3] 27)).setCell ⟨g2,0,none⟩ (.int .u8 x.k)).setCell ⟨g2,1,none⟩ (.int .i64 x.n)).setCell ⟨g2,2,none⟩ (.int .i64 x.v)).setCell ⟨g2,3,none⟩ (.int .u8 x.c)).setCell ⟨g2,4,none⟩ (.slice A3 m3 c3)) (fun b=>w.heap.size≤b∧b<((((((w3.alloc (Obj.cells #[.int .u8 x.k,.int .i64 x.n,.int .i64 x.v,.int .u8 x.c,.slice A3 m3 c3] 27)).setCell ⟨g2,0,none⟩ (.int .u8 x.k)).setCell ⟨g2,1,none⟩ (.int .i64 x.n)).setCell ⟨g2,2,none⟩ (.int .i64 x.v)).setCell ⟨g2,3,none⟩ (.int .u8 x.c)).setCell ⟨g2,4,none⟩ (.slice A3 m3 c3)).heap.size) A m c l:=by
        intro l A m c h
        refine h.keep (fun b hb=>⟨hb.1,by simpa using hb.2.1⟩) fun p hp=>?_
        have c1:∀ (W':World) (o:Nat) (u:Value),(W'.setCell ⟨g2,o,none⟩ u).cell? p=W'.cell? p:=fun W' o u=>World.cell?_setCell_other _ _ _ _ (fun e=>hp.2.2 (by rw[← e]));rw[c1,c1,c1,c1,c1]
       replace hr9:=hr9 _ _ _ _ HT4.out;generalize ((((((w3.alloc (Obj.cells #[.int .u8 x.k,.int .i64 x.n,.int .i64 x.v,.int .u8 x.c,.slice A3 m3 c3] 27)).setCell ⟨g2,0,none⟩ (.int .u8 x.k)).setCell ⟨g2,1,none⟩ (.int .i64 x.n)).setCell ⟨g2,2,none⟩ (.int .i64 x.v)).setCell ⟨g2,3,none⟩ (.int .u8 x.c)).setCell ⟨g2,4,none⟩ (.slice A3 m3 c3))=W6 at hs hb9 hr9 ⊢;have d0':W6.cell? ⟨g2,0,none⟩=some (.int .u8 x.k):=hs.cell 0;have d1':W6.cell? ⟨g2,1,none⟩=some (.int .i64 x.n):=hs.cell 1;have d2':W6.cell? ⟨g2,2,none⟩=some (.int .i64 x.v):=hs.cell 2;have d3':W6.cell? ⟨g2,3,none⟩=some (.int .u8 x.c):=hs.cell 3;have d4':W6.cell? ⟨g2,4,none⟩=some (.slice A3 m3 c3):=hs.cell 4
       exact bodyPost_ret (v:=.agg #[.int .u8 x.k,.int .i64 x.n,.int .i64 x.v,.int .u8 x.c,.slice A3 m3 c3]) (by simp[results,Tryz.results64,go_sem,d0',d1',d2',d3',d4']) rfl (by rw[HU.out]; exact⟨_,_,_,rfl,hr9,hb9⟩)
     | false=>
       have HU:Hid (turnT fv fm t=t):=qq (by rw[HU1.out,hfv]; rfl)
       have hbB:=below_box (w:=w3) (Obj.cells #[.int .u8 x.k,.int .i64 x.n,.int .i64 x.v,.int .u8 x.c,.slice A3 m3 c3] 27);have hz4:=(Hz.out.below hb3 Hz.out.lt).below hbB (Hz.out.below hb3 Hz.out.lt).lt;have hy4:=(Hy.out.below hb3 Hy.out.lt).below hbB (Hy.out.below hb3 Hy.out.lt).lt;have hb4:=hb0.trans (hbB.mono hb0.size)
       have hT4:TysS (w3.alloc (Obj.cells #[.int .u8 x.k,.int .i64 x.n,.int .i64 x.v,.int .u8 x.c,.slice A3 m3 c3] 27)) (fun q=>w.heap.size≤q∧q<(w3.alloc (Obj.cells #[.int .u8 x.k,.int .i64 x.n,.int .i64 x.v,.int .u8 x.c,.slice A3 m3 c3] 27)).heap.size∧q≠g2) A m cp t.l:=by
        have h0:m=0:=by rw[← hlen,Hleaf.out]; rfl
        have hL:=HL.out;exact⟨hL.1,hL.2.1,hL.2.2.1,fun h=>absurd h (by omega)⟩
       rw[hg2] at hy4 ⊢;have q0:=hz4.cell 0;have q1:=hz4.cell 1;have q2:=hz4.cell 2;have q3:=hz4.cell 3;have q4:=hz4.cell 4;have s0:=hy4.frozen 0;have s1:=hy4.frozen 1;have s2:=hy4.frozen 2;have s3:=hy4.frozen 3;have s4:=hy4.frozen 4;have r0:=hy4.cell 0;have r1:=hy4.cell 1;have r2:=hy4.cell 2;have r3:=hy4.cell 3;have r4:=hy4.cell 4;have Hy4:=qq hy4;have Hb4:=qq hb4;have HT4:=qq hT4;clear z0 z1 z2 z3 z4 hx3 hb3 hfv hbB hy4 hz4 hb4 hT4 hb0 HL HW Hbx Hz Hy HV HMu Hq HU1 hWs hg2;go_wp2_with fail
       have hs:Blk ((((((w3.alloc (Obj.cells #[.int .u8 x.k,.int .i64 x.n,.int .i64 x.v,.int .u8 x.c,.slice A3 m3 c3] 27)).setCell ⟨g2,0,none⟩ (.int .u8 t.k)).setCell ⟨g2,1,none⟩ (.int .i64 t.n)).setCell ⟨g2,2,none⟩ (.int .i64 t.v)).setCell ⟨g2,3,none⟩ (.int .u8 t.c)).setCell ⟨g2,4,none⟩ (.slice A m cp)) g2 27 #[.int .u8 t.k,.int .i64 t.n,.int .i64 t.v,.int .u8 t.c,.slice A m cp]:=
        ((((Hy4.out.set_ 0 (.int .u8 t.k)).set_ 1 (.int .i64 t.n)).set_ 2 (.int .i64 t.v)).set_ 3 (.int .u8 t.c)).set_ 4 (.slice A m cp)
       have hb9:=((((Hb4.out.setCell (p:=⟨g2,0,none⟩) hg2w (.int .u8 t.k)).setCell (p:=⟨g2,1,none⟩) hg2w (.int .i64 t.n)).setCell (p:=⟨g2,2,none⟩) hg2w (.int .i64 t.v)).setCell (p:=⟨g2,3,none⟩) hg2w (.int .u8 t.c)).setCell (p:=⟨g2,4,none⟩) hg2w (.slice A m cp)
       have hr9:∀ (l:List TyD) (A:Option Addr) (m c:Nat),TysS (w3.alloc (Obj.cells #[.int .u8 x.k,.int .i64 x.n,.int .i64 x.v,.int .u8 x.c,.slice A3 m3 c3] 27)) (fun q=>w.heap.size≤q∧q<(w3.alloc (Obj.cells #[.int .u8 x.k,.int .i64 x.n,.int .i64 x.v,.int .u8 x.c,.slice A3 m3 c3] 27)).heap.size∧q≠g2) A m c l→TysS ((((((w3.alloc (Obj.cells #[.int .u8 x.k,.int .i64 x.n,.int .i64 x.v,.int .u8 x.c,.slice A3 m3 c3] 27)).setCell ⟨g2,0,none⟩ (.int .u8 t.k)).setCell ⟨g2,1,none⟩ (.int .i64 t.n)).setCell ⟨g2,2,none⟩ (.int .i64 t.v)).setCell ⟨g2,3,none⟩ (.int .u8 t.c)).setCell ⟨g2,4,none⟩ (.slice A m cp)) (fun b=>w.heap.size≤b∧b<((((((w3.alloc (Obj.cells #[.int .u8 x.k,.int .i64 x.n,.int .i64 x.v,.int .u8 x.c,.slice A3 m3 c3] 27)).setCell ⟨g2,0,none⟩ (.int .u8 t.k)).setCell ⟨g2,1,none⟩ (.int .i64 t.n)).setCell ⟨g2,2,none⟩ (.int .i64 t.v)).setCell ⟨g2,3,none⟩ (.int .u8 t.c)).setCell ⟨g2,4,none⟩ (.slice A m cp)).heap.size) A m c l:=by
        intro l A m c h
        refine h.keep (fun b hb=>⟨hb.1,by simpa using hb.2.1⟩) fun p hp=>?_
        have c1:∀ (W':World) (o:Nat) (u:Value),(W'.setCell ⟨g2,o,none⟩ u).cell? p=W'.cell? p:=fun W' o u=>World.cell?_setCell_other _ _ _ _ (fun e=>hp.2.2 (by rw[← e]));rw[c1,c1,c1,c1,c1]
       replace hr9:=hr9 _ _ _ _ HT4.out;generalize ((((((w3.alloc (Obj.cells #[.int .u8 x.k,.int .i64 x.n,.int .i64 x.v,.int .u8 x.c,.slice A3 m3 c3] 27)).setCell ⟨g2,0,none⟩ (.int .u8 t.k)).setCell ⟨g2,1,none⟩ (.int .i64 t.n)).setCell ⟨g2,2,none⟩ (.int .i64 t.v)).setCell ⟨g2,3,none⟩ (.int .u8 t.c)).setCell ⟨g2,4,none⟩ (.slice A m cp))=W6 at hs hb9 hr9 ⊢;have d0':W6.cell? ⟨g2,0,none⟩=some (.int .u8 t.k):=hs.cell 0;have d1':W6.cell? ⟨g2,1,none⟩=some (.int .i64 t.n):=hs.cell 1;have d2':W6.cell? ⟨g2,2,none⟩=some (.int .i64 t.v):=hs.cell 2;have d3':W6.cell? ⟨g2,3,none⟩=some (.int .u8 t.c):=hs.cell 3;have d4':W6.cell? ⟨g2,4,none⟩=some (.slice A m cp):=hs.cell 4
       exact bodyPost_ret (v:=.agg #[.int .u8 t.k,.int .i64 t.n,.int .i64 t.v,.int .u8 t.c,.slice A m cp]) (by simp[results,Tryz.results64,go_sem,d0',d1',d2',d3',d4']) rfl (by rw[HU.out]; exact⟨_,_,_,rfl,hr9,hb9⟩)
   · have d1:(t.k==1)=false:=by simp[hk]
     obtain⟨V5,hV5⟩:∃ v,(if t.k=7∧t.c=0 then (fm t.v).1 else t.v)=v:=⟨_,rfl⟩;obtain⟨C5',hC5⟩:∃ v,(if t.k=7∧t.c=0 then (fm t.v).2 else t.c)=v:=⟨_,rfl⟩;have HU:Hid (turnT fv fm t=.mk t.k t.n V5 C5' (t.l.map (turnT fv fm))):=qq (by rw[HU0.out,if_neg hk,hV5,hC5]);have HV5:=qq hV5;have HC5:=qq hC5;clear hV5 hC5 hk HU0;obtain⟨Q,hQ⟩:∃ q,(decide (t.k=7)&&decide (t.c=0))=q:=⟨_,rfl⟩;have HQ:=qq hQ;clear hQ
     go_enter Tryz.func64,Tryz.ntmps64
     go_upto_region 6 with fail;rw[HW.out]
     go_cut [33] (fun s wx=>s=.bool Q∧wx=W)
     case first=>
      by_cases h7:t.k=7
      · have d7:(t.k==7)=true:=by simp[h7]
        by_cases hc:t.c=0
        · have dc:(t.c==0)=true:=by simp[hc]
          obtain rfl:Q=true:=by rw[← HQ.out]; simp[h7,hc]
          clear h7 hc;go_wp2_with fail;go_meet;exact⟨rfl,rfl⟩
        · have dc:(t.c==0)=false:=by simp[hc]
          obtain rfl:Q=false:=by rw[← HQ.out]; simp[hc]
          clear h7 hc;go_wp2_with fail;go_meet;exact⟨rfl,rfl⟩
      · have d7:(t.k==7)=false:=by simp[h7]
        obtain rfl:Q=false:=by rw[← HQ.out]; simp[h7]
        clear h7;go_wp2_with fail;go_meet;exact⟨rfl,rfl⟩
     case rest=>
     obtain⟨rfl,hwc⟩:=hcut;have hwd:=hwc.symm;subst hwd
     go_upto_if 33 with fail
     go_cut [] (fun wx=>TurnC w A m cp t V5 C5' wx)
     case first=>
      have hQ:=HQ.out
      cases Q with
      | true=>
        have h7:t.k=7∧t.c=0:=by simpa using hQ
        clear hQ;have hq:=HMu.out t.v W (mayT_v HM.out) Hbx.out;have hV5:=HV5.out;have hC5:=HC5.out;rw[if_pos h7] at hV5 hC5;rw[hV5,hC5] at hq;have Hq:=qq hq;clear hq hV5 hC5 h7;go_wp2_with fail
        refine Hq.out.mono ?_; rintro e w3 ⟨rfl,hb3⟩
        have hz3:=Hz.out.below hb3 Hz.out.lt;have hy3:=Hy.out.below hb3 Hy.out.lt;have hb0:Below w.heap.size w w3:=Hbx.out.trans (hb3.mono Hbx.out.size)
        have hne:w.heap.size≠w.heap.size+1:=by omega
        have x2:=hz3.cell 2;have x3:=hz3.cell 3;have f2:=hz3.frozen 2;have f3:=hz3.frozen 3;have hz5:=(hz3.set_ 2 (.int .i64 V5)).set_ 3 (.int .u8 C5');have hy5:=(hy3.other hne 2 (.int .i64 V5)).other hne 3 (.int .u8 C5');have hb5:=(hb0.setCell (p:=⟨w.heap.size,2,none⟩) (Nat.le_refl _) (.int .i64 V5)).setCell (p:=⟨w.heap.size,3,none⟩) (Nat.le_refl _) (.int .u8 C5')
        have hl5:TysV ((w3.setCell ⟨w.heap.size,2,none⟩ (.int .i64 V5)).setCell ⟨w.heap.size,3,none⟩ (.int .u8 C5')) w.heap.size A m cp t.l:=by
         refine HL0.out.keep fun p hp=>?_
         have c1:∀ (W':World) (o:Nat) (u:Value),(W'.setCell ⟨w.heap.size,o,none⟩ u).cell? p=W'.cell? p:=fun W' o u=>World.cell?_setCell_other _ _ _ _ (fun e=>by rw[← e] at hp; exact Nat.lt_irrefl _ hp)
         rw[c1,c1];exact hb3.cell (Nat.lt_of_lt_of_le hp Hbx.out.size)
        have HE:=qq (show TurnC w A m cp t V5 C5' _ from⟨hz5,hy5,hb5,hl5⟩)
        clear hz3 hy3 hb0 hz5 hy5 hb5 hl5 hb3 z0 z1 z2 z3 z4;go_wp2_with fail;clear x2 x3 f2 f3;go_meet;exact HE.out
      | false=>
        have hV5:=HV5.out;have hC5:=HC5.out
        have h7:¬ (t.k=7∧t.c=0):=by simpa using hQ
        rw[if_neg h7] at hV5 hC5
        subst hV5; subst hC5
        clear h7 hQ;go_wp2_with fail;go_meet;exact⟨Hz.out,Hy.out,Hbx.out,HL0.out⟩
     case rest=>
      obtain⟨w5,hw5⟩:∃ w5,w5=wc:=⟨_,rfl⟩;subst hw5;obtain⟨hz5,hy5,hb5,hl5⟩:=hcut;have Hlz5:=qq hz5.lt;have Hly5:=qq hy5.lt;have HL5:=qq (hl5.more hb5.size);have Hz5:=qq hz5;have Hy5:=qq hy5;have Hb5:=qq hb5;clear hz5 hy5 hb5 hl5 HL HL0 Hbx Hz Hy z0 z1 z2 z3 z4;have hq:=cloneTy_any A m cp t.l w5 HL5.out (by omega);have Hq:=qq hq;have y4:=Hz5.out.cell 4;clear hq;go_wp2_with fail
      refine Hq.out.mono ?_; rintro e w6 ⟨v1,rfl,hown,hform,hb1⟩
      obtain⟨A1,c1,rfl⟩:∃ A1 c1,v1=.slice A1 m c1:=ownsRow_form hown.2.choose_spec.1;have HF:=qq (TurnI.start (us:=t.l.map (turnT fv fm)) hown (by rw[List.length_map]));have Hb1:=qq hb1;clear hown hform hb1 Hq
      try clear y4
      go_wp2_with fail
      go_loopg [45] m (fun gh i wr=>∃ k:Nat,k≤m∧gh=m - k∧i=.int .i64 k∧TurnI t.l (t.l.map (turnT fv fm)) w5.heap.size w5.heap.size (.slice A1 m c1) m k wr∧Below w5.heap.size w5 wr)
      case atStart=>exact⟨0,Nat.zero_le _,rfl,rfl,HF.out,Hb1.out⟩
      case round=>
       obtain⟨k,hk,rfl,rfl,hF,hbel⟩:=hrel
       by_cases hkm:k<m
       · have d0:decide (k<m)=true:=by simpa using hkm
         have hk':k<t.l.length:=by omega
         obtain⟨g,rfl,hgb,hgs,A2,n2,c2,e0,e1,e2,e3,e4,hx,hfz⟩:=hF.slot hk';have hn:=HN.out k hk';have hmx:=mayT_kid HM.out hk';have hbB:=below_box (w:=wr) (Obj.cells #[.int .u8 t.l[k].k,.int .i64 t.l[k].n,.int .i64 t.l[k].v,.int .u8 t.l[k].c,.slice A2 n2 c2] 27);have hwB:Below w.heap.size w (wr.alloc (Obj.cells #[.int .u8 t.l[k].k,.int .i64 t.l[k].n,.int .i64 t.l[k].v,.int .u8 t.l[k].c,.slice A2 n2 c2] 27)):=(Hb5.out.trans (hbel.mono Hb5.out.size)).trans (hbB.mono (Nat.le_trans Hb5.out.size hbel.size));have hq:=Ih.out t.l[k] hn hmx A2 n2 c2 _ (((hx.more hbel.size).below hbB).more hbB.size) (fun n w' h0 hb=>HV.out n w' h0 (hwB.trans (hb.mono hwB.size))) (fun n w' h0 hb=>HMu.out n w' h0 (hwB.trans (hb.mono hwB.size)))
         have hku:k<(t.l.map (turnT fv fm)).length:=by rw[List.length_map]; exact hk'
         have hux:(t.l.map (turnT fv fm))[k]=turnT fv fm t.l[k]:=List.getElem_map _;obtain⟨u,hu⟩:∃ u,turnT fv fm t.l[k]=u:=⟨_,rfl⟩;rw[hu] at hux;have hst:=fun(w3:World) (hb:Below wr.heap.size wr w3) (A3:Option Addr) (n3 c3:Nat) (h:TysS w3 (fun b=>wr.heap.size≤b∧b<w3.heap.size) A3 n3 c3 u.l)=>hF.step hku u hux hb (Nat.le_refl _) hbel.size h;obtain⟨x,hxk⟩:∃ x,t.l[k]=x:=⟨_,rfl⟩;rw[hxk] at e0 e1 e2 e3 hx hn hmx hbB hq hu;rw[hu] at hq;have Hq:=qq hq;have Hst:=qq hst;have Hbel:=qq hbel;have HbB:=qq hbB;have Hfz:=qq hfz
         have k1:(0:Int)≤(k:Int):=by omega
         have k2:(k:Int)<m:=by omega
         clear hx hn hmx hbB hwB hq hst hbel hF hxk hfz hux hu hku;go_wp2_with fail
         refine Hq.out.mono ?_; rintro e w3 ⟨A3,n3,c3,rfl,hx3,hb3⟩
         have hb13:Below wr.heap.size wr w3:=HbB.out.trans (hb3.mono HbB.out.size);have hs:=Hst.out w3 hb13 A3 n3 c3 (hx3.mono fun b hb=>⟨Nat.le_trans HbB.out.size hb.1,hb.2⟩);have hbS:Below w5.heap.size w5 w3:=Hbel.out.trans (hb13.mono Hbel.out.size)
         have hbN:=hbS.grown hs.2.1 hbS.size (fun j hj=>by have:=hs.2.2.1; injection hj with hj; omega)
         have Hs1:=qq hs.1;have HbN:=qq hbN;have f0:=(hb13.cell (p:=⟨g,k * 5,none⟩) hgs).trans e0;have f1:=(hb13.cell (p:=⟨g,k * 5+1,none⟩) hgs).trans e1;have f2:=(hb13.cell (p:=⟨g,k * 5+2,none⟩) hgs).trans e2;have f3:=(hb13.cell (p:=⟨g,k * 5+3,none⟩) hgs).trans e3;have f4:=(hb13.cell (p:=⟨g,k * 5+4,none⟩) hgs).trans e4;have z0:=(hb13.frozen (p:=⟨g,k * 5,none⟩) hgs).trans (Hfz.out (k * 5));have z1:=(hb13.frozen (p:=⟨g,k * 5+1,none⟩) hgs).trans (Hfz.out (k * 5+1));have z2:=(hb13.frozen (p:=⟨g,k * 5+2,none⟩) hgs).trans (Hfz.out (k * 5+2));have z3:=(hb13.frozen (p:=⟨g,k * 5+3,none⟩) hgs).trans (Hfz.out (k * 5+3));have z4:=(hb13.frozen (p:=⟨g,k * 5+4,none⟩) hgs).trans (Hfz.out (k * 5+4));clear hx3 hb3 hb13 hs hbS hbN e0 e1 e2 e3 e4 Hq Hst Hbel HbB Hfz;go_wp2_with fail;go_roundg (m - (k+1))
         case measure=>omega
         case rel=>exact⟨k+1,by omega,rfl,by go_num,Hs1.out,HbN.out⟩
       · have d0:decide (k<m)=false:=by simpa using hkm
         have hkm':k=m:=by omega
         subst hkm';have hT:=hF.done;have hz:=Hz5.out.below hbel Hlz5.out;have hy:=Hy5.out.below hbel Hly5.out;have hb0:Below w.heap.size w wr:=Hb5.out.trans (hbel.mono Hb5.out.size);have hWs:=Hb5.out.size;have hly:w.heap.size+1<w5.heap.size:=Hly5.out;obtain⟨g2,hg2⟩:∃ g2,w.heap.size+1=g2:=⟨_,rfl⟩
         have hne:w.heap.size≠g2:=by omega
         have hg2w:w.heap.size≤g2:=by omega
         rw[hg2] at hy hly ⊢;have hz1:Blk (wr.setCell ⟨w.heap.size,4,none⟩ (.slice A1 k c1)) w.heap.size 27 #[.int .u8 t.k,.int .i64 t.n,.int .i64 V5,.int .u8 C5',.slice A1 k c1]:=hz.set_ 4 (.slice A1 k c1);have hy1:=hy.other hne 4 (.slice A1 k c1);have x4:=hz.cell 4;have xf:=hz.frozen 4;have q0:=hz1.cell 0;have q1:=hz1.cell 1;have q2:=hz1.cell 2;have q3:=hz1.cell 3;have q4:=hz1.cell 4;have r0:=hy1.cell 0;have r1:=hy1.cell 1;have r2:=hy1.cell 2;have r3:=hy1.cell 3;have r4:=hy1.cell 4;have s0:=hy1.frozen 0;have s1:=hy1.frozen 1;have s2:=hy1.frozen 2;have s3:=hy1.frozen 3;have s4:=hy1.frozen 4;have hb2:=hb0.setCell (p:=⟨w.heap.size,4,none⟩) (Nat.le_refl _) (.slice A1 k c1);have HT:=qq hT;have Hy1:=qq hy1;have Hb2:=qq hb2;have Hly2:=qq hly;clear hF hz hy hz1 hy1 hbel hT hb0 hb2 hg2 hly;go_wp2_with fail
         have hs:Blk (((((( wr.setCell ⟨w.heap.size,4,none⟩ (.slice A1 k c1)).setCell ⟨g2,0,none⟩ (.int .u8 t.k)).setCell ⟨g2,1,none⟩ (.int .i64 t.n)).setCell ⟨g2,2,none⟩ (.int .i64 V5)).setCell ⟨g2,3,none⟩ (.int .u8 C5')).setCell ⟨g2,4,none⟩ (.slice A1 k c1)) g2 27 #[.int .u8 t.k,.int .i64 t.n,.int .i64 V5,.int .u8 C5',.slice A1 k c1]:=
          ((((Hy1.out.set_ 0 (.int .u8 t.k)).set_ 1 (.int .i64 t.n)).set_ 2 (.int .i64 V5)).set_ 3 (.int .u8 C5')).set_ 4 (.slice A1 k c1)
         have hb9:=((((Hb2.out.setCell (p:=⟨g2,0,none⟩) hg2w (.int .u8 t.k)).setCell (p:=⟨g2,1,none⟩) hg2w (.int .i64 t.n)).setCell (p:=⟨g2,2,none⟩) hg2w (.int .i64 V5)).setCell (p:=⟨g2,3,none⟩) hg2w (.int .u8 C5')).setCell (p:=⟨g2,4,none⟩) hg2w (.slice A1 k c1)
         have hr9:TysS (((((( wr.setCell ⟨w.heap.size,4,none⟩ (.slice A1 k c1)).setCell ⟨g2,0,none⟩ (.int .u8 t.k)).setCell ⟨g2,1,none⟩ (.int .i64 t.n)).setCell ⟨g2,2,none⟩ (.int .i64 V5)).setCell ⟨g2,3,none⟩ (.int .u8 C5')).setCell ⟨g2,4,none⟩ (.slice A1 k c1)) (fun b=>w.heap.size≤b∧b<(((((( wr.setCell ⟨w.heap.size,4,none⟩ (.slice A1 k c1)).setCell ⟨g2,0,none⟩ (.int .u8 t.k)).setCell ⟨g2,1,none⟩ (.int .i64 t.n)).setCell ⟨g2,2,none⟩ (.int .i64 V5)).setCell ⟨g2,3,none⟩ (.int .u8 C5')).setCell ⟨g2,4,none⟩ (.slice A1 k c1)).heap.size) A1 k c1 (t.l.map (turnT fv fm)):=by
          refine HT.out.keep (fun b hb=>⟨by omega,by simpa using hb.2⟩) fun p hp=>?_
          have hlo:w5.heap.size≤p.block:=hp.1;have hl2:=Hly2.out
          have c1:∀ (W':World) (g o:Nat) (u:Value),g<w5.heap.size→(W'.setCell ⟨g,o,none⟩ u).cell? p=W'.cell? p:=fun W' g o u hg=>World.cell?_setCell_other _ _ _ _ (fun e=>by rw[← e] at hlo; exact absurd hlo (by show ¬ w5.heap.size≤g; omega))
          rw[c1 _ _ _ _ (by omega),c1 _ _ _ _ (by omega),c1 _ _ _ _ (by omega),c1 _ _ _ _ (by omega),c1 _ _ _ _ (by omega),c1 _ _ _ _ (by omega)]
         generalize (((((( wr.setCell ⟨w.heap.size,4,none⟩ (.slice A1 k c1)).setCell ⟨g2,0,none⟩ (.int .u8 t.k)).setCell ⟨g2,1,none⟩ (.int .i64 t.n)).setCell ⟨g2,2,none⟩ (.int .i64 V5)).setCell ⟨g2,3,none⟩ (.int .u8 C5')).setCell ⟨g2,4,none⟩ (.slice A1 k c1))=W6 at hs hb9 hr9 ⊢;have d0':W6.cell? ⟨g2,0,none⟩=some (.int .u8 t.k):=hs.cell 0;have d1':W6.cell? ⟨g2,1,none⟩=some (.int .i64 t.n):=hs.cell 1;have d2':W6.cell? ⟨g2,2,none⟩=some (.int .i64 V5):=hs.cell 2;have d3':W6.cell? ⟨g2,3,none⟩=some (.int .u8 C5'):=hs.cell 3;have d4':W6.cell? ⟨g2,4,none⟩=some (.slice A1 k c1):=hs.cell 4
         exact bodyPost_ret (v:=.agg #[.int .u8 t.k,.int .i64 t.n,.int .i64 V5,.int .u8 C5',.slice A1 k c1]) (by simp[results,Tryz.results64,go_sem,d0',d1',d2',d3',d4']) rfl (by rw[HU.out]; exact⟨A1,k,c1,rfl,hr9,hb9⟩)
def putV (types:List TyD) (n:Int):Option TyD:=if n<types.length then types[n.toNat]? else none
def putM (mults:List (Int × Int)) (n:Int):Int × Int:=if n<mults.length then mults.getD n.toNat (n,0) else (n,0)
end Go.Proofs.YtdmakpmbknindaaGreatDoor
