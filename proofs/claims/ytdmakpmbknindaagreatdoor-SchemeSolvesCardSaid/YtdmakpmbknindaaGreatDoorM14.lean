import Derived.Test.YtdmakpmbknindaaGreatDoorM13
import Derived.Test.YtdmakpmbknindaaGreatDoorM9
set_option linter.unusedVariables false
set_option linter.unusedSimpArgs false
set_option maxRecDepth 100000
namespace Go.Proofs.YtdmakpmbknindaaGreatDoor
open Go.RowKit
theorem SolveR.least {n:Nat} {low:List Int} {xs:List IneqD} {a core b:List Int} {e:Int} (h:SolveR (n:Int) low xs a core e) (hn:n≤1048576) (hl:xs.length≤1048576) (hok:OkS (n:Int) low xs) (hb:LeastSolL xs (low0 n low) b):e=0∧a=b∧core=[]:=by
 rcases h with ⟨h1,_⟩ | ⟨_,_,h1,_⟩ | ⟨_,_,_,is,why,hE,h1⟩
 · omega
 · exact absurd hok h1
 · rcases h1 with ⟨i,x,l,hi,hr,hc,_⟩ | ⟨hn0,rfl,rfl,rfl⟩
   · exact absurd hb.sol (hE.inv.clash (List.mem_of_getElem? hi) (hE.over x (List.mem_of_getElem? hi)) hr hc b)
   · exact⟨rfl,(hE.ok hn0).unique hb,rfl⟩
theorem SolveR.none {n:Nat} {low:List Int} {xs:List IneqD} {a core:List Int} {e:Int} (h:SolveR (n:Int) low xs a core e) (hn:n≤1048576) (hl:xs.length≤1048576) (hok:OkS (n:Int) low xs) (hb:∀ b,¬ SolvL xs (low0 n low) b):e=40∧a=[]:=by
 rcases h with ⟨h1,_⟩ | ⟨_,_,h1,_⟩ | ⟨_,_,_,is,why,hE,h1⟩
 · omega
 · exact absurd hok h1
 · rcases h1 with ⟨i,x,l,hi,hr,hc,_,rfl,_,rfl⟩ | ⟨hn0,rfl,rfl,rfl⟩
   · exact⟨rfl,rfl⟩
   · exact absurd (hE.ok hn0).sol (hb _)
theorem SolveR.bad {n:Int} {low:List Int} {xs:List IneqD} {a core:List Int} {e:Int} (h:SolveR n low xs a core e) (hn:n≤1048576) (hl:xs.length≤1048576) (hok:¬ OkS n low xs):a=[]∧core=[]∧e=2:=by
 rcases h with ⟨h1,_⟩ | ⟨_,_,_,h1⟩ | ⟨_,_,h1,_⟩
 · omega
 · exact h1
 · exact absurd h1 hok
def cellsQ:List IneqD→List Value
 | []=>[]
 | x :: r=>[.int .i64 x.lv,.int .u8 x.lc,.int .u8 x.c,.int .i64 x.r]++cellsQ r
theorem cellsQ_len:∀ xs:List IneqD,(cellsQ xs).length=xs.length * 4
 | []=>rfl
 | x :: r=>by show([_,_,_,_]++cellsQ r).length=(r.length+1) * 4; rw[List.length_append,cellsQ_len r]; simp; omega
theorem cellsQ_at:∀ (xs:List IneqD) (i j:Nat) (h:i<xs.length),j<4→(cellsQ xs)[i * 4+j]?=[Value.int .i64 xs[i].lv,.int .u8 xs[i].lc,.int .u8 xs[i].c,.int .i64 xs[i].r][j]?
 | x :: r,0,j,_,hj=>by
   show([_,_,_,_]++cellsQ r)[0 * 4+j]?=_
   rw[List.getElem?_append_left (by simp; omega)]
   simp
 | x :: r,i+1,j,h,hj=>by
   show([_,_,_,_]++cellsQ r)[(i+1) * 4+j]?=_
   rw[List.getElem?_append_right (by simp; omega)]
   rw[show(i+1) * 4+j - [Value.int .i64 x.lv,.int .u8 x.lc,.int .u8 x.c,.int .i64 x.r].length=i * 4+j by simp; omega,cellsQ_at r i j (by simpa using h) hj]
   rfl
theorem IneqsV.laid {w:World} {b:Nat} {t:TypeId} {xs:List IneqD} (h:Blk w b t (cellsQ xs).toArray) (hm:xs.length≤maxLen):IneqsV w w.heap.size (some ⟨b,0,none⟩) xs.length xs.length xs:=by
 refine⟨rfl,Nat.le_refl _,hm,fun _=>⟨b,0,rfl,h.lt,fun i hi=>?_⟩⟩
 have hc:∀ j,j<4→w.cell? ⟨b,0+i * 4+j,none⟩=[Value.int .i64 xs[i].lv,.int .u8 xs[i].lc,.int .u8 xs[i].c,.int .i64 xs[i].r][j]?:=fun j hj=>by
  rw[Blk.cell h,Nat.zero_add];have:=cellsQ_at xs i j hi hj
  simpa using this
 exact⟨hc 0 (by omega),hc 1 (by omega),hc 2 (by omega),hc 3 (by omega)⟩
end Go.Proofs.YtdmakpmbknindaaGreatDoor
namespace Go.Proofs.YtdmakpmbknindaaGreatDoor
theorem SolveR.solv {n:Nat} {low:List Int} {xs:List IneqD} {a core b:List Int} {e:Int} (h:SolveR (n:Int) low xs a core e) (hn:n≤1048576) (hl:xs.length≤1048576) (hok:OkS (n:Int) low xs) (hb:SolvL xs (low0 n low) b):e=0∧core=[]∧LeastSolL xs (low0 n low) a:=by
 rcases h with ⟨h1,_⟩ | ⟨_,_,h1,_⟩ | ⟨_,_,_,is,why,hE,h1⟩
 · omega
 · exact absurd hok h1
 · rcases h1 with ⟨i,x,l,hi,hr,hc,_⟩ | ⟨hn0,rfl,rfl,rfl⟩
   · exact absurd hb (hE.inv.clash (List.mem_of_getElem? hi) (hE.over x (List.mem_of_getElem? hi)) hr hc b)
   · exact⟨rfl,rfl,hE.ok hn0⟩
theorem SolveR.zero {n:Int} {low:List Int} {xs:List IneqD} {a core:List Int} {e:Int} (h:SolveR n low xs a core e) (he:e=0):n≤1048576∧xs.length≤1048576∧OkS n low xs∧LeastSolL xs (low0 n low) a∧core=[]:=by
 rcases h with ⟨_,_,_,h1⟩ | ⟨_,_,_,_,_,h1⟩ | ⟨q1,q2,h1,is,why,hE,h2⟩
 · omega
 · omega
 · rcases h2 with ⟨i,x,l,hi,hr,hc,_,_,_,h3⟩ | ⟨hn0,rfl,rfl,_⟩
   · omega
   · exact⟨q1,q2,h1,hE.ok hn0,rfl⟩
theorem LeastSolL.rng {N:Nat} {low:List Int} {xs:List IneqD} {a asg:List Int} (hok:OkS (N:Int) low xs) (h:LeastSolL xs (low0 N low) a) (ha:SolvL xs (low0 N low) asg) (hr:∀ v,v<N→asg.getD v 0≤3):∀ v,v<N→1≤a.getD v 0∧a.getD v 0≤3:=fun v hv=>by
 have h1:=h.least asg ha v (by rw[low0_len hok]; exact hv)
 have h2:=h.sol.low v (by rw[low0_len hok]; exact hv)
 have h3:=low0_rng hok _ (getD_mem (l:=low0 N low) (by rw[low0_len hok]; exact hv))
 have h4:=hr v hv;omega
end Go.Proofs.YtdmakpmbknindaaGreatDoor
namespace Go.Proofs.YtdmakpmbknindaaGreatDoor
open Go.RowKit
theorem ineqInfo:(Tryz.prog.info? 70).map (fun i=>(i.zero,i.size,i.bytes))=some (some (.agg #[.int .i64 0,.int .u8 0,.int .u8 0,.int .i64 0]),4,32):=by kernel_rfl
theorem cellsQ_append:∀ a b:List IneqD,cellsQ (a++b)=cellsQ a++cellsQ b
 | [],b=>rfl
 | x :: a,b=>by show [_,_,_,_]++cellsQ (a++b)=([_,_,_,_]++cellsQ a)++cellsQ b; rw[cellsQ_append a b,List.append_assoc]
theorem cellsQ_one:∀ (xs:List IneqD),∀ u∈cellsQ xs,u.oneCell'=true
 | [],u,h=>by cases h
 | x :: r,u,h=>by
   have h:u∈[Value.int .i64 x.lv,.int .u8 x.lc,.int .u8 x.c,.int .i64 x.r]++cellsQ r:=h
   rcases List.mem_append.1 h with h | h
   · simp at h
     rcases h with rfl | rfl | rfl | rfl <;> rfl
   · exact cellsQ_one r u h
theorem IneqsV.rd4 {w:World} {B:Nat} {A:Option Addr} {n c:Nat} {xs:List IneqD} (h:IneqsV w B A n c xs):Rd w B 4 A n (cellsQ xs):=by
 refine⟨by rw[cellsQ_len,h.len],fun hn=>?_⟩
 obtain⟨b,o,e,hb,hc⟩:=h.at_ hn;refine⟨b,o,e,hb,fun j u hu=>?_⟩
 have hj:j<xs.length * 4:=by have:=(List.getElem?_eq_some_iff.1 hu).1; rw[cellsQ_len] at this; exact this
 have hi:j / 4<xs.length:=by omega
 obtain⟨e0,e1,e2,e3⟩:=hc (j / 4) hi;have h0:=cellsQ_at xs (j / 4) (j % 4) hi (by omega)
 rw[show j / 4 * 4+j % 4=j by omega,hu] at h0
 rw[show o+j=o+j / 4 * 4+j % 4 by omega]
 have h4:j % 4<4:=by omega
 generalize j % 4=r at h0 h4 ⊢
 match r,h4,h0 with
 | 0,_,h0=>rw[show u=_ from Option.some.inj h0]; exact e0
 | 1,_,h0=>rw[show u=_ from Option.some.inj h0]; exact e1
 | 2,_,h0=>rw[show u=_ from Option.some.inj h0]; exact e2
 | 3,_,h0=>rw[show u=_ from Option.some.inj h0]; exact e3
theorem IneqsV.of_own4 {w:World} {B:Nat} {A:Option Addr} {n c:Nat} {xs:List IneqD} (h:w.ownsRow B 70 4 (.slice A n c) n (cellsQ xs)):IneqsV w w.heap.size A n c xs:=by
 have hl:xs.length=n:=by have:=h.1; rw[cellsQ_len] at this; omega
 rcases h.2 with ⟨e0,hn⟩ | ⟨g,cap,cur,e0,hb,hg,hn,hm,hs,ht⟩
 · injection e0 with e1 e2 e3
   subst e1; subst e2; subst e3
   exact⟨hl,Nat.le_refl _,Nat.zero_le _,fun h=>absurd h (by omega)⟩
 · injection e0 with e1 e2 e3
   subst e1; subst e3
   refine⟨hl,hn,hm,fun hn0=>⟨g,0,rfl,(Array.getElem?_eq_some_iff.1 hg).1,fun i hi=>?_⟩⟩
   have hc:∀ j,j<4→w.cell? ⟨g,0+i * 4+j,none⟩=[Value.int .i64 xs[i].lv,.int .u8 xs[i].lc,.int .u8 xs[i].c,.int .i64 xs[i].r][j]?:=fun j hj=>by
    have h0:=cellsQ_at xs i j hi hj
    have h1:j < [Value.int .i64 xs[i].lv,.int .u8 xs[i].lc,.int .u8 xs[i].c,.int .i64 xs[i].r].length:=by simpa using hj
    rw[qj h1] at h0 ⊢;have:=h.cells (g:=g) rfl _ _ h0
    rw[show(Addr.add ⟨g,0,none⟩ (i * 4+j))=⟨g,0+i * 4+j,none⟩ from by unfold Addr.add; split <;> simp_all] at this
    exact this
   exact⟨hc 0 (by omega),hc 1 (by omega),hc 2 (by omega),hc 3 (by omega)⟩
theorem low0_self {n:Nat} {a:List Int} (h:a.length=n):low0 (n:Int) a=a:=by
 unfold low0
 split
 · rename_i e
   subst e;have:n=0:=h.symm;subst this;rfl
 · rfl
end Go.Proofs.YtdmakpmbknindaaGreatDoor
namespace Go.Proofs.YtdmakpmbknindaaGreatDoor
open Go.RowKit Go.Conc
structure WebM (w:World) (F base:Nat) (vs:List Value) (fr:Nat→List IneqD):Prop where
 blk:Blk w F 28 vs.toArray
 low:F<base
 own:∀ j (h:j<vs.length),w.ownsRow base 70 4 vs[j] (fr j).length (cellsQ (fr j))
 sep:∀ i j b (hi:i<vs.length) (hj:j<vs.length),vs[i].ownBlock=some b→vs[j].ownBlock=some b→i=j
section
variable {w w':World} {F base:Nat} {vs:List Value} {fr:Nat→List IneqD}
theorem WebM.off {S:List Nat} (h:WebM w F base vs fr) (ho:Off S w w') (hF:F∉S) (hS:∀ s∈S,s<base):WebM w' F base vs fr:=
 ⟨h.blk.off ho hF,h.low,fun j hj=>ownsRow_block (h.own j hj) fun b hb=>by
  have:=ownsRow_lt (h.own j hj) hb
  exact ho.block b this.2 fun e=>by have:=hS b e; omega,h.sep⟩
theorem WebM.cell (h:WebM w F base vs fr) (j:Nat) (hj:j<vs.length):w.cell? ⟨F,j,none⟩=some vs[j]:=by
 rw[Blk.cell h.blk];simp[hj]
theorem WebM.frozen (h:WebM w F base vs fr) (j:Nat):w.frozen? ⟨F,j,none⟩=false:=h.blk.frozen j
theorem WebM.row (h:WebM w F base vs fr) (j:Nat) (hj:j<vs.length):∃ A c,vs[j]=.slice A (fr j).length c∧IneqsV w w.heap.size A (fr j).length c (fr j):=by
 have ho:=h.own j hj;obtain⟨A,c,e⟩:=ownsRow_form ho;rw[e] at ho;exact⟨A,c,e,IneqsV.of_own4 ho⟩
theorem WebM.add (h:WebM w F base vs fr) {j:Nat} (hj:j<vs.length) {v':Value} {u:IneqD} (ho:w'.ownsRow base 70 4 v' ((fr j).length+1) (cellsQ (fr j)++cellsQ [u])) (hg:w.grownBy w' vs[j].ownBlock) (hn:v'.ownBlock=vs[j].ownBlock∨v'.ownBlock=some w.heap.size):
 WebM (w'.setCell ⟨F,j,none⟩ v') F base (vs.set j v') (fun k=>if k=j then fr j++[u] else fr k):=by
 have hFl:=h.blk.lt;refine⟨?_,h.low,fun k hk=>?_,fun i k b hi hk ei ek=>?_⟩
 · have:=(h.blk.grown hg (fun e=>by have:=ownsRow_lt (h.own j hj) e.symm; have:=h.low; omega)).set_ j v'
   simpa using this
 · have hk':k<vs.length:=by simpa using hk
   by_cases e:k=j
   · subst e
     rw[List.getElem_set,if_pos rfl];simp only[if_true];have:=ownsRow_setCell_below ho (a:=⟨F,k,none⟩) h.low v';rw[cellsQ_append,List.length_append];exact this
   · rw[List.getElem_set,if_neg (fun q=>e q.symm)]
     simp only[if_neg e];have hold:=h.own k hk';refine ownsRow_setCell_below (ownsRow_block hold fun b hb=>?_) (a:=⟨F,j,none⟩) h.low v';have hlt:=ownsRow_lt hold hb;exact hg.block b hlt.2 fun e'=>e (h.sep k j b hk' hj hb e'.symm)
 · have hi':i<vs.length:=by simpa using hi
   have hk':k<vs.length:=by simpa using hk
   rw[List.getElem_set] at ei ek
   by_cases e1:j=i
   · by_cases e2:j=k
     · omega
     · rw[if_pos e1] at ei
       rw[if_neg e2] at ek
       exfalso
       rcases hn with q | q
       · rw[q] at ei
         exact e2 (h.sep j k b hj hk' ei ek)
       · rw[q] at ei
         have:=ownsRow_lt (h.own k hk') ek;simp at ei;omega
   · rw[if_neg e1] at ei
     by_cases e2:j=k
     · rw[if_pos e2] at ek
       exfalso
       rcases hn with q | q
       · rw[q] at ek
         exact e1 (h.sep j i b hj hi' ek ei)
       · rw[q] at ek
         have:=ownsRow_lt (h.own i hi') ei;simp at ek;omega
     · rw[if_neg e2] at ek
       exact h.sep i k b hi' hk' ei ek
end
end Go.Proofs.YtdmakpmbknindaaGreatDoor
namespace Go.Proofs.YtdmakpmbknindaaGreatDoor
open Go.RowKit
def idxE (l:List Int) (n:Int):Int:=match l.findIdx? (· == n) with
 | some i=>(i:Int)
 | none => -1
theorem idxE_at {l:List Int} {n:Int} {i:Nat} (h:i<l.length) (hb:∀ j (h:j<l.length),j<i→(n==l[j])=false) (hp:(n==l[i])=true):idxE l n=i:=by
 have:l.findIdx? (· == n)=some i:=List.findIdx?_eq_some_iff_getElem.2 ⟨h,by simp only[beq_iff_eq] at hp ⊢; exact hp.symm,fun j hj=>by
  have:=hb j (by omega) hj;simp only[beq_iff_eq,beq_eq_false_iff_ne,ne_eq,Bool.not_eq_true] at this ⊢
  exact fun e=>this e.symm⟩
 unfold idxE;rw[this]
theorem idxE_none {l:List Int} {n:Int} (hb:∀ j (h:j<l.length),(n==l[j])=false):idxE l n = -1:=by
 have:l.findIdx? (· == n)=none:=List.findIdx?_eq_none_iff.2 fun x hx=>by
  obtain⟨j,hj,rfl⟩:=List.getElem_of_mem hx;have:=hb j hj;simp only[beq_eq_false_iff_ne,ne_eq] at this ⊢;exact fun e=>this e.symm
 unfold idxE;rw[this]
theorem idxE_contains (l:List Int) (n:Int):decide (idxE l n≥0)=l.contains n:=by
 cases h:l.findIdx? (· == n) with
 | some i=>
   obtain⟨hi,hp,_⟩:=List.findIdx?_eq_some_iff_getElem.1 h
   have e:idxE l n=i:=by unfold idxE; rw[h]
   simp only[beq_iff_eq] at hp;rw[e,List.contains_iff_mem.2 (hp ▸ List.getElem_mem hi)];simp
 | none=>
   have e:idxE l n = -1:=by unfold idxE; rw[h]
   have e2:l.contains n=false:=by
    rw[Bool.eq_false_iff];intro h2;have:=List.findIdx?_eq_none_iff.1 h n (List.contains_iff_mem.1 h2);simp at this
   rw[e,e2];decide
theorem indexE_any (A:Option Addr) (n c:Nat) (us:List Int) (x:Int) (w:World) (B:Nat) (h:RdI .i64 w B A n c us):
 Calls Tryz.prog 106 #[.slice A n c,.int .i64 x] w fun e w'=>e=.returned (.int .i64 (idxE us x))∧w=w':=by
 have hlen:=h.len;have m63:n≤9223372036854775807:=Nat.le_trans h.2.1 h.2.2;have H:=qq h;clear h
 go_enter Tryz.func106,Tryz.ntmps106
 go_wp2_with fail
 go_loopg [8] n (fun gh i wr=>∃ k:Nat,k≤n∧gh=n - k∧i=.int .i64 k∧wr=w∧∀ j (h:j<us.length),j<k→(x==us[j])=false)
 case atStart=>exact⟨0,Nat.zero_le _,rfl,rfl,rfl,fun j _ hj=>absurd hj (by omega)⟩
 case round=>
  obtain⟨k,hk,rfl,rfl,rfl,hb⟩:=hrel
  by_cases hkm:k<n
  · have d0:decide (k<n)=true:=by simpa using hkm
    have hk':k<us.length:=by omega
    obtain⟨b,off,rfl,_,hc⟩:=H.out.at_ (by omega);have e0:=hc k hk';have Hb:=qq hb
    have k1:(0:Int)≤(k:Int):=by omega
    have k2:(k:Int)<n:=by omega
    clear hc hb;obtain⟨y,hy⟩:∃ y,us[k]=y:=⟨_,rfl⟩;rw[hy] at e0
    by_cases hxy:x=y
    · have d1:(x==y)=true:=by simpa using hxy
      have HR:Hid ((k:Int)=idxE us x):=qq (idxE_at hk' Hb.out (by rw[hy]; exact d1)).symm
      clear hxy hy;go_wp2_with fail;go_ret;exact⟨ret_int HR.out,rfl⟩
    · have d1:(x==y)=false:=by simpa using hxy
      have Hn:Hid (∀ j (h:j<us.length),j<k+1→(x==us[j])=false):=qq fun j hj hjk=>by
       rcases Nat.lt_or_ge j k with h | h
       · exact Hb.out j hj h
       · obtain rfl:j=k:=by omega
         rw[hy]; exact d1
      clear hxy hy;go_wp2_with fail;go_roundg (n - (k+1))
      case measure=>omega
      case rel=>exact⟨k+1,by omega,rfl,by go_num,rfl,Hn.out⟩
  · have d0:decide (k<n)=false:=by simpa using hkm
    have HR:Hid ((-1:Int)=idxE us x):=qq (idxE_none fun j hj=>hb j hj (by omega)).symm;clear hb;go_wp2_with fail;go_ret;exact⟨ret_int HR.out,rfl⟩
theorem containsE_any (A:Option Addr) (n c:Nat) (us:List Int) (x:Int) (w:World) (B:Nat) (h:RdI .i64 w B A n c us) (r:Bool) (hr:us.contains x=r):
 Calls Tryz.prog 75 #[.slice A n c,.int .i64 x] w fun e w'=>e=.returned (.bool r)∧w=w':=by
 have hq:=indexE_any A n c us x w B h;have hd:=idxE_contains us x;rw[hr] at hd;obtain⟨i,hi⟩:∃ i,idxE us x=i:=⟨_,rfl⟩;rw[hi] at hq hd;have Hq:=qq hq;clear hq hr hi h
 go_enter Tryz.func75,Tryz.ntmps75
 go_wp2_with fail
 refine Hq.out.mono ?_; rintro e w1 ⟨rfl,rfl⟩
 have Hd:Hid (decide (i≥0)=r):=qq hd;clear hd;go_wp2_with fail;go_ret;exact⟨ret_bool Hd.out,rfl⟩
theorem qrowInfo:(Tryz.prog.info? 28).map (fun i=>(i.zero,i.size,i.bytes))=some (some (.slice none 0 0),1,24):=by kernel_rfl
theorem make_web (N:Nat) (hN:N≤1048576) (w:World):(Instr.makeSlice 148 (.int .i64 N) (.int .i64 N)).run Tryz.prog w=.ok (.slice (some ⟨w.heap.size,0,none⟩) N N) (w.alloc (.cells (List.replicate N (Value.slice none 0 0)).toArray 28)):=by
 obtain⟨i0,hi0,hi1,hi2,hi3⟩:=info_parts qrowInfo
 have h:=run_makeSlice (P:=Tryz.prog) w 148 28 i0 _ Tryz.underlying148 hi0 hi1 .i64 .i64 N N (by omega) (by omega) (by rw[hi2]; simp; omega) (by rw[hi3]; simp; omega) (by omega)
 rw[h]
 have:madeCells (Value.slice none 0 0:Value).cells ((N:Int).toNat * i0.size)=(List.replicate N (Value.slice none 0 0)).toArray:=by
  rw[hi2,Int.toNat_natCast,Nat.mul_one];exact made_one _ rfl N
 rw[this];simp
theorem WebM.start {w:World} {F base N:Nat} (h:Blk w F 28 (List.replicate N (Value.slice none 0 0)).toArray) (hb:F<base):WebM w F base (List.replicate N (Value.slice none 0 0)) (webE []):=
 ⟨h,hb,fun j hj=>by rw[List.getElem_replicate]; exact World.ownsRow_nil _ _ _ _,fun i j b hi hj e=>by rw[List.getElem_replicate] at e; cases e⟩
theorem web_take {xs:List IneqD} {k:Nat} (hk:k<xs.length) (u:Nat):webE (xs.take (k+1)) u=if xs[k].lc=0∧xs[k].lv=(u:Int) then webE (xs.take k) u++[xs[k]] else webE (xs.take k) u:=by
 unfold webE;rw[List.take_succ_eq_append_getElem hk,List.filter_append]
 by_cases h:xs[k].lc=0∧xs[k].lv=(u:Int)
 · rw[if_pos h,List.filter_cons_of_pos (by simp[h])]
   rfl
 · rw[if_neg h,List.filter_cons_of_neg (by simpa using h)]
   simp
theorem web_skip {xs:List IneqD} {k:Nat} (hk:k<xs.length) (h:xs[k].lc≠0):webE (xs.take (k+1))=webE (xs.take k):=by
 funext u
 rw[web_take hk,if_neg (fun e=>h e.1)]
theorem web_add {xs:List IneqD} {k v:Nat} (hk:k<xs.length) (h:xs[k].lc=0) (hv:xs[k].lv=(v:Int)):webE (xs.take (k+1))=fun u=>if u=v then webE (xs.take k) v++[xs[k]] else webE (xs.take k) u:=by
 funext u
 rw[web_take hk]
 by_cases e:u=v
 · subst e; rw[if_pos ⟨h,hv⟩,if_pos rfl]
 · rw[if_neg (fun q=>e (by have:=hv.symm.trans q.2; omega)),if_neg e]
theorem WebM.toR {w:World} {F base N:Nat} {vs:List Value} {xs:List IneqD} (h:WebM w F base vs (webE xs)) (hl:vs.length=N) (hN:N≤maxLen):WebR w w.heap.size (some ⟨F,0,none⟩) N N xs:=by
 refine⟨Nat.le_refl _,hN,fun _=>⟨F,0,rfl,h.blk.lt,fun u hu=>?_⟩⟩;obtain⟨A,c,e,hq⟩:=h.row u (by omega)
 exact⟨A,c,by rw[Nat.zero_add,h.cell u (by omega),e],hq⟩
theorem WebM.fresh {w w':World} {F base:Nat} {vs:List Value} {fr:Nat→List IneqD} (h:WebM w F base vs fr) (hb:Below w.heap.size w w'):WebM w' F base vs fr:=
 ⟨h.blk.below hb h.blk.lt,h.low,fun j hj=>ownsRow_beyond (h.own j hj) hb,h.sep⟩
theorem rd_newq (w:World) (x:IneqD) (t:TypeId):Rd (w.alloc (Obj.cells #[.int .i64 x.lv,.int .u8 x.lc,.int .u8 x.c,.int .i64 x.r] t)) (w.heap.size+1) 4 (some ⟨w.heap.size,0,none⟩) 1 (cellsQ [x]):=
 ⟨rfl,fun _=>⟨w.heap.size,0,rfl,Nat.lt_succ_self _,fun j u hu=>by rw[Nat.zero_add,World.cell?_alloc_new]; simpa[cellsQ] using hu⟩⟩
theorem rdM_blk {w:World} {g K:Nat} {us:List Int} (h:Blk w g 22 (us.map (Value.int .u8)).toArray) (hl:us.length=K) (hK:K≤maxLen):RdI .u8 w w.heap.size (some ⟨g,0,none⟩) K K us:=
 (show RowC w g 22 .u8 us from⟨_,h,by simp,fun i hi=>by simp[hi]⟩).rd hl (Nat.le_refl _) hK
structure OwnT (w:World) (base K m:Nat) (v1 v2 v3:Value) (low up:List Int) (ps:List (List Int)) (gs:List Nat):Prop where
 o1:w.ownsRow base 22 1 v1 low.length (low.map (Value.int .u8))
 o2:w.ownsRow base 22 1 v2 up.length (up.map (Value.int .u8))
 o3:w.ownsRow base 35 1 v3 (gs.take m).length ((gs.take m).map fun g=>Value.slice (some ⟨g,0,none⟩) K K)
 pl:ps.length=gs.length
 rows:∀ i (h:i<gs.length) (h':i<ps.length),Blk w gs[i] 22 (ps[i].map (Value.int .u8)).toArray∧ps[i].length=K
 s12:∀ b,v1.ownBlock=some b→v2.ownBlock≠some b
 s13:∀ b,v1.ownBlock=some b→v3.ownBlock≠some b
 s23:∀ b,v2.ownBlock=some b→v3.ownBlock≠some b
 g1:∀ b,v1.ownBlock=some b→b∉gs
 g2:∀ b,v2.ownBlock=some b→b∉gs
 g3:∀ b,v3.ownBlock=some b→b∉gs
section
variable {w w':World} {base K m:Nat} {v1 v2 v3 v':Value} {low up:List Int} {ps:List (List Int)} {gs:List Nat}
theorem OwnT.nil (w:World) (base K:Nat):OwnT w base K 0 (.slice none 0 0) (.slice none 0 0) (.slice none 0 0) [] [] [] []:=
 ⟨World.ownsRow_nil _ _ _ _,World.ownsRow_nil _ _ _ _,World.ownsRow_nil _ _ _ _,rfl,fun i h=>absurd h (by simp),fun b e=>absurd e (by simp[Value.ownBlock]),fun b e=>absurd e (by simp[Value.ownBlock]),fun b e=>absurd e (by simp[Value.ownBlock]),fun b e=>absurd e (by simp[Value.ownBlock]),fun b e=>absurd e (by simp[Value.ownBlock]),fun b e=>absurd e (by simp[Value.ownBlock])⟩
theorem OwnT.fresh (h:OwnT w base K m v1 v2 v3 low up ps gs) (hb:Below w.heap.size w w'):OwnT w' base K m v1 v2 v3 low up ps gs:=
 ⟨ownsRow_beyond h.o1 hb,ownsRow_beyond h.o2 hb,ownsRow_beyond h.o3 hb,h.pl,fun i hi hi'=>⟨(h.rows i hi hi').1.below hb (h.rows i hi hi').1.lt,(h.rows i hi hi').2⟩,h.s12,h.s13,h.s23,h.g1,h.g2,h.g3⟩
theorem OwnT.lt {g:Nat} (h:OwnT w base K m v1 v2 v3 low up ps gs) (hg:g∈gs):g<w.heap.size:=by
 obtain⟨i,hi,rfl⟩:=List.getElem_of_mem hg
 exact(h.rows i hi (by rw[h.pl]; exact hi)).1.lt
theorem OwnT.row {g:Nat} {row:List Int} (h:OwnT w base K gs.length v1 v2 v3 low up ps gs) (hb:Below w.heap.size w w') (hk:Blk w' g 22 (row.map (Value.int .u8)).toArray) (hr:row.length=K) (hg:w.heap.size≤g):OwnT w' base K gs.length v1 v2 v3 low up (ps++[row]) (gs++[g]):=by
 have hf:=h.fresh hb
 have own:∀ {t:TypeId} {v:Value} {n:Nat} {us:List Value},w.ownsRow base t 1 v n us→∀ b,v.ownBlock=some b→b∉gs→b∉gs++[g]:=fun ho b e hn hm=>by
  have:=(ownsRow_lt ho e).2
  rcases List.mem_append.1 hm with q | q
  · exact hn q
  · rw[List.mem_singleton.1 q] at this; omega
 refine⟨hf.o1,hf.o2,?_,by simp[h.pl],fun i hi hi'=>?_,h.s12,h.s13,h.s23,fun b e=>own h.o1 b e (h.g1 b e),fun b e=>own h.o2 b e (h.g2 b e),fun b e=>own h.o3 b e (h.g3 b e)⟩
 · have:=hf.o3
   rw[List.take_of_length_le (Nat.le_refl _)] at this;rw[List.take_left' rfl];exact this
 · by_cases e:i<gs.length
   · have:=hf.rows i e (by rw[h.pl]; exact e)
     rw[List.getElem_append_left e]
     rw[show(ps++[row])[i]=ps[i]'(by rw[h.pl]; exact e) from List.getElem_append_left _]
     exact this
   · have e2:i=gs.length:=by simp at hi; omega
     subst e2
     rw[List.getElem_append_right (by omega),List.getElem_append_right (by rw[h.pl]; omega)]
     simp only[h.pl,Nat.sub_self,qe];exact⟨hk,hr⟩
theorem grown_row (hg:w.grownBy w' v'.ownBlock) {t:TypeId} {v:Value} {n:Nat} {us:List Value} (h:w.ownsRow base t 1 v n us) (hs:∀ b,v'.ownBlock=some b→v.ownBlock≠some b):w'.ownsRow base t 1 v n us:=
 ownsRow_block h fun b hb=>hg.block b (ownsRow_lt h hb).2 fun e=>hs b e.symm hb
theorem own_new {t1 t2:TypeId} {v v2:Value} {n2:Nat} {us2:List Value} (hn:v'.ownBlock=v.ownBlock∨v'.ownBlock=some w.heap.size) (h2:w.ownsRow base t2 1 v2 n2 us2) (hs:∀ b,v.ownBlock=some b→v2.ownBlock≠some b):∀ b,v'.ownBlock=some b→v2.ownBlock≠some b:=fun b e e2=>by
 rcases hn with q | q
 · exact hs b (q ▸ e) e2
 · rw[q] at e
   have:=(ownsRow_lt h2 e2).2
   cases e
   omega
theorem own_gs {v:Value} (h:OwnT w base K m v1 v2 v3 low up ps gs) (hn:v'.ownBlock=v.ownBlock∨v'.ownBlock=some w.heap.size) (hs:∀ b,v.ownBlock=some b→b∉gs):∀ b,v'.ownBlock=some b→b∉gs:=fun b e hm=>by
 rcases hn with q | q
 · exact hs b (q ▸ e) hm
 · rw[q] at e
   have:=h.lt hm
   cases e
   omega
theorem OwnT.app1 {x:Int} (h:OwnT w base K m v1 v2 v3 low up ps gs) (ho:w'.ownsRow base 22 1 v' (low.length+1) (low.map (Value.int .u8)++[.int .u8 x])) (hg:w.grownBy w' v1.ownBlock) (hn:v'.ownBlock=v1.ownBlock∨v'.ownBlock=some w.heap.size):OwnT w' base K m v' v2 v3 (low++[x]) up ps gs:=
 ⟨by simpa using ho,grown_row hg h.o2 h.s12,grown_row hg h.o3 h.s13,h.pl,fun i hi hi'=>⟨(h.rows i hi hi').1.grown hg fun e=>h.g1 _ e.symm (List.getElem_mem hi),(h.rows i hi hi').2⟩,own_new (t1:=0) hn h.o2 h.s12,own_new (t1:=0) hn h.o3 h.s13,h.s23,own_gs h hn h.g1,h.g2,h.g3⟩
theorem OwnT.app2 {x:Int} (h:OwnT w base K m v1 v2 v3 low up ps gs) (ho:w'.ownsRow base 22 1 v' (up.length+1) (up.map (Value.int .u8)++[.int .u8 x])) (hg:w.grownBy w' v2.ownBlock) (hn:v'.ownBlock=v2.ownBlock∨v'.ownBlock=some w.heap.size):OwnT w' base K m v1 v' v3 low (up++[x]) ps gs:=
 ⟨grown_row hg h.o1 fun b e e2=>h.s12 b e2 e,by simpa using ho,grown_row hg h.o3 h.s23,h.pl,fun i hi hi'=>⟨(h.rows i hi hi').1.grown hg fun e=>h.g2 _ e.symm (List.getElem_mem hi),(h.rows i hi hi').2⟩,fun b e e2=>own_new (t1:=0) hn h.o1 (fun b e e2=>h.s12 b e2 e) b e2 e,h.s13,own_new (t1:=0) hn h.o3 h.s23,h.g1,own_gs h hn h.g2,h.g3⟩
theorem OwnT.app3 (h:OwnT w base K m v1 v2 v3 low up ps gs) (hm:m+1=gs.length) (ho:w'.ownsRow base 35 1 v' ((gs.take m).length+1) ((gs.take m).map (fun g=>Value.slice (some ⟨g,0,none⟩) K K)++[.slice (some ⟨gs.getD m 0,0,none⟩) K K])) (hg:w.grownBy w' v3.ownBlock) (hn:v'.ownBlock=v3.ownBlock∨v'.ownBlock=some w.heap.size):OwnT w' base K gs.length v1 v2 v' low up ps gs:=by
 refine⟨grown_row hg h.o1 fun b e e2=>h.s13 b e2 e,grown_row hg h.o2 fun b e e2=>h.s23 b e2 e,?_,h.pl,fun i hi hi'=>⟨(h.rows i hi hi').1.grown hg fun e=>h.g3 _ e.symm (List.getElem_mem hi),(h.rows i hi hi').2⟩,h.s12,fun b e e2=>own_new (t1:=0) hn h.o1 (fun b e e2=>h.s13 b e2 e) b e2 e,fun b e e2=>own_new (t1:=0) hn h.o2 (fun b e e2=>h.s23 b e2 e) b e2 e,h.g1,h.g2,own_gs h hn h.g3⟩
 have e:gs=gs.take m++[gs.getD m 0]:=by
  have h1:gs.take (m+1)=gs:=List.take_of_length_le (by omega);rw[List.take_succ_eq_append_getElem (by omega)] at h1;rw[List.getD_eq_getElem?_getD,qj (by omega)];exact h1.symm
 have e2:gs.take gs.length=gs.take m++[gs.getD m 0]:=by rw[List.take_of_length_le (Nat.le_refl _)]; exact e
 rw[e2]
 simpa using ho
theorem OwnT.tab (h:OwnT w base K gs.length v1 v2 v3 low up ps gs) (hK:K≤maxLen):TabV w w.heap.size (.agg #[v1,v2,v3]) ⟨low,up,ps⟩:=by
 obtain⟨o1,o2,o3,pl,rows,_⟩:=h;rw[List.take_of_length_le (Nat.le_refl _)] at o3;obtain⟨A1,c1,rfl⟩:=ownsRow_form o1;obtain⟨A2,c2,rfl⟩:=ownsRow_form o2;obtain⟨A3,c3,rfl⟩:=ownsRow_form o3
 refine⟨A1,c1,A2,c2,A3,c3,by rw[pl],RdI.of_own o1,RdI.of_own o2,rfl,?_⟩
 have hc:gs.length≤c3∧c3≤maxLen:=by
  rcases o3.2 with ⟨q,q2⟩ | ⟨g,cap,cur,q1,q2,q3,q4,q5,_⟩
  · injection q with q6 q7 q8; rw[q8,q2]; exact⟨Nat.le_refl _,by unfold maxLen; omega⟩
  · injection q1 with q6 q7 q8; rw[q8]; exact⟨q4,q5⟩
 refine⟨by show ps.length≤c3; rw[pl]; exact hc.1,hc.2,fun hn=>?_⟩
 replace hn:0<ps.length:=hn
 rcases o3.2 with ⟨q,_⟩ | ⟨g,cap,cur,q1,q2,q3,q4⟩
 · injection q with _ q; omega
 · cases q1
   refine⟨g,0,rfl,(Array.getElem?_eq_some_iff.1 q3).1,fun i hi=>?_⟩
   have hi2:i<gs.length:=by rw[← pl]; exact hi
   obtain⟨r1,r2⟩:=rows i hi2 hi
   refine⟨some ⟨gs[i],0,none⟩,K,?_,by show RdI .u8 w w.heap.size _ ps[i].length K ps[i]; rw[r2]; exact rdM_blk r1 r2 hK⟩
   show w.cell? ⟨g,0+i,none⟩=some (Value.slice (some ⟨gs[i],0,none⟩) ps[i].length K);have:=World.ownsRow.cells o3 (g:=g) rfl i (.slice (some ⟨gs[i],0,none⟩) K K) (by simp[hi2]);rw[r2]
   rw[show(⟨g,0,none⟩:Addr).add i=⟨g,0+i,none⟩ from by unfold Addr.add; split <;> simp_all] at this
   exact this
end
def RowAt (n:Nat) (xs:List IneqD) (low:List Int) (keep:List Nat) (i:Nat) (lo up:Int) (to:List Int) (row:List Int) (k:Nat):Prop:=
 ∀ j (hj:j<keep.length),j<k→(i=j→row.getD j 0=1)∧(i≠j→TightE lo (low.getD keep[j] 0) up (to.getD keep[j] 0) (row.getD j 0))
structure ProjK (n:Nat) (xs:List IneqD) (low:List Int) (keep:List Nat) (k:Nat) (lo up:List Int) (ps:List (List Int)):Prop where
 ll:lo.length=k
 ul:up.length=k
 pl:ps.length=k
 pr:∀ i,i<k→(ps.getD i []).length=keep.length
 row:∀ i (hi:i<keep.length),i<k→lo.getD i 0=low.getD keep[i] 0∧∃ to,LineE n xs keep[i] to (up.getD i 0)∧RowAt n xs low keep i (low.getD keep[i] 0) (up.getD i 0) to (ps.getD i []) keep.length
section
variable {n k:Nat} {xs:List IneqD} {low lo up to row:List Int} {keep:List Nat} {ps:List (List Int)}
theorem ProjK.start:ProjK n xs low keep 0 [] [] []:=⟨rfl,rfl,rfl,fun i h=>absurd h (Nat.not_lt_zero _),fun i _ h=>absurd h (Nat.not_lt_zero _)⟩
theorem getD_snoc {α:Type} (l:List α) (x d:α) (i:Nat):(l++[x]).getD i d=if i<l.length then l.getD i d else if i=l.length then x else d:=by
 rw[List.getD_eq_getElem?_getD,List.getD_eq_getElem?_getD]
 by_cases h:i<l.length
 · rw[if_pos h,List.getElem?_append_left h]
 · rw[if_neg h,List.getElem?_append_right (by omega)]
   by_cases e:i=l.length
   · subst e; simp
   · rw[if_neg e,List.getElem?_eq_none (by simp; omega)]; rfl
theorem ProjK.step (h:ProjK n xs low keep k lo up ps) (hk:k<keep.length) {u:Int} (hl:LineE n xs keep[k] to u) (hrl:row.length=keep.length) (hr:RowAt n xs low keep k (low.getD keep[k] 0) u to row keep.length):
 ProjK n xs low keep (k+1) (lo++[low.getD keep[k] 0]) (up++[u]) (ps++[row]):=by
 refine⟨by simp[h.ll],by simp[h.ul],by simp[h.pl],fun i hi=>?_,fun i hi hik=>?_⟩
 · rw[getD_snoc,h.pl]
   by_cases e:i<k
   · rw[if_pos e]; exact h.pr i e
   · rw[if_neg e,if_pos (by omega)]; exact hrl
 · rw[getD_snoc,getD_snoc,getD_snoc,h.ll,h.ul,h.pl]
   by_cases e:i<k
   · rw[if_pos e,if_pos e,if_pos e]; exact h.row i hi e
   · obtain rfl:i=k:=by omega
     rw[if_neg e,if_neg e,if_neg e,if_pos rfl,if_pos rfl,if_pos rfl];exact⟨rfl,to,hl,hr⟩
theorem ProjK.done (h:ProjK n xs low keep keep.length lo up ps):ProjE n xs low keep ⟨lo,up,ps⟩:=
 ⟨h.ll,h.ul,h.pl,h.pr,fun i hi=>⟨(h.row i hi hi).1,by
  obtain⟨_,to,h1,h2⟩:=h.row i hi hi
  exact⟨to,h1,fun j hj=>h2 j hj hj⟩⟩⟩
theorem RowAt.start {i:Nat} {l u:Int}:RowAt n xs low keep i l u to row 0:=fun j _ h=>absurd h (Nat.not_lt_zero _)
theorem RowAt.step {i j:Nat} {l u p:Int} (h:RowAt n xs low keep i l u to row j) (hj:j<keep.length) (hrl:row.length=keep.length) (h1:i=j→p=1) (h2:i≠j→TightE l (low.getD keep[j] 0) u (to.getD keep[j] 0) p):RowAt n xs low keep i l u to (row.set j p) (j+1):=by
 intro m hm hmj;rw[getD_set' _ _ _ _ _ (by omega)]
 by_cases e:j=m
 · subst e; rw[if_pos rfl]; exact⟨h1,h2⟩
 · rw[if_neg e]; exact h m hm (by omega)
end
def emptyT:TabD:=⟨[],[],[]⟩
def KeepOk (n:Int) (keep:List Int):Prop:=(∀ v∈keep,0≤v∧v<n)∧keep.Nodup
def ProjR (n:Int) (xs:List IneqD) (keep:List Int) (t:TabD) (er:Int):Prop:=
 (150<keep.length∧t=emptyT∧er=3) ∨
 (keep.length≤150∧∃ a core e1,SolveR n [] xs a core e1 ∧
   ((e1≠0∧t=emptyT∧er=e1)∨(e1=0∧¬ KeepOk n keep∧t=emptyT∧er=2) ∨
    (e1=0∧KeepOk n keep∧er=0∧ProjE n.toNat xs a (keep.map Int.toNat) t)))
def ProjPost (n:Int) (xs:List IneqD) (keep:List Int) (w:World) (e:Ending) (w':World):Prop:=
 ∃ v t er,e=.returned (.tuple #[v,.int .i64 er])∧TabV w' w'.heap.size v t∧ProjR n xs keep t er∧Below w.heap.size w w'
def FrT (B0:Nat) (v:Value):Prop:=∀ a b A n c,v=.agg #[a,b,.slice A n c]→∀ ad,A=some ad→B0≤ad.block
theorem FrT.nil (B0:Nat):FrT B0 (.agg #[.slice none 0 0,.slice none 0 0,.slice none 0 0]):=fun a b A n c e ad ea=>by
 subst ea;simp at e
theorem FrT.of {B0:Nat} {a b:Value} {A:Option Addr} {n c:Nat} (h:∀ ad,A=some ad→B0≤ad.block):FrT B0 (.agg #[a,b,.slice A n c]):=fun a' b' A' n' c' e ad ea=>by
 simp only[Value.agg.injEq,Array.mk.injEq,List.cons.injEq,Value.slice.injEq] at e;exact h ad (e.2.2.1.1.trans ea)
theorem ownsRow_fr {w:World} {base:Nat} {e:TypeId} {size n c m:Nat} {A:Option Addr} {xs:List Value} (h:w.ownsRow base e size (.slice A n c) m xs):∀ ad,A=some ad→base≤ad.block:=fun ad ea=>by
 subst ea
 rcases h.2 with ⟨q,_⟩ | ⟨g,cap,cur,q,h2,_⟩
 · cases q
 · cases q
   exact h2
def ProjPostF (n:Int) (xs:List IneqD) (keep:List Int) (w:World) (e:Ending) (w':World):Prop:=
 ∃ v t er,e=.returned (.tuple #[v,.int .i64 er])∧TabV w' w'.heap.size v t∧ProjR n xs keep t er∧Below w.heap.size w w'∧FrT w.heap.size v
theorem ProjPostF.post {n:Int} {xs:List IneqD} {keep:List Int} {w w':World} {e:Ending} (h:ProjPostF n xs keep w e w'):ProjPost n xs keep w e w':=by
 obtain⟨v,t,er,h1,h2,h3,h4,_⟩:=h;exact⟨v,t,er,h1,h2,h3,h4⟩
theorem MssV.nil {w:World} {B:Nat}:MssV w B none 0 0 []:=⟨rfl,Nat.le_refl _,Nat.zero_le _,fun h=>absurd h (Nat.lt_irrefl _)⟩
theorem TabV.empty (w:World) (B:Nat):TabV w B (.agg #[.slice none 0 0,.slice none 0 0,.slice none 0 0]) emptyT:=
 ⟨none,0,none,0,none,0,rfl,RdI.nil,RdI.nil,MssV.nil⟩
def KeepK (n:Int) (keep:List Int) (k:Nat):Prop:=(∀ v∈keep.take k,0≤v∧v<n)∧(keep.take k).Nodup
theorem KeepK.start {n:Int} {keep:List Int}:KeepK n keep 0:=by simp[KeepK]
theorem KeepK.step {n:Int} {keep:List Int} {k:Nat} (h:KeepK n keep k) (hk:k<keep.length) (h1:0≤keep[k]) (h2:keep[k]<n) (h3:(keep.take k).contains keep[k]=false):KeepK n keep (k+1):=by
 unfold KeepK;rw[List.take_succ_eq_append_getElem hk];refine⟨fun v hv=>?_,?_⟩
 · rcases List.mem_append.1 hv with q | q
   · exact h.1 v q
   · rw[List.mem_singleton.1 q]; exact⟨h1,h2⟩
 · rw[List.nodup_append]
   refine⟨h.2,by simp,fun a ha b hb=>?_⟩
   rw[List.mem_singleton.1 hb];rintro rfl;rw[List.contains_iff_mem.2 ha] at h3
   cases h3
theorem KeepK.done {n:Int} {keep:List Int} (h:KeepK n keep keep.length):KeepOk n keep:=by
 unfold KeepK at h;rw[List.take_of_length_le (Nat.le_refl _)] at h;exact h
theorem KeepOk.bad {n:Int} {keep:List Int} {k:Nat} (hk:k<keep.length) (h:keep[k]<0∨n≤keep[k]∨(keep.take k).contains keep[k]=true):¬ KeepOk n keep:=fun hok=>by
 have:=hok.1 _ (List.getElem_mem hk)
 rcases h with h | h | h
 · omega
 · omega
 · have hn:=hok.2
   rw[← List.take_append_drop (k+1) keep,List.take_succ_eq_append_getElem hk,List.append_assoc,List.nodup_append] at hn;exact hn.2.2 _ (List.contains_iff_mem.1 h) keep[k] (List.mem_append_left _ (List.mem_singleton.2 rfl)) rfl
theorem KeepOk.nat {n:Int} {keep:List Int} (h:KeepOk n keep):(keep.map Int.toNat).Nodup:=
 List.pairwise_map.2 (List.Pairwise.imp_of_mem (fun {a b} ha hb hne e=>hne (by have:=h.1 a ha; have:=h.1 b hb; omega)) h.2)
theorem KeepOk.at_ {n:Nat} {keep:List Int} {kn:List Nat} (h:KeepOk (n:Int) keep) (hk:keep.map Int.toNat=kn) (j:Nat) (h1:j<keep.length) (h2:j<kn.length):keep[j]=((kn[j]:Nat):Int)∧kn[j]<n:=by
 have:=h.1 _ (List.getElem_mem h1);subst hk;rw[List.getElem_map];omega
theorem nodup_at {l:List Nat} (h:l.Nodup) {i j:Nat} (hi:i<l.length) (hj:j<l.length) (e:l[i]=l[j]):i=j:=by
 have hp:=List.pairwise_iff_getElem.1 h
 rcases Nat.lt_trichotomy i j with q | q | q
 · exact absurd e (hp i j hi hj q)
 · exact q
 · exact absurd e.symm (hp j i hj hi q)
theorem WebR.more {w:World} {B B' N c:Nat} {A:Option Addr} {xs:List IneqD} (h:WebR w B A N c xs) (hB:B≤B'):WebR w B' A N c xs:=by
 refine⟨h.1,h.2.1,fun hn=>?_⟩;obtain⟨b,off,e,hb,hc⟩:=h.2.2 hn
 refine⟨b,off,e,by omega,fun u hu=>?_⟩
 obtain⟨A',c',h1,h2⟩:=hc u hu;exact⟨A',c',h1,h2.more hB⟩
theorem RdI.take {k:IntKind} {w:World} {B:Nat} {A:Option Addr} {n c:Nat} {us:List Int} (h:RdI k w B A n c us) {i:Nat} (hi:i≤n):RdI k w B A i c (us.take i):=by
 refine⟨⟨by have:=h.len; simp; omega,fun h0=>?_⟩,Nat.le_trans hi h.2.1,h.2.2⟩
 obtain⟨b,off,e,hb,hc⟩:=h.1.2 (by omega);refine⟨b,off,e,hb,fun j u hu=>hc j u ?_⟩;rw[List.map_take,List.getElem?_take] at hu
 split at hu
 · exact hu
 · cases hu
section
variable {w w':World} {base K m:Nat} {v1 v2 v3 v':Value} {low up:List Int} {ps:List (List Int)} {gs:List Nat}
theorem OwnT.setG {g:Nat} (h:OwnT w base K m v1 v2 v3 low up ps gs) (hg:g<base) (hn:g∉gs) (i:Nat) (u:Value):OwnT (w.setCell ⟨g,i,none⟩ u) base K m v1 v2 v3 low up ps gs:=
 ⟨ownsRow_setCell_below h.o1 (a:=⟨g,i,none⟩) hg u,ownsRow_setCell_below h.o2 (a:=⟨g,i,none⟩) hg u,ownsRow_setCell_below h.o3 (a:=⟨g,i,none⟩) hg u,h.pl,fun j hj hj'=>⟨(h.rows j hj hj').1.other (fun e=>hn (by have:=List.getElem_mem hj; rwa [← e] at this)) i u,(h.rows j hj hj').2⟩,h.s12,h.s13,h.s23,h.g1,h.g2,h.g3⟩
end
theorem OwnT.not_mem {w:World} {base K m:Nat} {v1 v2 v3:Value} {low up:List Int} {ps:List (List Int)} {gs:List Nat} {r:Nat} {cs:Array Value} (h:OwnT w base K m v1 v2 v3 low up ps gs) (hr:Blk w r 38 cs):r∉gs:=fun hm=>by
 obtain⟨i,hi,rfl⟩:=List.getElem_of_mem hm
 have h1:=(h.rows i hi (by rw[h.pl]; exact hi)).1
 unfold Blk at h1 hr;rw[hr] at h1;simp at h1
structure JM (w0:World) (B0 base K m:Nat) (gs:List Nat) (ps:List (List Int)) (L:List (Nat × Obj)) (v1 v2 v3:Value) (lo up:List Int) (w:World):Prop where
 own:OwnT w base K m v1 v2 v3 lo up ps gs
 hold:∀ p∈L,w.heap[p.1]?=some p.2
 n1:∀ p∈L,v1.ownBlock≠some p.1
 n2:∀ p∈L,v2.ownBlock≠some p.1
 n3:∀ p∈L,v3.ownBlock≠some p.1
 bel:Below B0 w0 w
 sz:base≤w.heap.size
section
variable {w0 w w':World} {B0 base K m:Nat} {gs:List Nat} {ps:List (List Int)} {L:List (Nat × Obj)} {v1 v2 v3 v':Value} {lo up:List Int} {x:Int}
theorem JM.lt (h:JM w0 B0 base K m gs ps L v1 v2 v3 lo up w):∀ p∈L,p.1<w.heap.size:=fun p hp=>(Array.getElem?_eq_some_iff.1 (h.hold p hp)).1
theorem JM.fresh (h:JM w0 B0 base K m gs ps L v1 v2 v3 lo up w) (hZ:B0≤w0.heap.size) (hb:Below w.heap.size w w'):JM w0 B0 base K m gs ps L v1 v2 v3 lo up w':=
 ⟨h.own.fresh hb,fun p hp=>(hb.block p.1 (h.lt p hp)).trans (h.hold p hp),h.n1,h.n2,h.n3,h.bel.trans (hb.mono (Nat.le_trans hZ h.bel.size)),Nat.le_trans h.sz hb.size⟩
theorem JM.new (h:JM w0 B0 base K m gs ps L v1 v2 v3 lo up w) (hZ:B0≤w0.heap.size) (o:Obj):JM w0 B0 base K m gs ps ((w.heap.size,o) :: L) v1 v2 v3 lo up (w.alloc o):=by
 have hf:=h.fresh hZ (below_box (w:=w) o)
 have hs:∀ {t:TypeId} {v:Value} {n:Nat} {us:List Value},w.ownsRow base t 1 v n us→v.ownBlock≠some w.heap.size:=fun ho e=>by have:=(ownsRow_lt ho e).2; omega
 refine⟨hf.own,fun p hp=>?_,fun p hp=>?_,fun p hp=>?_,fun p hp=>?_,hf.bel,hf.sz⟩
 · rcases qk.1 hp with rfl | hp
   · exact heap_alloc_new w o
   · exact hf.hold p hp
 · rcases qk.1 hp with rfl | hp
   · exact hs h.own.o1
   · exact h.n1 p hp
 · rcases qk.1 hp with rfl | hp
   · exact hs h.own.o2
   · exact h.n2 p hp
 · rcases qk.1 hp with rfl | hp
   · exact hs h.own.o3
   · exact h.n3 p hp
theorem jm_ne {v:Value} (h:∀ p∈L,p.1<w.heap.size) (hn:v'.ownBlock=v.ownBlock∨v'.ownBlock=some w.heap.size) (ho:∀ p∈L,v.ownBlock≠some p.1):∀ p∈L,v'.ownBlock≠some p.1:=fun p hp e=>by
 rcases hn with q | q
 · exact ho p hp (q ▸ e)
 · rw[q] at e
   have:=h p hp
   injection e with e
   omega
theorem JM.app1 (h:JM w0 B0 base K m gs ps L v1 v2 v3 lo up w) (hZ:B0≤w0.heap.size) (hB:B0≤base) (ho:w'.ownsRow base 22 1 v' (lo.length+1) (lo.map (Value.int .u8)++[.int .u8 x])) (hg:w.grownBy w' v1.ownBlock) (hn:v'.ownBlock=v1.ownBlock∨v'.ownBlock=some w.heap.size):JM w0 B0 base K m gs ps L v' v2 v3 (lo++[x]) up w':=
 ⟨h.own.app1 ho hg hn,fun p hp=>(hg.block p.1 (h.lt p hp) fun e=>h.n1 p hp e.symm).trans (h.hold p hp),jm_ne h.lt hn h.n1,h.n2,h.n3,h.bel.grown hg (Nat.le_trans hZ h.bel.size) (fun k e=>Nat.le_trans hB (ownsRow_lt h.own.o1 e).1),Nat.le_trans h.sz hg.size⟩
theorem JM.app2 (h:JM w0 B0 base K m gs ps L v1 v2 v3 lo up w) (hZ:B0≤w0.heap.size) (hB:B0≤base) (ho:w'.ownsRow base 22 1 v' (up.length+1) (up.map (Value.int .u8)++[.int .u8 x])) (hg:w.grownBy w' v2.ownBlock) (hn:v'.ownBlock=v2.ownBlock∨v'.ownBlock=some w.heap.size):JM w0 B0 base K m gs ps L v1 v' v3 lo (up++[x]) w':=
 ⟨h.own.app2 ho hg hn,fun p hp=>(hg.block p.1 (h.lt p hp) fun e=>h.n2 p hp e.symm).trans (h.hold p hp),h.n1,jm_ne h.lt hn h.n2,h.n3,h.bel.grown hg (Nat.le_trans hZ h.bel.size) (fun k e=>Nat.le_trans hB (ownsRow_lt h.own.o2 e).1),Nat.le_trans h.sz hg.size⟩
theorem JM.app3 (h:JM w0 B0 base K m gs ps L v1 v2 v3 lo up w) (hZ:B0≤w0.heap.size) (hB:B0≤base) (hm:m+1=gs.length) {g:Nat} (hgm:gs.getD m 0=g) (ho:w'.ownsRow base 35 1 v' ((gs.take m).length+1) ((gs.take m).map (fun g=>Value.slice (some ⟨g,0,none⟩) K K)++[.slice (some ⟨g,0,none⟩) K K])) (hg:w.grownBy w' v3.ownBlock) (hn:v'.ownBlock=v3.ownBlock∨v'.ownBlock=some w.heap.size):JM w0 B0 base K gs.length gs ps L v1 v2 v' lo up w':=
 ⟨h.own.app3 hm (by rw[hgm]; exact ho) hg hn,fun p hp=>(hg.block p.1 (h.lt p hp) fun e=>h.n3 p hp e.symm).trans (h.hold p hp),h.n1,h.n2,jm_ne h.lt hn h.n3,h.bel.grown hg (Nat.le_trans hZ h.bel.size) (fun k e=>Nat.le_trans hB (ownsRow_lt h.own.o3 e).1),Nat.le_trans h.sz hg.size⟩
theorem JM.end_ {g:Nat} {x1 x2 x3:Value} (h:JM w0 B0 base K m gs ps L v1 v2 v3 lo up w) (hg:g<base) (hB:B0≤g) (hn:g∉gs) (hk:Blk w g 38 #[x1,x2,x3]):
 Blk (((w.setCell ⟨g,0,none⟩ v1).setCell ⟨g,1,none⟩ v2).setCell ⟨g,2,none⟩ v3) g 38 #[v1,v2,v3]∧OwnT (((w.setCell ⟨g,0,none⟩ v1).setCell ⟨g,1,none⟩ v2).setCell ⟨g,2,none⟩ v3) base K m v1 v2 v3 lo up ps gs∧Below B0 w0 (((w.setCell ⟨g,0,none⟩ v1).setCell ⟨g,1,none⟩ v2).setCell ⟨g,2,none⟩ v3):=
 ⟨hk.set3 v1 v2 v3,((h.own.setG hg hn 0 v1).setG hg hn 1 v2).setG hg hn 2 v3,((h.bel.setCell (p:=⟨g,0,none⟩) hB v1).setCell (p:=⟨g,1,none⟩) hB v2).setCell (p:=⟨g,2,none⟩) hB v3⟩
end
theorem rd_blk1 {w:World} {b:Nat} {t:TypeId} {x:Value} (h:Blk w b t #[x]):Rd w (b+1) 1 (some ⟨b,0,none⟩) 1 [x]:=
 ⟨rfl,fun _=>⟨b,0,rfl,Nat.lt_succ_self _,fun j u hu=>by rw[Nat.zero_add,h.cell j]; simpa using hu⟩⟩
theorem mrowInfo:(Tryz.prog.info? 35).map (fun i=>(i.zero,i.size,i.bytes))=some (some (.slice none 0 0),1,24):=by kernel_rfl
end Go.Proofs.YtdmakpmbknindaaGreatDoor
