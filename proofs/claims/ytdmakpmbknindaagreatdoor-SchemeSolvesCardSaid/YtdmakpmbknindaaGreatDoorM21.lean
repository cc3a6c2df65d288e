import Derived.Test.YtdmakpmbknindaaGreatDoorM20
import Derived.Lib.RowBridge
set_option linter.unusedVariables false
set_option linter.unusedSimpArgs false
set_option maxHeartbeats 1000000
set_option maxRecDepth 100000
namespace Go.Proofs.YtdmakpmbknindaaGreatDoor
open Go.RowKit
def FunR (B b:Nat) (nm:Value) (l T0 T:List UInt8) (W:World) (g:Nat) (i:Value) (wr:World):Prop:=
 (g=2∧i=.int .i64 0∧wr=W)∨(g=1∧i=.int .i64 1∧WrOut B b nm (Lib.byteCells (l++T0)) W wr)∨(g=0∧i=.int .i64 2∧WrOut B b nm (Lib.byteCells (l++T)) W wr)
theorem mark_num (v:Int):((((⟨#[32,45]⟩:ByteArray)++(⟨#[109]⟩++numT v))++⟨#[62,32]⟩).data.toList)=txMark v 0:=by
 unfold txMark numT;rw[if_pos rfl];simp
theorem mark_one (v:Int) {c:Int} (h:c≠0):((((⟨#[32,45]⟩:ByteArray)++mtext c)++⟨#[62,32]⟩).data.toList)=txMark v c:=by
 unfold txMark;rw[if_neg h];simp
theorem put_fun {w0:World} {b:Nat} {nm:Value} {ws:List ByteArray} (n v c:Int) (x0 x1:TyD) (A:Option Addr) (m cp:Nat) (ht:Tab w0) (hm:isB c v=true) (hl:TysV w0 w0.heap.size A m cp [x0,x1])
 (hp:∀ x∈[x0,x1],∀ A m cp,TysV w0 w0.heap.size A m cp x.l→PutAt w0 b nm ws x A m cp):PutAt w0 b nm ws (.mk 7 n v c [x0,x1]) A m cp:=by
 intro w l hbel hw hlen;show Calls Tryz.prog 132 #[.pointer (some ⟨b,0,none⟩),.agg #[.int .u8 7,.int .i64 n,.int .i64 v,.int .u8 c,.slice A m cp]] w _;have hbx:=below_box (w:=w) (Obj.cells #[.int .u8 7,.int .i64 n,.int .i64 v,.int .u8 c,.slice A m cp] 27);have hz:=blk_new w #[.int .u8 7,.int .i64 n,.int .i64 v,.int .u8 c,.slice A m cp] 27;have hw1:=hw.alloc (Obj.cells #[.int .u8 7,.int .i64 n,.int .i64 v,.int .u8 c,.slice A m cp] 27)
 have hne:some w.heap.size≠some b:=by have:=hw.lt; simp; omega
 have hzl:=hz.lt;obtain⟨W,hW⟩:∃ W,w.alloc (Obj.cells #[.int .u8 7,.int .i64 n,.int .i64 v,.int .u8 c,.slice A m cp] 27)=W:=⟨_,rfl⟩;rw[hW] at hbx hz hw1 hzl;have hbel1:=hbel.trans (hbx.mono hbel.size);have HW:=qq hW;have Hw1:=qq hw1;have Hbx:=qq hbx;have Hz:=qq hz;have Hlen:=qq hlen;have hB:=hbel.size;have hB1:=hbel1.size;have Hb1:=qq hbel1;clear hW hw1 hbx hbel1 hbel hw hlen;obtain rfl:m=2:=hl.len.symm
 have htx:txB ws (.mk 7 n v c [x0,x1])=txPar (x0.k==7) (txB ws x0)++(txMark v c++txPar false (txB ws x1)):=by
  rw[txB_eq];show txB.funL ws (txMark v c) 0 [x0,x1]=_;simp[txB.funL,txPar]
 obtain⟨T0,hT0⟩:∃ T,txPar (x0.k==7) (txB ws x0)=T:=⟨_,rfl⟩;obtain⟨T1,hT1⟩:∃ T,txPar false (txB ws x1)=T:=⟨_,rfl⟩;obtain⟨M,hM⟩:∃ T,txMark v c=T:=⟨_,rfl⟩;rw[htx,hT0,hT1,hM] at Hlen ⊢;have hlen:=Hlen.out;rw[List.length_append,List.length_append] at hlen;have HT0:=qq hT0;have HT1:=qq hT1;have HM:=qq hM;have HL:=qq hl;have Hp:=qq hp;have Hm:=qq hm;have Ht:=qq ht;have z0:=Hz.out.cell 0;have z4:=Hz.out.cell 4;clear hT0 hT1 hM htx hl hp hm ht
 go_enter Tryz.func132,Tryz.ntmps132
 go_wp2_with fail;rw[HW.out];go_wp2_with fail;clear z0 z4
 go_loopg [105] 2 (fun g i wr=>FunR w0.heap.size b nm l T0 (T0++(M++T1)) W g i wr)
 case atStart=>exact .inl ⟨rfl,rfl,rfl⟩
 case round=>
  rcases hrel with ⟨rfl,rfl,rfl⟩ | ⟨rfl,rfl,hq⟩ | ⟨rfl,rfl,hq⟩
  · obtain⟨bb,off,rfl,hbb,hc⟩:=HL.out.at_ (by omega)
    obtain⟨e0',e1',e2',e3',Ax,mx,cx,e4',hx⟩:=tyAt_iff.1 (hc 0 (by simp));have hlt:bb<w0.heap.size:=hbb;have hcW:∀ j,wr.cell? ⟨bb,j,none⟩=w0.cell? ⟨bb,j,none⟩:=fun j=>Hb1.out.cell (p:=⟨bb,j,none⟩) hlt;have e0:=(hcW _).trans e0';have e1:=(hcW _).trans e1';have e2:=(hcW _).trans e2';have e3:=(hcW _).trans e3';have e4:=(hcW _).trans e4';simp only[qe,Nat.zero_mul,Nat.add_zero] at e0 e1 e2 e3 e4 hx;have hbA:=below_box (w:=wr) (Obj.cells #[.int .u8 x0.k,.int .i64 x0.n,.int .i64 x0.v,.int .u8 x0.c,.slice Ax mx cx] 27)
    have hin:=in_any (Hp.out x0 (by simp) Ax mx cx hx) (x0.k==7) _ l (Hb1.out.trans (hbA.mono hB1)) (Hw1.out.below hbA) (by rw[HT0.out]; omega)
    rw[HT0.out] at hin;have Hin:=qq hin;have HbA:=qq hbA;clear e0' e1' e2' e3' e4' hcW hc hin hbA hx;obtain⟨kk,hkk⟩:∃ r,(x0.k==7)=r:=⟨_,rfl⟩;rw[hkk] at Hin;go_wp2_with fail;refine Hin.out.mono ?_;rintro e w2 ⟨rfl,h2⟩;go_wp2_with fail;go_roundg 1
    case measure=>omega
    case rel=>exact .inr (.inl ⟨rfl,by go_num,h2.behind HbA.out hB1⟩)
  · have hbw:=Hb1.out.trans hq.2.1
    have hzr:=Hz.out.others hq.2.2 hne (by decide);obtain⟨bb,off,rfl,hbb,hc⟩:=HL.out.at_ (by omega);obtain⟨e0',e1',e2',e3',Ax,mx,cx,e4',hx⟩:=tyAt_iff.1 (hc 1 (by simp));have hcW:∀ j,wr.cell? ⟨bb,j,none⟩=w0.cell? ⟨bb,j,none⟩:=fun j=>hbw.cell (p:=⟨bb,j,none⟩) hbb;have e0:=(hcW _).trans e0';have e1:=(hcW _).trans e1';have e2:=(hcW _).trans e2';have e3:=(hcW _).trans e3';have e4:=(hcW _).trans e4';simp only[qe,qf,Nat.one_mul] at e0 e1 e2 e3 e4 hx;have hbA:=below_box (w:=wr) (Obj.cells #[.int .u8 x1.k,.int .i64 x1.n,.int .i64 x1.v,.int .u8 x1.c,.slice Ax mx cx] 27);have hnb:=blk_new wr #[.int .u8 x1.k,.int .i64 x1.n,.int .i64 x1.v,.int .u8 x1.c,.slice Ax mx cx] 27
    have hne2:some wr.heap.size≠some b:=by have:=hq.is.lt; simp; omega
    have hz2:=hzr.below hbA hzr.lt;have q2:(wr.alloc (Obj.cells #[.int .u8 x1.k,.int .i64 x1.n,.int .i64 x1.v,.int .u8 x1.c,.slice Ax mx cx] 27)).cell? ⟨w.heap.size,2,none⟩=some (.int .i64 v):=hz2.cell 2
    have hv:0≤v∧v<1048576:=by
     have h:=Hm.out;unfold isB oneB at h;simp only[Bool.or_eq_true,Bool.and_eq_true,beq_iff_eq,decide_eq_true_eq] at h;omega
    have hi:=itoa_any v (by omega) (by omega) _ (Ht.out.below (hbw.trans (hbA.mono hbw.size)));have hnl:(numT v).size≤21:=numT_size _ (by omega) (by omega);have Hi:=qq hi;have HbA:=qq hbA;have Hbw:=qq hbw;have Hnb:=qq hnb;have Hne2:=qq hne2;have Hz2:=qq hz2;have Hpx:=qq (Hp.out x1 (by simp) Ax mx cx hx);have Hw2:=qq hq.is;have Hq:=qq hq;clear e0' e1' e2' e3' e4' hcW hc hbA hx hi hbw hzr hnb hne2 hz2 hq;go_wp2_with fail;refine Hi.out.mono ?_;rintro e w3 ⟨rfl,hb3⟩;have hz3:=Hz2.out.below hb3 Hz2.out.lt;have q3:w3.cell? ⟨w.heap.size,3,none⟩=some (.int .u8 c):=hz3.cell 3
    by_cases hc0:c=0
    · have hmk:=mark_num v
      subst hc0;clear hz3
      have hwS:=wrS ((((⟨#[32,45]⟩:ByteArray)++(⟨#[109]⟩++numT v))++⟨#[62,32]⟩)) ((IsWr.below (Hw2.out.below HbA.out) hb3)) (by rw[hmk,HM.out]; simp only[List.length_append]; omega) (Nat.le_trans (Nat.le_trans Hbw.out.size HbA.out.size) hb3.size)
      rw[hmk,HM.out] at hwS;have HwS:=qq hwS;have hn3:=Hnb.out.below hb3 Hnb.out.lt;have Hn3:=qq hn3;have Hb3:=qq hb3;clear hwS hn3 hb3;go_wp2_with fail;refine HwS.out.mono ?_;rintro e w4 ⟨rfl,h4⟩;have hn4:=Hn3.out.others h4.2.2 Hne2.out (by decide);have y0:=hn4.cell 0;have y1:=hn4.cell 1;have y2:=hn4.cell 2;have y3:=hn4.cell 3;have y4:=hn4.cell 4;have h5:=h4.behind (Hb3.out) (Nat.le_trans Hbw.out.size HbA.out.size)
      have hin:=in_any Hpx.out false w4 (l++T0++M) ((Hbw.out.trans (HbA.out.mono Hbw.out.size)).trans h5.2.1) h4.is (by rw[HT1.out]; simp only[List.length_append]; omega)
      rw[HT1.out] at hin;have Hin:=qq hin;have H5:=qq h5;clear hin h5 hn4 h4 HwS;go_wp2_with fail;refine Hin.out.mono ?_;rintro e w5 ⟨rfl,h6⟩;have H6:=qq h6;clear h6;go_wp2_with fail;go_roundg 0
      case measure=>omega
      case rel=>
       have h7:=(H5.out.trans H6.out).behind HbA.out Hbw.out.size;rw[List.append_assoc,List.append_assoc] at h7
       exact .inr (.inr ⟨rfl,by go_num,Hq.out.trans h7⟩)
    · have hmk:=mark_one v hc0
      have cne:(c==0)=false:=by simp[hc0]
      have hml:=mtext_size c;go_wp2_with fail;refine(text_any c w3).mono ?_;rintro e w6 ⟨rfl,hb6⟩;have hb7:=hb3.trans (hb6.mono hb3.size);clear hb3 hb6 hz3
      have hwS:=wrS ((((⟨#[32,45]⟩:ByteArray)++mtext c)++⟨#[62,32]⟩)) ((IsWr.below (Hw2.out.below HbA.out) hb7)) (by rw[hmk,HM.out]; simp only[List.length_append]; omega) (Nat.le_trans (Nat.le_trans Hbw.out.size HbA.out.size) hb7.size)
      rw[hmk,HM.out] at hwS;have HwS:=qq hwS;have hn3:=Hnb.out.below hb7 Hnb.out.lt;have Hn3:=qq hn3;have Hb3:=qq hb7;clear hwS hn3 hb7;go_wp2_with fail;refine HwS.out.mono ?_;rintro e w4 ⟨rfl,h4⟩;have hn4:=Hn3.out.others h4.2.2 Hne2.out (by decide);have y0:=hn4.cell 0;have y1:=hn4.cell 1;have y2:=hn4.cell 2;have y3:=hn4.cell 3;have y4:=hn4.cell 4;have h5:=h4.behind (Hb3.out) (Nat.le_trans Hbw.out.size HbA.out.size)
      have hin:=in_any Hpx.out false w4 (l++T0++M) ((Hbw.out.trans (HbA.out.mono Hbw.out.size)).trans h5.2.1) h4.is (by rw[HT1.out]; simp only[List.length_append]; omega)
      rw[HT1.out] at hin;have Hin:=qq hin;have H5:=qq h5;clear hin h5 hn4 h4 HwS;go_wp2_with fail;refine Hin.out.mono ?_;rintro e w5 ⟨rfl,h6⟩;have H6:=qq h6;clear h6;go_wp2_with fail;go_roundg 0
      case measure=>omega
      case rel=>
       have h7:=(H5.out.trans H6.out).behind HbA.out Hbw.out.size;rw[List.append_assoc,List.append_assoc] at h7
       exact .inr (.inr ⟨rfl,by go_num,Hq.out.trans h7⟩)
  · go_wp2_with fail
    go_end0
    exact⟨rfl,hq.behind Hbx.out hB⟩
theorem may_facts {t:TyD} (h:mayT t=true):1≤t.k∧t.k≤8∧0≤t.n∧t.n<mostI t.k∧(0≤kidsI t.k→(t.l.length:Int)=kidsI t.k)∧((t.v=0∧t.c=0)∨(t.k=7∧isB t.c t.v=true))∧∀ x∈t.l,mayT x=true:=by
 rw[mayT_eq,Bool.and_eq_true] at h;obtain⟨h1,h2⟩:=h;unfold isN at h1;simp only[Bool.and_eq_true,Bool.or_eq_true,Bool.not_eq_true',Bool.and_eq_false_iff,Bool.not_eq_false',decide_eq_true_eq,decide_eq_false_iff_not] at h1;obtain⟨⟨⟨⟨⟨⟨a1,a2⟩,a3⟩,a4⟩,a5⟩,a6⟩,a7⟩:=h1;refine⟨a1,a2,a3,a4,fun h=>?_,a7,fun x hx=>List.all_eq_true.1 h2 x hx⟩
 rcases a5 with a5 | a5
 · exact absurd h a5
 · exact a5
theorem may_mu {t:TyD} (h:mayT t=true):isB t.c t.v=true:=by
 rcases(may_facts h).2.2.2.2.2.1 with h | h
 · rw[h.1,h.2]; decide
 · exact h.2
theorem may_plain {t:TyD} (h:mayT t=true) (hk:t.k≠7):t.v=0∧t.c=0:=by
 rcases(may_facts h).2.2.2.2.2.1 with h | h
 · exact h
 · exact absurd h.1 hk
theorem may_leaf {t:TyD} (h:mayT t=true) (hk:t.k<6):t.l=[]:=by
 have f:=may_facts h
 have hk0:kidsI t.k=0:=by unfold kidsI; rw[if_neg (by omega),if_neg (by omega),if_neg (by omega)]
 have:=f.2.2.2.2.1 (by omega);rw[hk0] at this;exact List.length_eq_zero_iff.1 (by omega)
theorem may_fun {t:TyD} (h:mayT t=true) (hk:t.k=7):∃ a b,t.l=[a,b]:=by
 have f:=may_facts h
 have hk0:kidsI t.k=2:=by rw[hk]; rfl
 have:=f.2.2.2.2.1 (by omega);rw[hk0] at this
 match hl:t.l,this with
 | [a,b],_=>exact⟨a,b,rfl⟩
 | [],h=>simp at h
 | [_],h=>simp at h
 | _ :: _ :: _ :: _,h=>simp at h; omega
def E1 (r:List UInt8):Prop:=r=[]∨∃ s,r=41 :: s
theorem ty_ext {t u:TyD} (h1:t.k=u.k) (h2:t.n=u.n) (h3:t.v=u.v) (h4:t.c=u.c) (h5:t.l=u.l):t=u:=by
 rw[t.eta,u.eta,h1,h2,h3,h4,h5]
theorem ty_ind {P:TyD→Prop} (h:∀ t,(∀ x∈t.l,P x)→P t) (t:TyD):P t:=by
 have:∀ (N:Nat) (t:TyD),nodes t≤N→P t:=by
  intro N
  induction N with
  | zero=>intro t hN; rw[nodes_eq t] at hN; omega
  | succ N ih=>exact fun t hN=>h t fun x hx=>ih x (by have:=nodes_mem hx; rw[nodes_eq t] at hN; omega)
 exact this _ t (Nat.le_refl _)
def allV:TyD→List Int
 | .mk k n v c l=>(if k=1 then [n] else [])++go l
where go:List TyD→List Int
 | []=>[]
 | t :: r=>allV t++go r
theorem allV_go (l:List TyD):allV.go l=l.flatMap allV:=by
 induction l with
 | nil=>rfl
 | cons t r ih=>rw[allV.go,List.flatMap_cons,ih]
theorem allV_eq (t:TyD):allV t=(if t.k=1 then [t.n] else [])++t.l.flatMap allV:=by
 cases t; rw[allV,allV_go]; rfl
def allM:TyD→List Int
 | .mk k n v c l=>go (decide (k=7)&&decide (c=0)) v 0 l
where go (f:Bool) (v:Int):Nat→List TyD→List Int
 | _,[]=>[]
 | i,t :: r=>((if f&&decide (i=1) then [v] else [])++allM t)++go f v (i+1) r
theorem allM_eq (t:TyD):allM t=allM.go (decide (t.k=7)&&decide (t.c=0)) t.v 0 t.l:=by
 cases t; rw[allM]; rfl
theorem allM_plain (v:Int):∀ (i:Nat) (l:List TyD),allM.go false v i l=l.flatMap allM
 | _,[]=>by rw[allM.go]; rfl
 | i,t :: r=>by rw[allM.go,allM_plain v (i+1) r,List.flatMap_cons]; rfl
theorem allM_snoc (f:Bool) (v:Int):∀ (i:Nat) (a:List TyD) (t:TyD),allM.go f v i (a++[t])=allM.go f v i a++((if f&&decide (i+a.length=1) then [v] else [])++allM t)
 | i,[],t=>by simp[allM.go]
 | i,x :: a,t=>by
   rw[List.cons_append,allM.go,allM_snoc f v (i+1) a t,allM.go,List.length_cons,show i+1+a.length=i+(a.length+1) from by omega]
   simp only[List.append_assoc]
def addN (l:List Int) (n:Int):List Int:=if l.contains n then l else l++[n]
def addAll (l xs:List Int):List Int:=xs.foldl addN l
def varsT (t:TyD):List Int:=addAll [] (allV t)
def multsT (t:TyD):List Int:=addAll [] (allM t)
theorem addAll_append (l a b:List Int):addAll l (a++b)=addAll (addAll l a) b:=by unfold addAll; rw[List.foldl_append]
theorem addN_mem {l:List Int} {n x:Int}:x∈addN l n↔x∈l∨x=n:=by
 unfold addN
 split
 · rename_i h
   rw[List.contains_iff_mem] at h
   constructor
   · exact .inl
   · rintro(h2 | rfl)
     · exact h2
     · exact h
 · simp
theorem addAll_mem {xs:List Int}:∀ {l:List Int} {x:Int},x∈addAll l xs↔x∈l∨x∈xs:=by
 induction xs with
 | nil=>intro l x; simp[addAll]
 | cons a xs ih=>
   intro l x;show x∈addAll (addN l a) xs↔_;rw[ih,addN_mem,qk,or_assoc]
theorem addN_nodup {l:List Int} {n:Int} (h:l.Nodup):(addN l n).Nodup:=by
 unfold addN
 split
 · exact h
 · rename_i h2
   rw[List.contains_iff_mem] at h2;rw[List.nodup_append]
   exact⟨h,by simp,fun a ha b hb=>by rw[List.mem_singleton] at hb; subst hb; rintro rfl; exact h2 ha⟩
theorem addAll_nodup {xs:List Int}:∀ {l:List Int},l.Nodup→(addAll l xs).Nodup:=by
 induction xs with
 | nil=>intro l h; exact h
 | cons a xs ih=>intro l h; exact ih (addN_nodup h)
theorem addN_len (l:List Int) (n:Int):(addN l n).length≤l.length+1:=by unfold addN; split <;> simp
theorem addAll_map {h:Int→Int} {S:Int→Prop} (hinj:∀ a b,S a→S b→h a=h b→a=b):∀ (xs l:List Int),(∀ x∈xs,S x)→(∀ x∈l,S x)→addAll (l.map h) (xs.map h)=(addAll l xs).map h:=by
 intro xs
 induction xs with
 | nil=>intro l _ _; rfl
 | cons a xs ih=>
   intro l hx hl;have ha:=hx a (by simp)
   have e:addN (l.map h) (h a)=(addN l a).map h:=by
    unfold addN
    by_cases hm:a∈l
    · rw[if_pos (List.contains_iff_mem.2 hm),if_pos (List.contains_iff_mem.2 (List.mem_map.2 ⟨a,hm,rfl⟩))]
    · rw[if_neg (fun h=>hm (List.contains_iff_mem.1 h)),if_neg,List.map_append]; rfl
      intro h2;obtain⟨b,hb,e⟩:=List.mem_map.1 (List.contains_iff_mem.1 h2)
      exact hm (by rw[← hinj b a (hl b hb) ha e]; exact hb)
   show addAll (addN (l.map h) (h a)) (xs.map h)=(addAll (addN l a) xs).map h;rw[e];refine ih (addN l a) (fun x hx'=>hx x (List.mem_cons_of_mem _ hx')) fun x hx'=>?_
   rcases addN_mem.1 hx' with h | rfl
   · exact hl x h
   · exact ha
def idxN (l:List Int) (n:Int):Int:=match l.findIdx? (· == n) with
 | some i=>i
 | none => -1
theorem idxN_some {l:List Int} {i:Nat} (h:i<l.length) (hnd:l.Nodup):idxN l l[i]=i:=by
 have:l.findIdx? (· == l[i])=some i:=List.findIdx?_eq_some_iff_getElem.2 ⟨h,by simp,fun j hj=>by
  simp only[beq_iff_eq,Bool.not_eq_true,beq_eq_false_iff_ne,ne_eq];intro e;have:=(List.getElem_inj hnd).1 e
  omega⟩
 unfold idxN;rw[this]
theorem idxN_mem {l:List Int} {n:Int} (h:n∈l):∃ i,∃ hi:i<l.length,idxN l n=i∧l[i]=n:=by
 unfold idxN
 cases e:l.findIdx? (· == n) with
 | none=>
   rw[List.findIdx?_eq_none_iff] at e;have:=e n h;simp at this
 | some i=>
   obtain⟨hi,hp,_⟩:=List.findIdx?_eq_some_iff_getElem.1 e
   exact⟨i,hi,rfl,by simpa using hp⟩
theorem idxN_inj {l:List Int} {a b:Int} (ha:a∈l) (hb:b∈l) (h:idxN l a=idxN l b):a=b:=by
 obtain⟨i,hi,e1,e2⟩:=idxN_mem ha;obtain⟨j,hj,e3,e4⟩:=idxN_mem hb;rw[e1,e3] at h
 obtain rfl:i=j:=by omega
 rw[← e2,e4]
theorem idxN_map {h:Int→Int} {S:Int→Prop} (hinj:∀ a b,S a→S b→h a=h b→a=b) {l:List Int} (hl:∀ x∈l,S x) {n:Int} (hn:n∈l) (hnd:l.Nodup):idxN (l.map h) (h n)=idxN l n:=by
 obtain⟨i,hi,e1,e2⟩:=idxN_mem hn;rw[e1]
 have hnd2:(l.map h).Nodup:=by
  unfold List.Nodup at hnd ⊢;rw[List.pairwise_map];exact hnd.imp_of_mem fun ha hb hne e=>hne (hinj _ _ (hl _ ha) (hl _ hb) e)
 have:=idxN_some (l:=l.map h) (i:=i) (by simpa using hi) hnd2;rw[List.getElem_map,e2] at this;exact this
theorem idx_range {l:List Int} (hnd:l.Nodup):l.map (idxN l)=(List.range l.length).map (fun i:Nat=>(i:Int)):=by
 refine List.ext_getElem (by simp) fun i h1 h2=>?_;simp only[List.length_map] at h1;rw[List.getElem_map,List.getElem_map,idxN_some h1 hnd,List.getElem_range]
section
variable {fv fv':Int→Option TyD} {fm fm':Int→Int × Int}
def plainV (n:Int):TyD:=.mk 1 n 0 0 []
theorem may_var {t:TyD} (h:mayT t=true) (hk:t.k=1):t=plainV t.n:=by
 have p:=may_plain h (by omega);exact ty_ext hk rfl p.1 p.2 (may_leaf h (by omega))
theorem turnT_mk (fv:Int→Option TyD) (fm:Int→Int × Int) (k n v c:Int) (l:List TyD):turnT fv fm (.mk k n v c l)=if k=1 then (fv n).getD (.mk k n v c l) else .mk k n (if k=7∧c=0 then (fm v).1 else v) (if k=7∧c=0 then (fm v).2 else c) (l.map (turnT fv fm)):=turnT_eq fv fm (.mk k n v c l)
theorem turn_turn (fv fv':Int→Option TyD) (fm fm':Int→Int × Int) (t:TyD):turnT fv' fm' (turnT fv fm t)=turnT (fun n=>match fv n with
 | some u=>some (turnT fv' fm' u)
 | none=>fv' n) (fun v=>if (fm v).2=0 then fm' (fm v).1 else fm v) t:=by
 induction t using ty_ind with
 | h t ih=>
   obtain⟨k,n,v,c,l⟩:=t;simp only[TyD.l] at ih;rw[turnT_mk fv fm k n v c l,turnT_mk _ _ k n v c l]
   by_cases hk:k=1
   · rw[if_pos hk,if_pos hk]
     cases h:fv n with
     | some u=>rfl
     | none=>
       show turnT fv' fm' (.mk k n v c l)=(fv' n).getD (.mk k n v c l);rw[turnT_mk,if_pos hk]
   · rw[if_neg hk,if_neg hk,turnT_mk,if_neg hk,List.map_map]
     have hl:l.map (turnT fv' fm' ∘ turnT fv fm)=l.map (turnT (fun n=>match fv n with
   | some u=>some (turnT fv' fm' u)
   | none=>fv' n) (fun v=>if (fm v).2=0 then fm' (fm v).1 else fm v)):=List.map_congr_left fun x hx=>ih x hx
     rw[hl]
     by_cases h7:k=7
     · by_cases hc:c=0
       · by_cases hz:(fm v).2=0
         · simp[h7,hc,hz]
         · simp[h7,hc,hz]
       · simp[h7,hc]
     · simp[h7]
theorem allV_kid {t x:TyD} (hx:x∈t.l) {n:Int} (hn:n∈allV x):n∈allV t:=by
 rw[allV_eq];exact List.mem_append.2 (.inr (List.mem_flatMap.2 ⟨x,hx,hn⟩))
theorem allM_fun {t a b:TyD} (hk:t.k=7) (hl:t.l=[a,b]):allM t=allM a++(if t.c=0 then [t.v] else [])++allM b:=by
 rw[allM_eq,hl,hk];simp only[allM.go,decide_true,Bool.true_and]
 by_cases hc:t.c=0 <;> simp[hc]
theorem allM_not {t:TyD} (hk:t.k≠7):allM t=t.l.flatMap allM:=by
 rw[allM_eq,decide_eq_false hk,Bool.false_and,allM_plain]
theorem allM_kid {t x:TyD} (ht:mayT t=true) (hx:x∈t.l) {n:Int} (hn:n∈allM x):n∈allM t:=by
 by_cases hk:t.k=7
 · obtain⟨a,b,hl⟩:=may_fun ht hk
   rw[allM_fun hk hl];rw[hl] at hx;simp only[qk,List.not_mem_nil,or_false] at hx
   rcases hx with rfl | rfl
   · simp[hn]
   · simp[hn]
 · rw[allM_not hk]
   exact List.mem_flatMap.2 ⟨x,hx,hn⟩
theorem allM_own {t:TyD} (ht:mayT t=true) (hk:t.k=7) (hc:t.c=0):t.v∈allM t:=by
 obtain⟨a,b,hl⟩:=may_fun ht hk;rw[allM_fun hk hl,if_pos hc];simp
theorem allM_nonneg {t:TyD} (ht:mayT t=true):∀ v∈allM t,0≤v∧v<1048576:=by
 revert ht
 induction t using ty_ind with
 | h t ih=>
   intro ht v hv;have f:=may_facts ht
   by_cases hk:t.k=7
   · obtain⟨a,b,hl⟩:=may_fun ht hk
     rw[allM_fun hk hl] at hv;simp only[List.mem_append] at hv
     rcases hv with (hv | hv) | hv
     · exact ih a (by rw[hl]; simp) (f.2.2.2.2.2.2 a (by rw[hl]; simp)) v hv
     · split at hv
       · rename_i hc
         rw[List.mem_singleton] at hv;subst hv;have:=may_mu ht;unfold isB oneB at this;rw[hc] at this
         simpa using this
       · simp at hv
     · exact ih b (by rw[hl]; simp) (f.2.2.2.2.2.2 b (by rw[hl]; simp)) v hv
   · rw[allM_not hk] at hv
     obtain⟨x,hx,hv⟩:=List.mem_flatMap.1 hv;exact ih x hx (f.2.2.2.2.2.2 x hx) v hv
theorem allV_nonneg {t:TyD} (ht:mayT t=true):∀ v∈allV t,0≤v∧v<1048576:=by
 revert ht
 induction t using ty_ind with
 | h t ih=>
   intro ht v hv;have f:=may_facts ht;rw[allV_eq] at hv
   rcases List.mem_append.1 hv with hv | hv
   · split at hv
     · rename_i hk
       rw[List.mem_singleton] at hv;subst hv;have:=f.2.2.2.1;rw[hk] at this;exact⟨f.2.2.1,this⟩
     · simp at hv
   · obtain⟨x,hx,hv⟩:=List.mem_flatMap.1 hv
     exact ih x hx (f.2.2.2.2.2.2 x hx) v hv
theorem turn_congr {t:TyD} (ht:mayT t=true) (hv:∀ n∈allV t,(fv n).getD (plainV n)=(fv' n).getD (plainV n)) (hm:∀ v∈allM t,fm v=fm' v):turnT fv fm t=turnT fv' fm' t:=by
 revert ht hv hm
 induction t using ty_ind with
 | h t ih=>
   intro ht hv hm;rw[turnT_eq fv fm,turnT_eq fv' fm']
   by_cases hk:t.k=1
   · rw[if_pos hk,if_pos hk]
     have:=hv t.n (by rw[allV_eq,if_pos hk]; simp)
     rw[← may_var ht hk] at this;exact this
   · rw[if_neg hk,if_neg hk]
     have f:=may_facts ht;have hl:t.l.map (turnT fv fm)=t.l.map (turnT fv' fm'):=List.map_congr_left fun x hx=>ih x hx (f.2.2.2.2.2.2 x hx) (fun n hn=>hv n (allV_kid hx hn)) (fun v hv=>hm v (allM_kid ht hx hv));rw[hl]
     by_cases h:t.k=7∧t.c=0
     · rw[if_pos h,if_pos h,if_pos h,if_pos h,hm t.v (allM_own ht h.1 h.2)]
     · rw[if_neg h,if_neg h,if_neg h,if_neg h]
theorem may_mk {k n v c:Int} {l:List TyD} (h1:1≤k) (h2:k≤8) (h3:0≤n) (h4:n<mostI k) (h5:0≤kidsI k→(l.length:Int)=kidsI k) (h6:(l.length:Int)≤4) (h7:(v=0∧c=0)∨(k=7∧isB c v=true)) (h8:∀ x∈l,mayT x=true):mayT (.mk k n v c l)=true:=by
 rw[mayT_eq,Bool.and_eq_true];refine⟨?_,List.all_eq_true.2 h8⟩;unfold isN;simp only[Bool.and_eq_true,Bool.or_eq_true,Bool.not_eq_true',Bool.and_eq_false_iff,Bool.not_eq_false',decide_eq_true_eq,decide_eq_false_iff_not];refine⟨⟨⟨⟨⟨⟨h1,h2⟩,h3⟩,h4⟩,?_⟩,h6⟩,h7⟩
 by_cases h:0≤kidsI k
 · exact .inr (h5 h)
 · exact .inl h
theorem turn_may {t:TyD} (ht:mayT t=true) (hv:∀ n∈allV t,∀ u,fv n=some u→mayT u=true) (hm:∀ v∈allM t,isB (fm v).2 (fm v).1=true):mayT (turnT fv fm t)=true:=by
 revert ht hv hm
 induction t using ty_ind with
 | h t ih=>
   intro ht hv hm;have f:=may_facts ht;rw[turnT_eq fv fm]
   by_cases hk:t.k=1
   · rw[if_pos hk]
     cases e:fv t.n with
     | none=>exact ht
     | some u=>exact hv t.n (by rw[allV_eq,if_pos hk]; simp) u e
   · rw[if_neg hk]
     have hlen:=mayT_len ht
     refine may_mk f.1 f.2.1 f.2.2.1 f.2.2.2.1 (by rw[List.length_map]; exact f.2.2.2.2.1) (by rw[List.length_map]; omega) ?_ ?_
     · by_cases h:t.k=7∧t.c=0
       · rw[if_pos h,if_pos h]
         exact .inr ⟨h.1,hm t.v (allM_own ht h.1 h.2)⟩
       · rw[if_neg h,if_neg h]
         exact f.2.2.2.2.2.1
     · intro y hy
       obtain⟨x,hx,rfl⟩:=List.mem_map.1 hy;exact ih x hx (f.2.2.2.2.2.2 x hx) (fun n hn=>hv n (allV_kid hx hn)) (fun v hv=>hm v (allM_kid ht hx hv))
theorem nodesL_map_congr {f g:TyD→TyD}:∀ {l:List TyD},(∀ x∈l,nodes (f x)=nodes (g x))→nodes.nodesL (l.map f)=nodes.nodesL (l.map g)
 | [],_=>rfl
 | x :: l,h=>by
   rw[List.map_cons,List.map_cons,nodes.nodesL,nodes.nodesL,h x (by simp),nodesL_map_congr fun y hy=>h y (List.mem_cons_of_mem _ hy)]
end
end Go.Proofs.YtdmakpmbknindaaGreatDoor
