import Derived.Test.YtgpeijkjmkocgaaDoorM11
set_option linter.unusedVariables false
set_option linter.unusedSimpArgs false
set_option maxHeartbeats 1000000
set_option maxRecDepth 100000
namespace Go.Proofs.YtgpeijkjmkocgaaDoor
open Go.RowKit
theorem idxP_at {X:Type} {p:X→Bool} {l:List X} {i:Nat} (h:i<l.length) (hb:∀ j (h:j<l.length),j<i→p l[j]=false) (hp:p l[i]=true):idxP p l=i:=by
 have:l.findIdx? p=some i:=List.findIdx?_eq_some_iff_getElem.2 ⟨h,hp,fun j hj=>by rw[hb j (by omega) hj]; simp⟩
 unfold idxP;rw[this]
theorem idxP_none {X:Type} {p:X→Bool} {l:List X} (hb:∀ j (h:j<l.length),p l[j]=false):idxP p l = -1:=by
 have:l.findIdx? p=none:=List.findIdx?_eq_none_iff.2 fun x hx=>by
  obtain⟨j,hj,rfl⟩:=List.getElem_of_mem hx;exact hb j hj
 unfold idxP;rw[this]
theorem idxP_cases {X:Type} (p:X→Bool) (l:List X):(idxP p l = -1∧∀ x∈l,p x=false)∨∃ i:Nat,idxP p l=i∧∃ h:i<l.length,p l[i]=true:=by
 unfold idxP
 cases e:l.findIdx? p with
 | none=>exact Or.inl ⟨rfl,List.findIdx?_eq_none_iff.1 e⟩
 | some i=>
   obtain⟨h,hp,_⟩:=List.findIdx?_eq_some_iff_getElem.1 e;exact Or.inr ⟨i,rfl,h,hp⟩
section
variable {w:World} {S:Nat→Prop} {A:Option Addr} {n c:Nat}
theorem datas_at {ds:List DataD} (h:Sl w S encDt 3 ds A n c) (hn:0<n):∃ b off,A=some ⟨b,off,none⟩∧S b∧∀ i (h:i<ds.length),w.cell? ⟨b,off+i * 3,none⟩=some (.string ds[i].name)∧w.cell? ⟨b,off+i * 3+1,none⟩=some (.int .i64 ds[i].params) ∧
  ∃ A' m' c',w.cell? ⟨b,off+i * 3+2,none⟩=some (.slice A' m' c')∧Sl w S encI 1 ds[i].cons A' m' c':=by
 obtain⟨b,off,e,hb,hr⟩:=h.at_ encDt_len hn;refine⟨b,off,e,hb,fun i hi=>?_⟩;have:=hr i hi;unfold encDt at this;simp only[celsIn_cons,celIn_v,sl_iff (enc:=encI) (k:=1) (fun _=>rfl) (by omega)] at this;obtain⟨⟨u0,h0,rfl⟩,⟨u1,h1,rfl⟩,⟨u2,h2,A',m',c',rfl,h3⟩,_⟩:=this;exact⟨h0,h1,A',m',c',h2,h3⟩
theorem cons_at {cs:List ConD} (h:Sl w S encCn 4 cs A n c) (hn:0<n):∃ b off,A=some ⟨b,off,none⟩∧S b∧∀ i (h:i<cs.length),w.cell? ⟨b,off+i * 4,none⟩=some (.string cs[i].name)∧w.cell? ⟨b,off+i * 4+1,none⟩=some (.int .i64 cs[i].data) ∧
  (∃ A' m' c',w.cell? ⟨b,off+i * 4+2,none⟩=some (.slice A' m' c')∧Sl w S encT 5 cs[i].fields A' m' c')∧∃ A' m' c',w.cell? ⟨b,off+i * 4+3,none⟩=some (.slice A' m' c')∧Sl w S encU 1 cs[i].mults A' m' c':=by
 obtain⟨b,off,e,hb,hr⟩:=h.at_ encCn_len hn;refine⟨b,off,e,hb,fun i hi=>?_⟩;have:=hr i hi;unfold encCn at this;simp only[celsIn_cons,celIn_v,sl_iff (enc:=encU) (k:=1) (fun _=>rfl) (by omega),sl_iff (enc:=encT) (k:=5) encT_len (by omega)] at this;obtain⟨⟨u0,h0,rfl⟩,⟨u1,h1,rfl⟩,⟨u2,h2,A',m',c',rfl,h3⟩,⟨u4,h4,A2,m2,c2,rfl,h5⟩,_⟩:=this;exact⟨h0,h1,⟨A',m',c',h2,h3⟩,A2,m2,c2,h4,h5⟩
end
theorem find1_any (gp:Nat) (nm s:ByteArray) (p:Int) (A:Option Addr) (m c:Nat) (r:Bool) (hr:decide (s=nm)=r) (w:World) (hg:w.cell? ⟨gp,0,none⟩=some (.string nm)):
  Calls Tryd.prog 97 (#[.agg #[.string s,.int .i64 p,.slice A m c]]++#[.pointer (some ⟨gp,0,none⟩)]) w fun e w'=>e=.returned (.bool r)∧Below w.heap.size w w':=by
 have hbx:=below_box (w:=w) (Obj.cells #[.string s,.int .i64 p,.slice A m c] 52);have hg1:=(hbx.cell (p:=⟨gp,0,none⟩) (block_lt_of_cell hg)).trans hg
 have hd:(s.toList==nm.toList)=r:=by rw[str_eq]; exact hr
 have Hbx:=qq hbx;clear hbx hg hr
 go_enter Tryd.func97,Tryd.ntmps97
 go_wp2_with fail;go_ret;exact⟨rfl,Hbx.out⟩
theorem con1_any (gp:Nat) (nm s:ByteArray) (p:Int) (A:Option Addr) (m c:Nat) (A2:Option Addr) (m2 c2:Nat) (r:Bool) (hr:decide (s=nm)=r) (w:World) (hg:w.cell? ⟨gp,0,none⟩=some (.string nm)):
  Calls Tryd.prog 57 (#[.agg #[.string s,.int .i64 p,.slice A m c,.slice A2 m2 c2]]++#[.pointer (some ⟨gp,0,none⟩)]) w fun e w'=>e=.returned (.bool r)∧Below w.heap.size w w':=by
 have hbx:=below_box (w:=w) (Obj.cells #[.string s,.int .i64 p,.slice A m c,.slice A2 m2 c2] 58);have hg1:=(hbx.cell (p:=⟨gp,0,none⟩) (block_lt_of_cell hg)).trans hg
 have hd:(s.toList==nm.toList)=r:=by rw[str_eq]; exact hr
 have Hbx:=qq hbx;clear hbx hg hr
 go_enter Tryd.func57,Tryd.ntmps57
 go_wp2_with fail;go_ret;exact⟨rfl,Hbx.out⟩
theorem indexD_any (gp:Nat) (nm:ByteArray) (A:Option Addr) (n c:Nat) (xs:List DataD) (w:World) (S:Nat→Prop) (hS:∀ b,S b→b<w.heap.size) (h:Sl w S encDt 3 xs A n c) (hg:w.cell? ⟨gp,0,none⟩=some (.string nm)):
  Calls Tryd.prog 96 #[.slice A n c,.func (.func 97) #[] #[.pointer (some ⟨gp,0,none⟩)]] w fun e w'=>e=.returned (.int .i64 (idxP (fun x=>decide (x.name=nm)) xs))∧Below w.heap.size w w':=by
 have hlen:=h.len;have m63:n≤9223372036854775807:=h.cap;have hgl:=block_lt_of_cell hg;have H:=qq h;have HS:=qq hS;have HG:=qq hg;clear h hg hS
 go_enter Tryd.func96,Tryd.ntmps96
 go_wp2_with fail
 go_loopg [5,8] n (fun gh _ i wr=>∃ k:Nat,k≤n∧gh=n - k∧i=.int .i64 k∧(∀ j (h:j<xs.length),j<k→decide (xs[j].name=nm)=false)∧Below w.heap.size w wr)
 case atStart=>exact⟨0,Nat.zero_le _,rfl,rfl,fun j _ hj=>absurd hj (by omega),Below.refl _ _⟩
 case round=>
  obtain⟨k,hk,rfl,rfl,hno,hbel⟩:=hrel;have Hno:=qq hno;have Hbel:=qq hbel;clear hno hbel
  by_cases hkn:k<n
  · have d0:decide (k<n)=true:=by simpa using hkn
    have hk':k<xs.length:=by omega
    have hcw:∀ b:Nat,S b→∀ o,wr.cell? ⟨b,o,none⟩=w.cell? ⟨b,o,none⟩:=fun b hb o=>Hbel.out.cell (p:=⟨b,o,none⟩) (HS.out b hb);obtain⟨b,off,rfl,hb,hc⟩:=datas_at H.out (by omega);obtain⟨q0,q1,A',m',c',q2,q3⟩:=hc k hk';have hgr:=(Hbel.out.cell (p:=⟨gp,0,none⟩) hgl).trans HG.out;obtain⟨P,hP⟩:∃ P,decide (xs[k].name=nm)=P:=⟨_,rfl⟩;have HP:=qq hP
    have k1:(0:Int)≤(k:Int):=by omega
    have k2:(k:Int)<n:=by omega
    have hq:=find1_any gp nm xs[k].name xs[k].params A' m' c' P hP wr hgr;obtain⟨s0,hs0⟩:∃ s,xs[k].name=s:=⟨_,rfl⟩;obtain⟨p0,hp0⟩:∃ s,xs[k].params=s:=⟨_,rfl⟩;rw[hs0] at q0 hq;rw[hp0] at q1 hq;have e0:=(hcw b hb _).trans q0;have e1:=(hcw b hb _).trans q1;have e2:=(hcw b hb _).trans q2;clear q0 q1 q2 q3 hs0 hp0;have Hq:=qq hq;clear hc hP hgr hq
    cases P with
    | false=>
      have hno2:∀ j (h:j<xs.length),j<k+1→decide (xs[j].name=nm)=false:=fun j hj hjk=>by
       rcases Nat.lt_or_ge j k with h | h
       · exact Hno.out j hj h
       · obtain rfl:j=k:=by omega
         exact HP.out
      have Hno2:=qq hno2;clear hno2 hcw;go_wp2_with fail
      refine Hq.out.mono ?_; rintro e w1 ⟨rfl,hb1⟩
      have Hb1:=qq (Hbel.out.trans (hb1.mono Hbel.out.size));clear hb1;go_wp2_with fail;go_roundg (n - (k+1))
      case measure=>omega
      case rel=>exact⟨k+1,by omega,rfl,by go_num,Hno2.out,Hb1.out⟩
    | true=>
      have HF:Hid ((k:Int)=idxP (fun x=>decide (x.name=nm)) xs):=qq (idxP_at hk' Hno.out HP.out).symm;clear hcw;go_wp2_with fail
      refine Hq.out.mono ?_; rintro e w1 ⟨rfl,hb1⟩
      have Hb1:=qq (Hbel.out.trans (hb1.mono Hbel.out.size));clear hb1;go_wp2_with fail;go_ret;exact⟨ret_int HF.out,Hb1.out⟩
  · have d0:decide (k<n)=false:=by simpa using hkn
    have HF:Hid (-1=idxP (fun x=>decide (x.name=nm)) xs):=qq (idxP_none (fun j hj=>Hno.out j hj (by omega))).symm;go_wp2_with fail;go_ret;exact⟨ret_int HF.out,Hbel.out⟩
theorem indexC_any (gp:Nat) (nm:ByteArray) (A:Option Addr) (n c:Nat) (xs:List ConD) (w:World) (S:Nat→Prop) (hS:∀ b,S b→b<w.heap.size) (h:Sl w S encCn 4 xs A n c) (hg:w.cell? ⟨gp,0,none⟩=some (.string nm)):
  Calls Tryd.prog 56 #[.slice A n c,.func (.func 57) #[] #[.pointer (some ⟨gp,0,none⟩)]] w fun e w'=>e=.returned (.int .i64 (idxP (fun x=>decide (x.name=nm)) xs))∧Below w.heap.size w w':=by
 have hlen:=h.len;have m63:n≤9223372036854775807:=h.cap;have hgl:=block_lt_of_cell hg;have H:=qq h;have HS:=qq hS;have HG:=qq hg;clear h hg hS
 go_enter Tryd.func56,Tryd.ntmps56
 go_wp2_with fail
 go_loopg [5,8] n (fun gh _ i wr=>∃ k:Nat,k≤n∧gh=n - k∧i=.int .i64 k∧(∀ j (h:j<xs.length),j<k→decide (xs[j].name=nm)=false)∧Below w.heap.size w wr)
 case atStart=>exact⟨0,Nat.zero_le _,rfl,rfl,fun j _ hj=>absurd hj (by omega),Below.refl _ _⟩
 case round=>
  obtain⟨k,hk,rfl,rfl,hno,hbel⟩:=hrel;have Hno:=qq hno;have Hbel:=qq hbel;clear hno hbel
  by_cases hkn:k<n
  · have d0:decide (k<n)=true:=by simpa using hkn
    have hk':k<xs.length:=by omega
    have hcw:∀ b:Nat,S b→∀ o,wr.cell? ⟨b,o,none⟩=w.cell? ⟨b,o,none⟩:=fun b hb o=>Hbel.out.cell (p:=⟨b,o,none⟩) (HS.out b hb);obtain⟨b,off,rfl,hb,hc⟩:=cons_at H.out (by omega);obtain⟨q0,q1,⟨A',m',c',q2,q3⟩,A2,m2,c2,q4,q5⟩:=hc k hk';have hgr:=(Hbel.out.cell (p:=⟨gp,0,none⟩) hgl).trans HG.out;obtain⟨P,hP⟩:∃ P,decide (xs[k].name=nm)=P:=⟨_,rfl⟩;have HP:=qq hP
    have k1:(0:Int)≤(k:Int):=by omega
    have k2:(k:Int)<n:=by omega
    have hq:=con1_any gp nm xs[k].name xs[k].data A' m' c' A2 m2 c2 P hP wr hgr;obtain⟨s0,hs0⟩:∃ s,xs[k].name=s:=⟨_,rfl⟩;obtain⟨p0,hp0⟩:∃ s,xs[k].data=s:=⟨_,rfl⟩;rw[hs0] at q0 hq;rw[hp0] at q1 hq;have e0:=(hcw b hb _).trans q0;have e1:=(hcw b hb _).trans q1;have e2:=(hcw b hb _).trans q2;have e3:=(hcw b hb _).trans q4;clear q0 q1 q2 q3 q4 q5 hs0 hp0;have Hq:=qq hq;clear hc hP hgr hq
    cases P with
    | false=>
      have hno2:∀ j (h:j<xs.length),j<k+1→decide (xs[j].name=nm)=false:=fun j hj hjk=>by
       rcases Nat.lt_or_ge j k with h | h
       · exact Hno.out j hj h
       · obtain rfl:j=k:=by omega
         exact HP.out
      have Hno2:=qq hno2;clear hno2 hcw;go_wp2_with fail
      refine Hq.out.mono ?_; rintro e w1 ⟨rfl,hb1⟩
      have Hb1:=qq (Hbel.out.trans (hb1.mono Hbel.out.size));clear hb1;go_wp2_with fail;go_roundg (n - (k+1))
      case measure=>omega
      case rel=>exact⟨k+1,by omega,rfl,by go_num,Hno2.out,Hb1.out⟩
    | true=>
      have HF:Hid ((k:Int)=idxP (fun x=>decide (x.name=nm)) xs):=qq (idxP_at hk' Hno.out HP.out).symm;clear hcw;go_wp2_with fail
      refine Hq.out.mono ?_; rintro e w1 ⟨rfl,hb1⟩
      have Hb1:=qq (Hbel.out.trans (hb1.mono Hbel.out.size));clear hb1;go_wp2_with fail;go_ret;exact⟨ret_int HF.out,Hb1.out⟩
  · have d0:decide (k<n)=false:=by simpa using hkn
    have HF:Hid (-1=idxP (fun x=>decide (x.name=nm)) xs):=qq (idxP_none (fun j hj=>Hno.out j hj (by omega))).symm;go_wp2_with fail;go_ret;exact⟨ret_int HF.out,Hbel.out⟩
theorem find_any (g:Nat) (A:Option Addr) (n c:Nat) (a1:Value) (d:DiagD) (ds:List DataD) (nm:ByteArray) (w:World) (S:Nat→Prop) (hS:∀ b,S b→b<w.heap.size) (h:Sl w S encDt 3 ds A n c) (hk:Blk w g 91 (mkC (.slice A n c) a1 d)):
  Calls Tryd.prog 69 #[.pointer (some ⟨g,0,none⟩),.string nm] w fun e w'=>e=.returned (.int .i64 (idxD ds nm))∧Below w.heap.size w w':=by
 have hbx:=below_box (w:=w) (Obj.cells #[.string nm] 9);have hz:=blk_new w #[.string nm] 9;have c0:(w.alloc (Obj.cells #[.string nm] 9)).cell? ⟨g,0,none⟩=some (.slice A n c):=(hk.below hbx hk.lt).cell 0;have hg:(w.alloc (Obj.cells #[.string nm] 9)).cell? ⟨w.heap.size,0,none⟩=some (.string nm):=hz.cell 0;have hq:=indexD_any w.heap.size nm A n c ds _ S (fun b hb=>Nat.lt_of_lt_of_le (hS b hb) hbx.size) (h.keep (fun _ h=>h) fun p hp=>hbx.cell (hS _ hp)) hg;have e:idxP (fun x=>decide (x.name=nm)) ds=idxD ds nm:=rfl;rw[e] at hq;have Hq:=qq hq;have Hbx:=qq hbx;clear hbx hz hq hS h hk e hg
 go_enter Tryd.func69,Tryd.ntmps69
 go_wp2_with fail
 refine Hq.out.mono ?_; rintro e w1 ⟨rfl,hb1⟩
 have Hb:=qq (Hbx.out.trans (hb1.mono Hbx.out.size));clear hb1 c0;go_wp2_with fail;go_ret;exact⟨rfl,Hb.out⟩
structure SigR (w:World) (S:Nat→Prop) (s:SigD) (A:Option Addr) (n c:Nat) (A2:Option Addr) (n2 c2:Nat):Prop where
 datas:Sl w S encDt 3 s.datas A n c
 cons:Sl w S encCn 4 s.cons A2 n2 c2
theorem SigR.keep {w w':World} {S S':Nat→Prop} {s:SigD} {A:Option Addr} {n c:Nat} {A2:Option Addr} {n2 c2:Nat} (h:SigR w S s A n c A2 n2 c2) (hS:∀ b,S b→S' b) (hk:∀ p:Addr,S p.block→w'.cell? p=w.cell? p):SigR w' S' s A n c A2 n2 c2:=⟨h.datas.keep hS hk,h.cons.keep hS hk⟩
theorem SigR.fresh {w w':World} {s:SigD} {A:Option Addr} {n c:Nat} {A2:Option Addr} {n2 c2:Nat} (h:SigR w (Lt w.heap.size) s A n c A2 n2 c2) (hb:Below w.heap.size w w'):SigR w' (Lt w'.heap.size) s A n c A2 n2 c2:=⟨h.datas.fresh hb,h.cons.fresh hb⟩
theorem dataCon_any (A:Option Addr) (n c:Nat) (A2:Option Addr) (n2 c2:Nat) (s:SigD) (nm:ByteArray) (w:World) (S:Nat→Prop) (hS:∀ b,S b→b<w.heap.size) (h:Sl w S encCn 4 s.cons A2 n2 c2):
  Calls Tryd.prog 23 #[.agg #[.slice A n c,.slice A2 n2 c2],.string nm] w fun e w'=>e=.returned (.tuple #[.int .i64 (max (idxC s.cons nm) 0),.bool (decide (idxC s.cons nm≥0))])∧Below w.heap.size w w':=by
 have hmx:=@run_max2 Tryd.prog;obtain⟨w1,hw1⟩:∃ x,w.alloc (Obj.cells #[.slice A n c,.slice A2 n2 c2] 25)=x:=⟨_,rfl⟩;have hb1:=below_box (w:=w) (Obj.cells #[.slice A n c,.slice A2 n2 c2] 25);have hz1:=blk_new w #[.slice A n c,.slice A2 n2 c2] 25
 have hs1:w1.heap.size=w.heap.size+1:=by rw[← hw1]; simp
 rw[hw1] at hb1 hz1;obtain⟨w2,hw2⟩:∃ x,w1.alloc (Obj.cells #[.string nm] 9)=x:=⟨_,rfl⟩;have hb2:=below_box (w:=w1) (Obj.cells #[.string nm] 9);have hz2:=blk_new w1 #[.string nm] 9;rw[hw2] at hb2 hz2;rw[hs1] at hz2;have hb:=hb1.trans (hb2.mono hb1.size);have c1:w2.cell? ⟨w.heap.size,1,none⟩=some (.slice A2 n2 c2):=(hz1.below hb2 hz1.lt).cell 1;have hg:w2.cell? ⟨w.heap.size+1,0,none⟩=some (.string nm):=hz2.cell 0;have hq:=indexC_any (w.heap.size+1) nm A2 n2 c2 s.cons w2 S (fun b hb'=>Nat.lt_of_lt_of_le (hS b hb') hb.size) (h.keep (fun _ h=>h) fun p hp=>hb.cell (hS _ hp)) hg;have e:idxP (fun x=>decide (x.name=nm)) s.cons=idxC s.cons nm:=rfl;rw[e] at hq;obtain⟨z,hz⟩:∃ z,idxC s.cons nm=z:=⟨_,rfl⟩;rw[hz] at hq ⊢;have Hq:=qq hq;have Hb:=qq hb;have H1:=qq hw1;have H2:=qq hw2;clear hb1 hb2 hz1 hz2 hq hS h e hg hb hw1 hw2 hs1 hz
 go_enter Tryd.func23,Tryd.ntmps23
 go_upto_region 1 with fail;rw[H1.out,H2.out];go_wp2_with fail
 refine Hq.out.mono ?_; rintro e w3 ⟨rfl,hb3⟩
 have HbF:=qq (Hb.out.trans (hb3.mono Hb.out.size));clear hb3 c1;go_wp2_with fail;exact bodyPost_ret (v:=.tuple #[.int .i64 (max z 0),.bool (decide (z≥0))]) (by simp[results,Tryd.results23,go_sem]) rfl ⟨rfl,HbF.out⟩
theorem rd_newk (w:World) (cs:List Value) (k:Nat) (hk:cs.length=k) (t:TypeId):Rd (w.alloc (Obj.cells cs.toArray t)) (w.heap.size+1) k (some ⟨w.heap.size,0,none⟩) 1 cs:=
 ⟨by rw[hk,Nat.one_mul],fun _=>⟨w.heap.size,0,rfl,Nat.lt_succ_self _,fun j u hu=>by rw[Nat.zero_add,World.cell?_alloc_new]; simpa using hu⟩⟩
theorem dataInfo:(Tryd.prog.info? 52).map (fun i=>(i.zero,i.size,i.bytes))=some (some (.agg #[.string ByteArray.empty,.int .i64 0,.slice none 0 0]),3,48):=by kernel_rfl
structure ButR (g:Nat) (row:Option Nat) (w w':World):Prop where
 os:w'.os=w.os
 tape:w'.tape=w.tape
 output:w'.output=w.output
 size:w.heap.size≤w'.heap.size
 block:∀ k,k<w.heap.size→k≠g→some k≠row→w'.heap[k]?=w.heap[k]?
section
variable {g:Nat} {row:Option Nat} {w w1 w':World}
theorem ButR.of (h:Below w.heap.size w w1) (hg:w1.grownBy w' row) (i:Nat) (u:Value):ButR g row w (w'.setCell ⟨g,i,none⟩ u):=
 ⟨hg.os.trans h.os,hg.tape.trans h.tape,hg.output.trans h.output,by rw[World.size_setCell]; exact Nat.le_trans h.size hg.size,fun k hk hne hr=>(Below.heap_setCell _ _ _ _ hne).trans ((hg.block k (Nat.lt_of_lt_of_le hk h.size) hr).trans (h.block k hk))⟩
end
theorem data_any (g base:Nat) (R:Nat→Prop) (s:SigD) (vd vc:Value) (vs:List Value) (d:DiagD) (name:ByteArray) (params:Int) (w:World) (hk:Blk w g 91 (mkC vd vc d)) (hm:SigM w base R s vd vc vs) (hg:¬ RowB vd vc vs g) (hR:R g) (hn:s.datas.length≤1000000) (hb:base≤w.heap.size):
  Calls Tryd.prog 47 #[.pointer (some ⟨g,0,none⟩),.string name,.int .i64 params] w fun e w'=>e=.returned (.tuple #[])∧∃ vd',Blk w' g 91 (mkC vd' vc d)∧SigM w' base R ⟨s.datas++[⟨name,params,[]⟩],s.cons⟩ vd' vc (vs++[.slice none 0 0])∧ButR g vd.ownBlock w w'∧(vd'.ownBlock=vd.ownBlock∨∃ b,vd'.ownBlock=some b∧w.heap.size≤b):=by
 obtain⟨A,c,rfl⟩:=ownsRow_form hm.od;obtain⟨i0,hi0,hz0,hz1,hz2⟩:=info_parts dataInfo;have hbx:=below_box (w:=w) (Obj.cells #[.string name,.int .i64 params,.slice none 0 0] 52)
 have h63:s.datas.length≤9223372036854775807:=by omega
 have x0:w.cell? ⟨g,0,none⟩=some (.slice A s.datas.length c):=hk.cell 0;have hmx:=hm.below hbx;have hkx:=hk.below hbx hk.lt;have Hm:=qq hmx;have Hk:=qq hkx;have Hb:=qq hbx;have Hrd:=qq (rd_newk w [.string name,.int .i64 params,.slice none 0 0] 3 rfl 52);have hgo:some g≠(Value.slice A s.datas.length c).ownBlock:=fun e=>hg (Or.inl e.symm);have hgw:=hk.lt;clear hk hm hbx hmx hkx
 go_enter Tryd.func47,Tryd.ntmps47
 go_wp2_with (at_builtin; refine wpList_append_rd _ rfl (.tmp 11) (.tmp 15) 22 rfl base 52 i0 _ 3 48 Tryd.underlying22 hi0 hz0 hz1 hz2 rfl (by omega) (.slice A s.datas.length c) s.datas.length (dCells s.datas vs) rfl Hm.out.od (w.heap.size+1) (some ⟨w.heap.size,0,none⟩) 1 1 [.string name,.int .i64 params,.slice none 0 0] rfl Hrd.out (by intro u hu; simp at hu; rcases hu with rfl | rfl | rfl <;> rfl) (by unfold maxLen; omega) (by omega) (by simp; omega) ?_; intro v7 w7 ho7 hg7 hat7; obtain⟨A7,c7,rfl⟩:=ownsRow_form ho7; have hk7:=Hk.out.grown hg7 hgo; have f0:=hk7.frozen 0; have x0:w7.cell? ⟨g,0,none⟩=some (.slice A s.datas.length c):=hk7.cell 0)
 have hs7:=Hm.out.data ho7 hg7 hat7
 have hg7':¬ RowB (.slice A7 (s.datas.length+1) c7) vc (vs++[.slice none 0 0]) g:=fun h=>by
  rcases h with h | h | ⟨v,hv,h⟩
  · rcases hat7 with q | q
    · exact hg (Or.inl (q ▸ h))
    · rw[q] at h
      injection h with h
      simp at h;omega
  · exact hg (Or.inr (Or.inl h))
  · rcases List.mem_append.1 hv with q | q
    · exact hg (Or.inr (Or.inr ⟨v,q,h⟩))
    · rw[List.mem_singleton.1 q] at h
      cases h
 have hs8:=hs7.setR (p:=⟨g,0,none⟩) hg7' hR (.slice A7 (s.datas.length+1) c7);have hk8:=hk7.set_ 0 (.slice A7 (s.datas.length+1) c7);have hb8:=ButR.of Hb.out hg7 0 (.slice A7 (s.datas.length+1) c7) (g:=g)
 have ht8:(Value.slice A7 (s.datas.length+1) c7).ownBlock=(Value.slice A s.datas.length c).ownBlock∨∃ b,(Value.slice A7 (s.datas.length+1) c7).ownBlock=some b∧w.heap.size≤b:=hat7.imp id fun e=>⟨_,e,by simp⟩
 have hr:=And.intro hk8 (And.intro hs8 (And.intro hb8 ht8));have Hr:=qq hr;clear hs7 hs8 hk8 hb8 ht8 hr x0 f0 hk7 ho7 hg7 hat7;go_wp2_with fail
 go_end0
 exact⟨rfl,_,Hr.out⟩
end Go.Proofs.YtgpeijkjmkocgaaDoor
