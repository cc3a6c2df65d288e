import Derived.Test.YtdmakpmbknindaaGreatDoorM10
import Derived.Conc.LoneSelectN
set_option linter.unusedVariables false
set_option linter.unusedSimpArgs false
set_option maxHeartbeats 4000000
set_option maxRecDepth 100000
namespace Go.Proofs.YtdmakpmbknindaaGreatDoor
open Go.RowKit
theorem ready_1 {R:List Nat} {P:Nat→Prop} (x:Nat) (h:R=[x]) (hx:P x):R≠[]∧∀ i∈R,P i:=by
 rw[h]; exact⟨by simp,fun i hi=>by rw[List.mem_singleton.1 hi]; exact hx⟩
theorem ready_2 {R:List Nat} {P:Nat→Prop} (x y:Nat) (h:R=[x,y]) (hx:P x) (hy:P y):R≠[]∧∀ i∈R,P i:=by
 rw[h]
 refine⟨by simp,fun i hi=>?_⟩
 simp only[qk,List.not_mem_nil,or_false] at hi
 rcases hi with rfl | rfl
 · exact hx
 · exact hy
theorem ready_3 {R:List Nat} {P:Nat→Prop} (x y z:Nat) (h:R=[x,y,z]) (hx:P x) (hy:P y) (hz:P z):R≠[]∧∀ i∈R,P i:=by
 rw[h]
 refine⟨by simp,fun i hi=>?_⟩
 simp only[qk,List.not_mem_nil,or_false] at hi
 rcases hi with rfl | rfl | rfl
 · exact hx
 · exact hy
 · exact hz
theorem put_get (a:Act) {d k:Nat} (v:Value) (h:d≠k):(a.put (some d) v).tmps[k]?=a.tmps[k]?:=by
 simp[Act.put,Array.getElem?_setIfInBounds_ne h]
theorem put_new (a:Act) {d:Nat} (v:Value) (h:d<a.tmps.size):(a.put (some d) v).tmps[d]?=some v:=by
 simp[Act.put,h]
theorem put_size (a:Act) (d:Nat) (v:Value):(a.put (some d) v).tmps.size=a.tmps.size:=by simp[Act.put]
structure JT (bn N nl cl c:Nat) (Al:Option Addr) (ad:Addr) (a:Act):Prop where
 sz:a.tmps.size=97
 df:a.defers=[]
 t1:a.tmps[1]?=some (.slice (some ad) N c)
 t2:a.tmps[2]?=some (.slice Al nl cl)
 t3:a.tmps[3]?=some (.pointer (some ⟨bn,0,none⟩))
 t6:a.tmps[6]?=some (.slice none 0 0)
 t7:a.tmps[7]?=some (.slice none 0 0)
 t8:a.tmps[8]?=some (.int .i64 0)
 t45:a.tmps[45]?=some (.slice Al nl cl)
 t46:a.tmps[46]?=some (.slice (some ad) N c)
 t47:a.tmps[47]?=some (.slice (some ad) N c)
 t50:a.tmps[50]?=some (.int .i64 N)
 t52:a.tmps[52]?=some (.int .i64 N)
theorem JT.put {bn N nl cl c:Nat} {Al:Option Addr} {ad:Addr} {a:Act} (h:JT bn N nl cl c Al ad a) (d:Nat) (v:Value) (hd:d∉[1,2,3,6,7,8,45,46,47,50,52]):JT bn N nl cl c Al ad (a.put (some d) v):=by
 simp only[qk,List.not_mem_nil,or_false,not_or] at hd;obtain⟨h1,h2,h3,h6,h7,h8,h45,h46,h47,h50,h52⟩:=hd
 exact⟨by rw[put_size]; exact h.sz,h.df,(put_get a v h1).trans h.t1,(put_get a v h2).trans h.t2,(put_get a v h3).trans h.t3,(put_get a v h6).trans h.t6,(put_get a v h7).trans h.t7,(put_get a v h8).trans h.t8,(put_get a v h45).trans h.t45,(put_get a v h46).trans h.t46,(put_get a v h47).trans h.t47,(put_get a v h50).trans h.t50,(put_get a v h52).trans h.t52⟩
def p3 (w1:World) (N:Nat) (lv:List Int) (I ci:Nat) (a:Act) (w:World):Prop:=a.tmps[48]?=some (.slice (some ⟨I,0,none⟩) N ci)∧w.ownsRow w1.heap.size 22 1 (.slice (some ⟨I,0,none⟩) N ci) N (lv.map (Value.int .u8))∧I<w.heap.size
def p4 (w1:World) (G:Nat) (a:Act) (w:World):Prop:=a.tmps[49]?=some (.slice (some ⟨G,0,none⟩) 1 1)∧w.cell? ⟨G,0,none⟩=some (.int .i64 (-1))∧G<w.heap.size
def p6 (w1:World) (N:Nat) (Y:Nat) (a:Act) (w:World):Prop:=a.tmps[51]?=some (.slice (some ⟨Y,0,none⟩) N N)∧Blk w Y 3 (List.replicate N (Value.int .i64 (-1))).toArray∧w1.heap.size≤Y
def p8 (w1:World) (N:Nat) (F:Nat) (a:Act) (w:World):Prop:=a.tmps[53]?=some (.slice (some ⟨F,0,none⟩) N N)∧Blk w F 30 (List.replicate N (Value.slice none 0 0)).toArray∧w1.heap.size≤F
structure JS (w1:World) (bn N nl cl c:Nat) (Al:Option Addr) (ad:Addr) (lv:List Int) (b3 b4 b6 b8:Bool) (a:Act) (w:World):Prop where
 jt:JT bn N nl cl c Al ad a
 bel:Below w1.heap.size w1 w
 ex:∃ I ci G Y F,(b3=true→p3 w1 N lv I ci a w)∧(b4=true→p4 w1 G a w)∧(b6=true→p6 w1 N Y a w)∧(b8=true→p8 w1 N F a w)∧(b3=true→b6=true→I≠Y)∧(b3=true→b8=true→I≠F)∧(b6=true→b8=true→Y≠F)
section
variable {w1 w w':World} {bn N nl cl c:Nat} {Al:Option Addr} {ad:Addr} {lv:List Int} {b3 b4 b6 b8:Bool} {a:Act} {I ci G Y F:Nat}
theorem p3.on (h:p3 w1 N lv I ci a w) (hb:Below w.heap.size w w') (d:Nat) (v:Value) (hd:d≠48):p3 w1 N lv I ci (a.put (some d) v) w':=⟨(put_get a v hd).trans h.1,ownsRow_beyond h.2.1 hb,Nat.lt_of_lt_of_le h.2.2 hb.size⟩
theorem p4.on (h:p4 w1 G a w) (hb:Below w.heap.size w w') (d:Nat) (v:Value) (hd:d≠49):p4 w1 G (a.put (some d) v) w':=⟨(put_get a v hd).trans h.1,(hb.cell (p:=⟨G,0,none⟩) h.2.2).trans h.2.1,Nat.lt_of_lt_of_le h.2.2 hb.size⟩
theorem p6.on (h:p6 w1 N Y a w) (hb:Below w.heap.size w w') (d:Nat) (v:Value) (hd:d≠51):p6 w1 N Y (a.put (some d) v) w':=⟨(put_get a v hd).trans h.1,h.2.1.below hb h.2.1.lt,h.2.2⟩
theorem p8.on (h:p8 w1 N F a w) (hb:Below w.heap.size w w') (d:Nat) (v:Value) (hd:d≠53):p8 w1 N F (a.put (some d) v) w':=⟨(put_get a v hd).trans h.1,h.2.1.below hb h.2.1.lt,h.2.2⟩
theorem JS.put3 (h:JS w1 bn N nl cl c Al ad lv false b4 b6 b8 a w) (hb:Below w.heap.size w w') (ho:w'.ownsRow w.heap.size 22 1 (.slice (some ⟨I,0,none⟩) N ci) N (lv.map (Value.int .u8))):JS w1 bn N nl cl c Al ad lv true b4 b6 b8 (a.put (some 48) (.slice (some ⟨I,0,none⟩) N ci)) w':=by
 obtain⟨jt,bel,I0,ci0,G,Y,F,h3,h4,h6,h8,e1,e2,e3⟩:=h;have hI:=ownsRow_lt ho (b:=I) rfl
 have how:w'.ownsRow w1.heap.size 22 1 (.slice (some ⟨I,0,none⟩) N ci) N (lv.map (Value.int .u8)):=by
  refine⟨ho.1,?_⟩
  rcases ho.2 with q | ⟨g,cap,cur,q1,q2,q3⟩
  · exact Or.inl q
  · exact Or.inr ⟨g,cap,cur,q1,Nat.le_trans bel.size q2,q3⟩
 refine⟨jt.put 48 _ (by decide),bel.trans (hb.mono bel.size),I,ci,G,Y,F,fun _=>⟨put_new a _ (by rw[jt.sz]; omega),how,hI.2⟩,fun q=>(h4 q).on hb _ _ (by omega),fun q=>(h6 q).on hb _ _ (by omega),fun q=>(h8 q).on hb _ _ (by omega),fun _ q=>?_,fun _ q=>?_,e3⟩
 · have:=(h6 q).2.1.lt; omega
 · have:=(h8 q).2.1.lt; omega
theorem JS.put4 (h:JS w1 bn N nl cl c Al ad lv b3 false b6 b8 a w) (hb:Below w.heap.size w w') (hc:w'.cell? ⟨G,0,none⟩=some (.int .i64 (-1))):JS w1 bn N nl cl c Al ad lv b3 true b6 b8 (a.put (some 49) (.slice (some ⟨G,0,none⟩) 1 1)) w':=by
 obtain⟨jt,bel,I,ci,G0,Y,F,h3,h4,h6,h8,e1,e2,e3⟩:=h
 exact⟨jt.put 49 _ (by decide),bel.trans (hb.mono bel.size),I,ci,G,Y,F,fun q=>(h3 q).on hb _ _ (by omega),fun _=>⟨put_new a _ (by rw[jt.sz]; omega),hc,block_lt_of_cell hc⟩,fun q=>(h6 q).on hb _ _ (by omega),fun q=>(h8 q).on hb _ _ (by omega),e1,e2,e3⟩
theorem JS.put6 (h:JS w1 bn N nl cl c Al ad lv b3 b4 false b8 a w) (hb:Below w.heap.size w w') (hk:Blk w' Y 3 (List.replicate N (Value.int .i64 (-1))).toArray) (hY:w.heap.size≤Y):JS w1 bn N nl cl c Al ad lv b3 b4 true b8 (a.put (some 51) (.slice (some ⟨Y,0,none⟩) N N)) w':=by
 obtain⟨jt,bel,I,ci,G,Y0,F,h3,h4,h6,h8,e1,e2,e3⟩:=h
 refine⟨jt.put 51 _ (by decide),bel.trans (hb.mono bel.size),I,ci,G,Y,F,fun q=>(h3 q).on hb _ _ (by omega),fun q=>(h4 q).on hb _ _ (by omega),fun _=>⟨put_new a _ (by rw[jt.sz]; omega),hk,Nat.le_trans bel.size hY⟩,fun q=>(h8 q).on hb _ _ (by omega),fun q _=>?_,e2,fun _ q=>?_⟩
 · have:=(h3 q).2.2; omega
 · have:=(h8 q).2.1.lt; omega
theorem JS.put8 (h:JS w1 bn N nl cl c Al ad lv b3 b4 b6 false a w) (hb:Below w.heap.size w w') (hk:Blk w' F 30 (List.replicate N (Value.slice none 0 0)).toArray) (hF:w.heap.size≤F):JS w1 bn N nl cl c Al ad lv b3 b4 b6 true (a.put (some 53) (.slice (some ⟨F,0,none⟩) N N)) w':=by
 obtain⟨jt,bel,I,ci,G,Y,F0,h3,h4,h6,h8,e1,e2,e3⟩:=h
 refine⟨jt.put 53 _ (by decide),bel.trans (hb.mono bel.size),I,ci,G,Y,F,fun q=>(h3 q).on hb _ _ (by omega),fun q=>(h4 q).on hb _ _ (by omega),fun q=>(h6 q).on hb _ _ (by omega),fun _=>⟨put_new a _ (by rw[jt.sz]; omega),hk,Nat.le_trans bel.size hF⟩,e1,fun q _=>?_,fun q _=>?_⟩
 · have:=(h3 q).2.2; omega
 · have:=(h6 q).2.1.lt; omega
theorem JS.drew (h:JS w1 bn N nl cl c Al ad lv b3 b4 b6 b8 a w):JS w1 bn N nl cl c Al ad lv b3 b4 b6 b8 a w.drew:=by
 obtain⟨jt,bel,I,ci,G,Y,F,h3,h4,h6,h8,e1,e2,e3⟩:=h;exact⟨jt,bel.drew,I,ci,G,Y,F,fun q=>h3 q,fun q=>h4 q,fun q=>h6 q,fun q=>h8 q,e1,e2,e3⟩
end
theorem JS.start {w1 w:World} {bn N nl cl c:Nat} {Al:Option Addr} {ad:Addr} {lv:List Int} {a:Act} (h:JT bn N nl cl c Al ad a) (hb:Below w1.heap.size w1 w):JS w1 bn N nl cl c Al ad lv false false false false a w:=
 ⟨h,hb,0,0,0,0,0,fun h=>Bool.noConfusion h,fun h=>Bool.noConfusion h,fun h=>Bool.noConfusion h,fun h=>Bool.noConfusion h,fun h=>Bool.noConfusion h,fun h=>Bool.noConfusion h,fun h=>Bool.noConfusion h⟩
def JL (w1:World) (bn N nl cl c:Nat) (Al:Option Addr) (ad:Addr) (lv:List Int) (m:Nat) (l:Array Bool) (a:Act) (w:World):Prop:=
 ∃ b3 b4 b6 b8:Bool,l=#[true,true,true,b3,b4,true,b6,true,b8,false,false,false]∧(b6=true→b3=true∧b4=true)∧m+b3.toNat+b4.toNat+b6.toNat+b8.toNat=4∧JS w1 bn N nl cl c Al ad lv b3 b4 b6 b8 a w
end Go.Proofs.YtdmakpmbknindaaGreatDoor
namespace Go.Proofs.YtdmakpmbknindaaGreatDoor
open Go.RowKit Go.Conc
theorem run_any (g I Y F B n nl cl ci cy cf:Nat) (Al:Option Addr) (lowV:Value) (xs:List IneqD) (low:List Int) (w:World)
 (hs:Blk w g 130 #[.slice Al nl cl,lowV,.slice (some ⟨I,0,none⟩) n ci,.slice (some ⟨Y,0,none⟩) n cy,.slice (some ⟨F,0,none⟩) n cf]) (hx:IneqsV w B Al nl cl xs) (hB:B≤w.heap.size) (hnd:[g,F,I,Y].Nodup) (hlt:∀ b∈[g,F,I,Y],B≤b)
 (hn:n≤1048576) (hnl:nl≤1099511627776) (hci:n≤ci) (hci2:ci≤maxLen) (hlow:low.length=n) (hlow3:∀ v,v<low.length→low.getD v 0≤3)
 (hI:RowC w I 22 .u8 low) (hY:RowC w Y 3 .i64 (List.replicate n (-1))) (hF:Blk w F 30 (List.replicate n (Value.slice none 0 0)).toArray) (hover:∀ x∈xs,OverL n x):
 Calls Tryz.prog 83 #[.pointer (some ⟨g,0,none⟩)] w fun e w'=>e=.returned (.tuple #[])∧∃ is why,RowC w' I 22 .u8 is∧RowC w' Y 3 .i64 why∧EndL xs low is why∧Off [I,Y,F] w w':=by
 have x0:w.cell? ⟨g,0,none⟩=some (.slice Al nl cl):=hs.cell 0;have x2:w.cell? ⟨g,2,none⟩=some (.slice (some ⟨I,0,none⟩) n ci):=hs.cell 2;have hmkq:=make_queue n hn;have hmkb:=make_bools n hn
 have n63:n≤9223372036854775807:=by omega
 refine calls_of_wpN Tryz.func83 rfl ?_;simp only[Tryz.ntmps83,List.size_toArray,List.length_cons,List.length_nil,Nat.reduceAdd,Nat.reduceSub,Array.replicate_succ,Array.replicate_zero,List.push_toArray,List.append_toArray,List.nil_append,List.cons_append];refine wpN_seq_k (fun K hK=>?_);go_wp2_with fail;refine hK.out _ _ ?_;clear hK K;have hb1:Below w.heap.size w ((w.alloc (.chan n #[] false 0 0 false)).alloc (.cells #[.chan (some w.heap.size)] 168)):=((Below.refl _ _).alloc (Nat.le_refl _) _).alloc (by simp) _;have hc1:((w.alloc (.chan n #[] false 0 0 false)).alloc (.cells #[.chan (some w.heap.size)] 168)).heap[w.heap.size]?=some (.chan n #[] false 0 0 false):=(Below.heap_alloc _ _ _ (by simp)).trans (heap_alloc_new w _)
 have ht1:Blk ((w.alloc (.chan n #[] false 0 0 false)).alloc (.cells #[.chan (some w.heap.size)] 168)) (w.heap.size+1) 168 #[.chan (some w.heap.size)]:=by
  have:=blk_new (w.alloc (.chan n #[] false 0 0 false)) #[.chan (some w.heap.size)] 168
  simpa using this
 have hz1:((w.alloc (.chan n #[] false 0 0 false)).alloc (.cells #[.chan (some w.heap.size)] 168)).heap.size=w.heap.size+2:=by simp
 generalize (w.alloc (.chan n #[] false 0 0 false)).alloc (.cells #[.chan (some w.heap.size)] 168)=w1 at hb1 hc1 ht1 hz1 ⊢;have x2:w1.cell? ⟨g,2,none⟩=some (.slice (some ⟨I,0,none⟩) n ci):=(hb1.cell (p:=⟨g,2,none⟩) hs.lt).trans x2;refine wpN_seq_k (fun K hK=>?_);go_wp2_with fail;refine hK.out _ _ ?_;clear hK K;have e3:w.heap.size+2+1=w.heap.size+3:=rfl
 have hb2:Below w.heap.size w ((w1.alloc (.cells (falses n) 4)).alloc (.cells #[.slice (some ⟨w.heap.size+2,0,none⟩) n n] 169)):=(hb1.alloc hb1.size _).alloc (by simp; have:=hb1.size; omega) _
 have hz2:((w1.alloc (.cells (falses n) 4)).alloc (.cells #[.slice (some ⟨w.heap.size+2,0,none⟩) n n] 169)).heap.size=w.heap.size+4:=by simp[hz1]
 have hq2:QSt ((w1.alloc (.cells (falses n) 4)).alloc (.cells #[.slice (some ⟨w.heap.size+2,0,none⟩) n n] 169)) (w.heap.size+3) (w.heap.size+2) (w.heap.size+1) w.heap.size n (List.replicate n false) []:=by
  have k1:=blk_new w1 (falses n) 4;have k2:=blk_new (w1.alloc (.cells (falses n) 4)) #[.slice (some ⟨w.heap.size+2,0,none⟩) n n] 169;rw[hz1] at k1
  have hz':(w1.alloc (.cells (falses n) 4)).heap.size=w.heap.size+3:=by simp[hz1]
  rw[hz'] at k2
  refine⟨by simp,k2,k1.alloc _,(ht1.alloc _).alloc _,0,0,?_⟩
  refine(Below.heap_alloc _ _ _ (by simp; omega)).trans ((Below.heap_alloc _ _ _ (by omega)).trans ?_)
  simpa using hc1
 generalize (w1.alloc (.cells (falses n) 4)).alloc (.cells #[.slice (some ⟨w.heap.size+2,0,none⟩) n n] 169)=w2 at hb2 hz2 hq2 ⊢;have hst:=runSt_start hs hx hB hnd hlt hn hci hci2 hlow hlow3 hI hY hF hover hb2 hz2 hq2;have x0:w2.cell? ⟨g,0,none⟩=some (.slice Al nl cl):=hst.s0;have nl63:nl≤9223372036854775807:=Nat.le_trans hx.2.1 hx.2.2.1;clear hq2 hc1 ht1 hz1 hb1 hmkq hmkb x2;clear w1;refine wpN_seq_k (fun K hK=>?_);go_wp2_with fail;refine hK.out _ _ ?_;clear hK K;refine wpN_seq_k (fun K hK=>?_);go_wp2_with fail;have HS:=qq hst;have HF1:=qq (FirstL.start xs low)
 have HQ:Hid (QInv n (List.replicate n false) []):=qq ⟨by simp,List.nodup_nil,fun u hu=>by simp[List.getD,hu],fun z hz=>by cases hz⟩
 have Hov:=qq hover;have Hxl:=qq hx.len;clear hst hover hs hx hnd hlt hlow hlow3 hI hY hF hb2 hz2 x0
 go_loopg [29] nl (fun gh i wr=>∃ k is why vs fr flags q,k≤nl∧gh=nl - k∧i=.int .i64 (k:Nat)∧RunSt ⟨g,F,I,Y,w.heap.size+3,w.heap.size+2,w.heap.size+1,w.heap.size,B,w.heap.size+4,n,Al,nl,cl,lowV,ci,cy,cf⟩ w wr xs low is why vs fr flags q∧QInv n flags q∧FirstL xs is fr k∧∀ v,(fr v).length≤k)
 case atStart=>exact⟨0,low,_,_,_,_,[],Nat.zero_le _,rfl,rfl,HS.out,HQ.out,HF1.out,fun _=>Nat.le_refl _⟩
 case round=>
  obtain⟨k,is,why,vs,fr,flags,q,hk,rfl,rfl,hS,hQ,hF,hfl⟩:=hrel
  by_cases hkl:k<nl
  · have hkx:k<xs.length:=by rw[Hxl.out]; exact hkl
    have x0:wr.cell? ⟨g,0,none⟩=some (.slice Al nl cl):=hS.s0
    obtain⟨bl,offl,hAl,hbl,hcl⟩:=hS.xsM.at_ (by show 0<nl; omega)
    dsimp only at hAl;subst hAl;obtain⟨e0,e1,e2,e3⟩:=hcl k hkx;have hov:=Hov.out _ (List.getElem_mem hkx);have hxi:xs[k]?=some xs[k]:=qj hkx;generalize xs[k]=x at e0 e1 e2 e3 hov hxi
    have i1:(0:Int)≤(k:Int):=by omega
    have i2:(k:Int)<nl:=by omega
    clear hcl
    by_cases h0:x.lc=0
    · obtain⟨i0,hi0,hz0,hz1,hz2⟩:=info_parts intInfo
      obtain⟨hv0,hv1⟩:=hov.lv h0;obtain⟨xv,xlc,xc,xr⟩:=x;dsimp only at e0 e1 e2 e3 h0 hv0 hv1 hov;subst h0;obtain⟨lvn,rfl⟩:∃ m:Nat,xv=(m:Int):=⟨xv.toNat,(Int.toNat_of_nonneg hv0).symm⟩;have hX:=blk_new wr #[.int .i64 (lvn:Int),.int .u8 0,.int .u8 xc,.int .i64 xr] 70;have hbx:=below_box (w:=wr) (Obj.cells #[.int .i64 (lvn:Int),.int .u8 0,.int .u8 xc,.int .i64 xr] 70);have hS1:=hS.below hbx;have hF1:=hF.var hxi rfl;have hsz:=hS.size
      have hvv:lvn<vs.length:=by rw[hS.vl]; show lvn<n; omega
      have hlt0:=fun b=>ownsRow_lt (hS.frm.own lvn hvv) (b:=b);dsimp only at hsz hlt0;have x1:(wr.alloc (Obj.cells #[.int .i64 (lvn:Int),.int .u8 0,.int .u8 xc,.int .i64 xr] 70)).cell? ⟨wr.heap.size,1,none⟩=some (.int .u8 0):=hX.cell 1;clear hbx hF hS hxi;go_wp2_with fail;generalize hW:wr.alloc (Obj.cells #[.int .i64 (lvn:Int),.int .u8 0,.int .u8 xc,.int .i64 xr] 70)=w1 at hX hS1 x1 ⊢;clear hW x1;simp only[Int.toNat_natCast] at hF1
      have hlvn:lvn<n:=by omega
      obtain⟨A,c,hA,hr⟩:=hS1.frm.row lvn hvv;have z1:=hS1.frm.cell lvn hvv;have hown:=hS1.frm.own lvn hvv;rw[hA] at z1 hown hlt0;have Hlt0:=qq hlt0;clear hlt0;dsimp only at z1 hown;have y4:w1.cell? ⟨g,4,none⟩=some (.slice (some ⟨F,0,none⟩) n cf):=hS1.s4;have y0:w1.cell? ⟨wr.heap.size,0,none⟩=some (.int .i64 (lvn:Int)):=hX.cell 0;have hg1:=hS1.lt (b:=g) (by simp);have hF2:=hS1.lt (b:=F) (by simp);have hb1:wr.heap.size<w1.heap.size:=hX.lt
      have j1:(0:Int)≤(lvn:Int):=by omega
      have j2:(lvn:Int)<n:=by omega
      have hlf:(fr lvn).length≤1099511627776:=by have:=hfl lvn; omega
      have HS1:=qq hS1;have HF1':=qq hF1;have HX:=qq hX;clear hS1 hF1 hX;refine wp_region_noPanic ?_;refine wp_region_T (fun w'=>w'.cell? ⟨g,4,none⟩=some (.slice (some ⟨F,0,none⟩) n cf)∧w'.cell? ⟨wr.heap.size,0,none⟩=some (.int .i64 (lvn:Int))∧w'.cell? ⟨F,lvn,none⟩=some (.slice A (fr lvn).length c)) 19 (by kernel_rfl) ⟨y4,y0,z1⟩ (fun hHeld=>?_)
      have Hn1:Hid (∀ b∈[g,F],some b≠(Value.slice A (fr lvn).length c).ownBlock):=qq fun b hb e=>by have h1:=(Hlt0.out b e.symm).1; have h2:=(HS1.out.ok.lt b (by simp only[qk,List.not_mem_nil,or_false] at hb ⊢; rcases hb with e | e <;> simp[e])).2; dsimp only at h2; omega
      have Hn2:Hid (some wr.heap.size≠(Value.slice A (fr lvn).length c).ownBlock):=qq fun e=>by have h1:=(Hlt0.out _ e.symm).2; omega
      refine nx0 0 ?_
      iterate 17 (refine nx (v:=?_) rfl (by kernel_rfl) (fun _ _ _ h=>h) (by rfl) ?_ (by assumption) ?_; rotate_left; focus (intro w hSw; (try dsimp only at hSw); first | (go_simp; done) | (go_simp; with_reducible rfl)); try simp only[Act.put,qg,qe,qf,qd,qh,qi,Nat.reduceAdd])
      refine nx9 ?_;refine wpAnyT_step (i:=17) (by kernel_rfl) rfl (fun K hK=>?_);go_simp;refine hK.out _ _ ⟨(World.cell?_alloc_lt _ _ ⟨g,4,none⟩ hg1).trans y4,(World.cell?_alloc_lt _ _ ⟨wr.heap.size,0,none⟩ hb1).trans y0,(World.cell?_alloc_lt _ _ ⟨F,lvn,none⟩ hF2).trans z1⟩ ?_;clear hK K
      try simp only[Act.put,qg,qe,qf,qd,qh,qi]
      refine wpAnyT_step (i:=18) (by kernel_rfl) rfl (fun K hK=>?_)
      (refine step_append_rd _ (by rfl) (.tmp 53) (.tmp 55) 30 (by rfl) (w.heap.size+4) 3 i0 _ 1 8 Tryz.underlying30 hi0 hz0 hz1 hz2 rfl (by omega) (.slice A (fr lvn).length c) (fr lvn).length ((fr lvn).map (Value.int .i64)) (by rfl) (hown.alloc _) _ (some ⟨w1.heap.size,0,none⟩) 1 1 [.int .i64 (k:Int)] (by rfl) (rd_new1 _ _ _) (by intro u hu; simp at hu; subst hu; rfl) (by unfold maxLen; omega) (by omega) (by have:=HS1.out.size; dsimp only at this; simp; omega) ?_; intro v4 w4 ho4 hg4 hat4; obtain⟨A4,c4,rfl⟩:=ownsRow_form ho4; have kq:=fun(p:Addr) (hp:p.block<w1.heap.size) (hn:some p.block≠(Value.slice A (fr lvn).length c).ownBlock)=>(World.cell?_of_block (hg4.block p.block (by simp; omega) hn)).trans (World.cell?_alloc_lt _ _ p hp))
      refine hK.out _ _ ⟨(kq ⟨g,4,none⟩ hg1 (Hn1.out _ (by simp))).trans y4,(kq ⟨wr.heap.size,0,none⟩ hb1 Hn2.out).trans y0,(kq ⟨F,lvn,none⟩ hF2 (Hn1.out _ (by simp))).trans z1⟩ ?_;clear hK K
      try simp only[Act.put,qg,qe,qf,qd,qh,qi]
      have g4:w4.cell? ⟨g,4,none⟩=some (.slice (some ⟨F,0,none⟩) n cf):=(kq ⟨g,4,none⟩ hg1 (Hn1.out _ (by simp))).trans y4;have g1:w4.cell? ⟨F,lvn,none⟩=some (.slice A (fr lvn).length c):=(kq ⟨F,lvn,none⟩ hF2 (Hn1.out _ (by simp))).trans z1
      have f1:w4.frozen? ⟨F,lvn,none⟩=false:=(World.frozen?_of_block ((hg4.block F (by simp; omega) (Hn1.out _ (by simp))).trans (Below.heap_alloc _ _ _ hF2))).trans (HS1.out.frm.frozen lvn)
      have hS9:=(HS1.out.below (Below.alloc (below_drewN_t (Below.refl w1.heap.size w1) _) (Nat.le_refl _) (Obj.cells #[Value.int .i64 (k:Int)] 3))).added (by show w.heap.size≤w.heap.size+4; omega) hvv (w':=w4) (v':=.slice A4 ((fr lvn).length+1) c4) (u:=(k:Int)) ho4 (by rw[hA]; exact hg4) (by rw[hA]; exact hat4)
      have HS9:=qq hS9;clear hS9;refine wpAnyT_seq 19 (by omega) (by rfl) (by kernel_rfl) ?_;simp only[List.drop_succ_cons,List.drop_zero];go_wp2_with fail;refine NoPanic.normal ?_;go_wp2_with fail;go_roundg (nl - (k+1))
      case measure=>omega
      case rel=>exact⟨k+1,is,why,_,_,flags,q,hkl,rfl,by simp,HS9.out,hQ,HF1'.out,fun v=>by have h1:=hfl v; have h2:=hfl lvn; split; (simp only[List.length_append,List.length_cons,List.length_nil]; omega); omega⟩
    · have d0:(x.lc==0)=false:=by simp[h0]
      have hX:=blk_new wr #[.int .i64 x.lv,.int .u8 x.lc,.int .u8 x.c,.int .i64 x.r] 70;have hbx:=below_box (w:=wr) (Obj.cells #[.int .i64 x.lv,.int .u8 x.lc,.int .u8 x.c,.int .i64 x.r] 70);have HS1:=qq (hS.below hbx);have Hsz:=qq hS.size;dsimp only at Hsz;have x1:(wr.alloc (Obj.cells #[.int .i64 x.lv,.int .u8 x.lc,.int .u8 x.c,.int .i64 x.r] 70)).cell? ⟨wr.heap.size,1,none⟩=some (.int .u8 x.lc):=hX.cell 1;have HX:=qq hX;have HF:=qq hF;have HQ1:=qq hQ;have Hxi:=qq hxi;clear hX hbx hF hQ hxi hS;go_wp2_with fail
      cases hb:raiseB is x with
      | false=>
        refine(raise_run HS1.out Hxi.out false hb).mono ?_;rintro e w5 ⟨rfl,is',why',hS5,his,ho5⟩
        have hF5:=HF.out.const Hxi.out h0 (by have:=hov.r; have:=HS1.out.il; dsimp only at this; omega)
        rw[hb] at hF5;rw[← his] at hF5;clear hb his;have HS5:=qq hS5;have HF5:=qq hF5;clear hS5 hF5;go_wp2_with fail;go_roundg (nl - (k+1))
        case measure=>omega
        case rel=>exact⟨k+1,is',why',vs,fr,flags,q,hkl,rfl,by simp,HS5.out,HQ1.out,HF5.out,fun v=>Nat.le_succ_of_le (hfl v)⟩
      | true=>
        have hr0:=((raiseB_iff _ _).1 hb).1;refine(raise_run HS1.out Hxi.out true hb).mono ?_;rintro e w5 ⟨rfl,is',why',hS5,his,ho5⟩
        have hF5:=HF.out.const Hxi.out h0 (by have:=hov.r; have:=HS1.out.il; dsimp only at this; omega)
        rw[hb] at hF5;rw[← his] at hF5;obtain⟨kr,hkr⟩:∃ kr:Nat,x.r=(kr:Int):=⟨x.r.toNat,(Int.toNat_of_nonneg hr0).symm⟩
        have hX5:=HX.out.off ho5 (by have a1:=HS1.out.lt (b:=I) (by simp); have a2:=HS1.out.rI.lt; have a3:=(HS1.out.ok.lt I (by simp)).2; have a4:=(HS1.out.ok.lt Y (by simp)).2; have a5:=Hsz.out; simp only[qk,List.not_mem_nil,or_false,not_or]; dsimp only at a3 a4; omega)
        have y2:w5.cell? ⟨wr.heap.size,2,none⟩=some (.int .u8 x.c):=hX5.cell 2;have y3:w5.cell? ⟨wr.heap.size,3,none⟩=some (.int .i64 (kr:Int)):=hkr ▸ hX5.cell 3
        have hkn:kr<n:=by have:=hov.r; omega
        clear hb his hX5 ho5 hkr hr0;have HS5:=qq hS5;have HF5:=qq hF5;clear hS5 hF5;go_wp2_with fail;refine(put_run HS5.out HQ1.out hkn).mono ?_;rintro e w6 ⟨rfl,flags',q',hS6,hQ6,_,_⟩;have HS6:=qq hS6;have HQ6:=qq hQ6;clear hS6 hQ6;go_wp2_with fail;go_roundg (nl - (k+1))
        case measure=>omega
        case rel=>exact⟨k+1,is',why',vs,fr,flags',q',hkl,rfl,by simp,HS6.out,HQ6.out,HF5.out,fun v=>Nat.le_succ_of_le (hfl v)⟩
  · have hkn:k=nl:=by omega
    have HF9:Hid (FirstL xs is fr xs.length):=qq (by rw[Hxl.out,← hkn]; exact hF)
    have HS9:=qq hS;have HQ9:=qq hQ;clear hF hS hQ hkn;go_wp2_with fail;refine hK.out _ _ ?_;clear hK;have x2:wr.cell? ⟨g,2,none⟩=some (.slice (some ⟨I,0,none⟩) n ci):=HS9.out.s2;refine wpN_seq_k (fun K hK=>?_);go_wp2_with fail;clear x2
    go_loopg [71] n (fun gh i wr2=>∃ j flags q,j≤n∧gh=n - j∧i=.int .i64 (j:Nat)∧RunSt ⟨g,F,I,Y,w.heap.size+3,w.heap.size+2,w.heap.size+1,w.heap.size,B,w.heap.size+4,n,Al,nl,cl,lowV,ci,cy,cf⟩ w wr2 xs low is why vs fr flags q∧QInv n flags q∧∀ u,u<j→flags.getD u false=true)
    case atStart=>exact⟨0,flags,q,Nat.zero_le _,rfl,rfl,HS9.out,HQ9.out,fun u hu=>absurd hu (Nat.not_lt_zero _)⟩
    case round=>
     obtain⟨j,flags1,q1,hj,rfl,rfl,hS1,hQ1,hall⟩:=hrel
     by_cases hjn:j<n
     · have HS1:=qq hS1
       have HQ1:=qq hQ1;have Hall:=qq hall;clear hS1 hQ1 hall
       have i1:(0:Int)≤(j:Int):=by omega
       have i2:(j:Int)<n:=by omega
       go_wp2_with fail;refine(put_run HS1.out HQ1.out hjn).mono ?_;rintro e w6 ⟨rfl,flags',q',hS6,hQ6,hf6,_⟩;have HS6:=qq hS6;have HQ6:=qq hQ6;have HF6:=qq hf6;clear hS6 hQ6 hf6;go_wp2_with fail;go_roundg (n - (j+1))
       case measure=>omega
       case rel=>exact⟨j+1,flags',q',hjn,rfl,by simp,HS6.out,HQ6.out,fun u hu=>(HF6.out u).2 (by by_cases e:u=j; exact Or.inr e; exact Or.inl (Hall.out u (by omega)))⟩
     · have hall':∀ u,u<n→flags1.getD u false=true:=fun u hu=>hall u (by omega)
       have HS2:=qq hS1;have HQ2:=qq hQ1;have Hall:=qq hall';clear hS1 hQ1 hall hall';go_wp2_with fail;refine hK.out _ _ ?_;clear hK;refine wpN_block ?_;refine wpN_loop (fun gh a wr=>a.tmps.size=112∧a.tmps[0]?=some (.pointer (some ⟨g,0,none⟩))∧a.tmps[2]?=some (.pointer (some ⟨w.heap.size+1,0,none⟩))∧a.tmps[3]?=some (.pointer (some ⟨w.heap.size+3,0,none⟩))∧a.tmps[4]?=some (.func (.func 129) #[] #[.pointer (some ⟨w.heap.size+3,0,none⟩),.pointer (some ⟨w.heap.size+1,0,none⟩)])∧a.defers=[]∧∃ is why flags q,RunSt ⟨g,F,I,Y,w.heap.size+3,w.heap.size+2,w.heap.size+1,w.heap.size,B,w.heap.size+4,n,Al,nl,cl,lowV,ci,cy,cf⟩ w wr xs low is why vs fr flags q∧QInv n flags q∧WaitL xs is flags 0 []∧gh=2 * slackL is+q.length) _ ⟨rfl,rfl,rfl,rfl,rfl,rfl,is,why,flags1,q1,HS2.out,HQ2.out,⟨fun x hx hc=>?_,fun i x hi h0=>Or.inr (Or.inl (Hall.out _ ?_))⟩,rfl⟩ ?_
       · obtain⟨i,hi⟩:=List.getElem?_of_mem hx
         exact HF9.out.consts i (List.getElem?_eq_some_iff.1 hi).1 x hi hc
       · have:=(Hov.out x (List.mem_of_getElem? hi)).lv h0
         omega
       · intro gh a wr3 hI3
         obtain⟨hsz,h0,h2,h3,h4,hdf,is3,why3,flags3,q3,hS3,hQ3,hW3,rfl⟩:=hI3;refine split112 (fun a=>wpN _ _ _ a wr3) a _ _ _ _ hsz h0 h2 h3 h4 hdf ?_;clear hsz h0 h2 h3 h4 hdf a;intro s1 s5 s6 s7 s8 s9 s10 s11 s12 s13 s14 s15 s16 s17 s18 s19 s20 s21 s22 s23 s24 s25 s26 s27 s28 s29 s30 s31 s32 s33 s34 s35 s36 s37 s38 s39 s40 s41 s42 s43 s44 s45 s46 s47 s48 s49 s50 s51 s52 s53 s54 s55 s56 s57 s58 s59 s60 s61 s62 s63 s64 s65 s66 s67 s68 s69 s70 s71 s72 s73 s74 s75 s76 s77 s78 s79 s80 s81 s82 s83 s84 s85 s86 s87 s88 s89 s90 s91 s92 s93 s94 s95 s96 s97 s98 s99 s100 s101 s102 s103 s104 s105 s106 s107 s108 s109 s110 s111;have HS3:=qq hS3;have HQ3:=qq hQ3;have HW3:=qq hW3;obtain⟨_,_,_,hbt3,sq3,rq3,hch3⟩:=hS3.qs;clear hS3 hQ3 hW3;have z0:wr3.cell? ⟨w.heap.size+1,0,none⟩=some (.chan (some w.heap.size)):=hbt3.cell 0;dsimp only at hch3
         cases q3 with
         | nil=>
           have hl:=run_len_chan (P:=Tryz.prog) 168 3 Tryz.underlying168 hch3;simp only[List.map_nil,List.size_toArray,List.length_nil,goInt] at hl;refine wpN_seq_k (fun K hK=>?_);go_wp2_with fail;clear hl hch3 z0 hbt3 hK K
           have hfl:∀ u,flags3.getD u false=false:=fun u=>by
            by_cases hu:u<n
            · cases hf:flags3.getD u false with
              | false=>rfl
              | true=>exact absurd ((HQ3.out.iff u hu).1 hf) (by simp)
            · have:=HQ3.out.len; simp[List.getD,Nat.le_of_not_lt hu,this]
           have hend:=HW3.out.done hfl;have hS3:=HS3.out
           refine bodyPost_end (results_none rfl _ _ _) rfl ⟨rfl,is3,hS3.rI,why3,hS3.rY,⟨hS3.inv,hend,fun x hx=>by have:=hS3.over x hx; rw[hS3.lowl]; exact this⟩,?_⟩
           have ho:=hS3.off;refine⟨ho.os,ho.tape,ho.output,ho.size,fun k hk hne=>ho.block k hk ?_⟩;simp only[qk,List.not_mem_nil,or_false,not_or] at hne ⊢;omega
         | cons v q3=>
           have hl:=run_len_chan (P:=Tryz.prog) 168 3 Tryz.underlying168 hch3;simp only[List.map_cons,List.size_toArray,List.length_cons,List.length_map,goInt] at hl
           have d9:decide (((q3.length+1:Nat):Int)>0)=true:=by simp
           refine wpN_seq_k (fun K hK=>?_);go_wp2_with fail;refine hK.out _ _ ?_;clear hK K hl d9;obtain⟨vn,hvn,rfl,hQ4⟩:=HQ3.out.take;have hS4:=HS3.out.recv hch3;have hS5:=hS4.mark vn false
           have hfu:∀ u,u≠vn→(flags3.set vn false).getD u false=flags3.getD u false:=fun u hu=>by rw[getDb_set _ _ _ _ (by rw[HQ3.out.len]; exact hvn),if_neg (fun e=>hu e.symm)]
           have hW5:=HW3.out.round hfu HF9.out;refine wpN_block ?_;refine wpN_seq ?_;refine wpN_region ?_;show opsN _ _ _ [0,1,2] _ _;refine opsN_value (v:=.chan (some w.heap.size)) (w':=wr3) rfl rfl ?_ ?_
           · go_simp
           simp only[Act.put,qd,qh,qi];refine opsN_recv (c:=w.heap.size) (z:=.int .i64 0) (w₁:=wr3) rfl rfl ?_ hch3 (by simp) ?_
           · go_simp
             rfl
           simp only[Act.put,qd,qh,qi];generalize hW4:wr3.setChan w.heap.size n ((((vn:Int) :: q3).map (Value.int .i64)).toArray.extract 1 (((vn:Int) :: q3).map (Value.int .i64)).toArray.size) false sq3 (rq3+1) false=wr4 at hS4 hS5 ⊢
           have d0:((((vn:Int) :: q3).map (Value.int .i64)).toArray).getD 0 undef=.int .i64 (vn:Int):=by simp
           rw[d0];refine opsN_value (v:=.int .i64 (vn:Int)) (w':=wr4) rfl rfl ?_ ?_
           · go_simp
           simp only[Act.put,qd,qh,qi];refine opsN_nil ?_;refine wpN_of_wp ?_;clear d0 hW4 hch3 hbt3 z0;have z1:wr4.cell? ⟨w.heap.size+3,0,none⟩=some (.slice (some ⟨w.heap.size+2,0,none⟩) n n):=hS4.qs.bw.cell 0;have z2:wr4.frozen? ⟨w.heap.size+2,vn,none⟩=false:=hS4.qs.fl.frozen vn
           have hfv:vn<flags3.length:=by rw[HQ3.out.len]; exact hvn
           have z3:wr4.cell? ⟨w.heap.size+2,vn,none⟩=some (.bool flags3[vn]):=by
            have:=Blk.cell hS4.qs.fl vn;dsimp only at this;rw[this];simp[hfv]
           generalize flags3[vn]=bb at z3
           have hvv:vn<vs.length:=by rw[hS5.vl]; exact hvn
           obtain⟨A4,c4,hA4,hr4⟩:=hS5.frm.row vn hvv;have z4:=hS5.frm.cell vn hvv;rw[hA4] at z4;have z5:(wr4.setCell ⟨w.heap.size+2,vn,none⟩ (.bool false)).cell? ⟨g,4,none⟩=some (.slice (some ⟨F,0,none⟩) n cf):=hS5.s4
           have i1:(0:Int)≤(vn:Int):=by omega
           have i2:(vn:Int)<n:=by omega
           have hlen4:(fr vn).length≤9223372036854775807:=Nat.le_trans hr4.2.1 hr4.2.2;dsimp only at z4;have HS5:=qq hS5;have HQ4:=qq hQ4;have HW5:=qq hW5;have HA4:=qq hA4;clear hS4 hS5 hQ4 hW5 hA4 hr4 hfu hfv HS3 HQ3 HW3;go_wp2_with fail
           go_loopg [94] (fr vn).length (fun gh i wr=>∃ j is why flags q,j≤(fr vn).length∧gh=(fr vn).length - j∧i=.int .i64 (j:Nat)∧RunSt ⟨g,F,I,Y,w.heap.size+3,w.heap.size+2,w.heap.size+1,w.heap.size,B,w.heap.size+4,n,Al,nl,cl,lowV,ci,cy,cf⟩ w wr xs low is why vs fr flags q∧QInv n flags q∧WaitL xs is flags vn ((fr vn).drop j)∧2 * slackL is+q.length≤2 * slackL is3+q3.length)
           case atStart=>exact⟨0,is3,why3,flags3.set vn false,q3,Nat.zero_le _,rfl,rfl,HS5.out,HQ4.out,HW5.out,Nat.le_refl _⟩
           case round=>
            obtain⟨j,is6,why6,flags6,q6,hj,rfl,rfl,hS6,hQ6,hW6,hm6⟩:=hrel
            by_cases hjl:j<(fr vn).length
            · obtain⟨A6,c6,hA6,hr6⟩:=hS6.frm.row vn hvv
              have hAA:=HA4.out.symm.trans hA6
              injection hAA with hAA1 hAA2 hAA3
              subst hAA1;subst hAA3;obtain⟨bo,oo,hbo,hbl,hcl⟩:=hr6.1.2 (by omega);have hz:=hcl j (.int .i64 (fr vn)[j]) (by simp[hjl]);subst hbo;obtain⟨i6,x6,hzi,hxi,hx0,hxv⟩:=HF9.out.mem vn _ (List.getElem_mem hjl);rw[List.drop_eq_getElem_cons hjl,hzi] at hW6;rw[hzi] at hz
              have i3:(0:Int)≤(j:Int):=by omega
              have i4:(j:Int)<(fr vn).length:=by omega
              have hov:=Hov.out _ (List.mem_of_getElem? hxi);have hil:=hS6.il;have htop:=hS6.inv.top;rw[hS6.lowl] at htop;dsimp only at hil htop;have HS6:=qq hS6;have HQ6:=qq hQ6;have HW6:=qq hW6;have Hm6:=qq hm6;have Hov6:=qq hov;have Hxi:=qq hxi;have Hil:=qq hil;have Htop:=qq htop;clear hS6 hQ6 hW6 hm6 hov hcl hr6 hA6 hzi hxi hx0 hxv hil htop;go_wp2_with fail
              cases hb:raiseB is6 x6 with
              | false=>
                refine(raise_run HS6.out Hxi.out false hb).mono ?_;rintro e w7 ⟨rfl,is7,why7,hS7,his,ho7⟩;simp only[Bool.false_eq_true,if_false] at his;subst his;have hW7:=HW6.out.skip Hxi.out hb;have HS7:=qq hS7;have HW7:=qq hW7;clear hS7 hW7 ho7 hb;go_wp2_with fail;go_roundg ((fr vn).length - (j+1))
                case measure=>omega
                case rel=>exact⟨j+1,is7,why7,flags6,q6,hjl,rfl,by simp,HS7.out,HQ6.out,HW7.out,Hm6.out⟩
              | true=>
                have hr0:=((raiseB_iff _ _).1 hb).1;refine(raise_run HS6.out Hxi.out true hb).mono ?_;rintro e w7 ⟨rfl,is7,why7,hS7,his,ho7⟩;simp only[if_true] at his;obtain⟨kr,hkr⟩:∃ kr:Nat,x6.r=(kr:Int):=⟨x6.r.toNat,(Int.toNat_of_nonneg hr0).symm⟩
                have hkn:kr<n:=by have:=Hov6.out.r; omega
                have hsl:=slackL_raise Hov6.out Hil.out Htop.out hb;rw[← his] at hsl;have hixl:i6<xs.length:=(List.getElem?_eq_some_iff.1 Hxi.out).1;have hxl0:=hS7.xsM.len;dsimp only at hxl0
                obtain⟨bl,offl,hAl,hbl7,hcl7⟩:=hS7.xsM.at_ (by show 0<nl; omega)
                dsimp only at hAl;subst hAl;obtain⟨_,_,_,e3⟩:=hcl7 i6 hixl;have hxe:xs[i6]=x6:=(List.getElem?_eq_some_iff.1 Hxi.out).2;rw[hxe,hkr] at e3;have y0:w7.cell? ⟨g,0,none⟩=some (.slice (some ⟨bl,offl,none⟩) nl cl):=hS7.s0
                have i5:(0:Int)≤(i6:Int):=by omega
                have i7:(i6:Int)<nl:=by omega
                have HS7:=qq hS7;have Hsl:=qq hsl;have His:=qq his;have Hb:=qq hb;have Hkr:=qq hkr;clear hS7 his hsl ho7 hb hkr hcl7 hxe hr0;go_wp2_with fail;refine(put_run HS7.out HQ6.out hkn).mono ?_;rintro e w8 ⟨rfl,flags8,q8,hS8,hQ8,hf8,hl8⟩
                have hW8:=HW6.out.raised Hxi.out Hb.out (by have:=Hov6.out.r; rw[Hil.out]; exact this) (flags':=flags8) (fun u=>by rw[Hkr.out,Int.toNat_natCast]; exact hf8 u)
                rw[← His.out] at hW8;have HS8:=qq hS8;have HQ8:=qq hQ8;have HW8:=qq hW8;have Hl8:=qq hl8;clear hS8 hQ8 hW8 hl8 hf8;go_wp2_with fail;go_roundg ((fr vn).length - (j+1))
                case measure=>omega
                case rel=>exact⟨j+1,is7,why7,flags8,q8,hjl,rfl,by simp,HS8.out,HQ8.out,HW8.out,by have a1:=Hsl.out; have a2:=Hl8.out; have a3:=Hm6.out; omega⟩
            · have hd:(fr vn).drop j=[]:=List.drop_eq_nil_of_le (by omega)
              rw[hd] at hW6;have HS6:=qq hS6;have HQ6:=qq hQ6;have HW6:=qq (hW6.nil 0);have Hm6:=qq hm6;clear hS6 hQ6 hW6 hm6 hd;go_wp2_with fail
              exact⟨2 * slackL is6+q6.length,by have:=Hm6.out; simp only[List.length_cons]; omega,by first | rfl | trivial,by first | rfl | trivial,by first | rfl | trivial,by first | rfl | trivial,by first | rfl | trivial,by first | rfl | trivial,is6,why6,flags6,q6,HS6.out,HQ6.out,HW6.out,rfl⟩
end Go.Proofs.YtdmakpmbknindaaGreatDoor
