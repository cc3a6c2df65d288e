import Derived.Test.YtgpeijkjmkocgaaDoorM29
set_option linter.unusedVariables false
set_option linter.unusedSimpArgs false
set_option maxHeartbeats 4000000
set_option maxRecDepth 100000
namespace Go.Proofs.YtgpeijkjmkocgaaDoor
open Go.RowKit
theorem setCells_block {b i:Nat} (h:i≠b):∀ (vs:List Value) (o:Nat) (w:World),(w.setCells b o vs).heap[i]?=w.heap[i]?
 | [],_,_=>rfl
 | v :: vs,o,w=>(setCells_block h vs (o+1) (w.setCell ⟨b,o,none⟩ v)).trans (Below.heap_setCell _ _ _ _ h)
theorem Below.setCells {B b:Nat} {w0:World} (hb:B≤b):∀ (vs:List Value) (o:Nat) (w:World),Below B w0 w→Below B w0 (w.setCells b o vs)
 | [],_,_,h=>h
 | v :: vs,o,w,h=>Below.setCells hb vs (o+1) _ (h.setCell (p:=⟨b,o,none⟩) hb v)
theorem OwnC.setCells {base:Nat} {e:TypeId} {k:Nat} {R:Nat→Prop} {u:Value} {n:Nat} {l:List Cel} {b:Nat} (hb:b<base) (hR:R b):∀ (vs:List Value) (o:Nat) (w:World),OwnC w base e k R u n l→OwnC (w.setCells b o vs) base e k R u n l
 | [],_,_,h=>h
 | v :: vs,o,w,h=>OwnC.setCells hb hR vs (o+1) _ (h.set (p:=⟨b,o,none⟩) hb hR v)
theorem fldInfo:(Tryd.prog.info? 97).map (fun i=>(i.zero,i.size,i.bytes))=some (some (.agg #[.int .u8 0,.int .u8 0,.string ByteArray.empty,.int .u8 0,.int .i64 0,.int .i64 0,.int .i64 0,.slice none 0 0]),8,88):=by kernel_rfl
def zeroDl:Array Value:=#[.int .u8 0,.string ⟨#[]⟩,.int .i64 0,.int .i64 0,.int .i64 0,.slice none 0 0,.slice none 0 0,.bool false,.int .u8 0,.string ⟨#[]⟩,.int .i64 0,.int .i64 0,.int .i64 0,.int .i64 0,.slice none 0 0,.slice none 0 0]
def declCells (name:ByteArray) (Ap:Option Addr) (np cp gc:Nat):Array Value:=#[.int .u8 1,.string name,.int .i64 5,.int .i64 1,.int .i64 6,.slice Ap np cp,.slice (some ⟨gc,0,none⟩) 2 2,.bool false,.int .u8 0,.string ⟨#[]⟩,.int .i64 0,.int .i64 0,.int .i64 0,.int .i64 0,.slice none 0 0,.slice none 0 0]
theorem declCells_one (name:ByteArray) (Ap:Option Addr) (np cp gc:Nat):(declCells name Ap np cp gc).all (·.oneCell')=true:=by
 refine Array.all_eq_true_iff_forall_mem.2 fun v hv=>?_
 have h:v∈(declCells name Ap np cp gc).toList:=by simpa using hv
 unfold declCells at h;simp only[qk,List.not_mem_nil,or_false] at h
 rcases h with rfl | rfl | rfl | rfl | rfl | rfl | rfl | rfl | rfl | rfl | rfl | rfl | rfl | rfl | rfl | rfl <;> rfl
def oneF (t:TyW):List Cel:=encF ⟨1,t⟩
theorem tyw_at {w:World} {S:Nat→Prop} {A:Option Addr} {n c:Nat} {l:List TyW} (h:Sl w S encW 7 l A n c) (hn:0<n):∃ b off,A=some ⟨b,off,none⟩∧S b∧∀ i (h:i<l.length),w.cell? ⟨b,off+i * 7,none⟩=some (.int .u8 l[i].k) ∧
  w.cell? ⟨b,off+i * 7+1,none⟩=some (.string l[i].s)∧w.cell? ⟨b,off+i * 7+2,none⟩=some (.int .u8 l[i].m)∧w.cell? ⟨b,off+i * 7+3,none⟩=some (.int .i64 l[i].p.at_)∧w.cell? ⟨b,off+i * 7+4,none⟩=some (.int .i64 l[i].p.line)∧w.cell? ⟨b,off+i * 7+5,none⟩=some (.int .i64 l[i].p.col)∧∃ A' m' c',w.cell? ⟨b,off+i * 7+6,none⟩=some (.slice A' m' c')∧Sl w S encW 7 l[i].l A' m' c':=by
 obtain⟨b,off,e,hb,hr⟩:=h.at_ encW_len hn;refine⟨b,off,e,hb,fun i hi=>?_⟩;have:=hr i hi;rw[encW_eq] at this;simp only[celsIn_cons,celIn_v,sl_iff (enc:=encW) (k:=7) encW_len (by omega)] at this;obtain⟨⟨u1,h1,rfl⟩,⟨u2,h2,rfl⟩,⟨u3,h3,rfl⟩,⟨u4,h4,rfl⟩,⟨u5,h5,rfl⟩,⟨u6,h6,rfl⟩,⟨u7,h7,A',m',c',rfl,h8⟩,_⟩:=this;exact⟨h1,h2,h3,h4,h5,h6,A',m',c',h7,h8⟩
theorem oneC {w:World} {S:Nat→Prop} {t:TyW} {A:Option Addr} {m c:Nat} (h:Sl w S encW 7 t.l A m c):CelsV w S (oneF t) [.int .u8 1,.int .u8 t.k,.string t.s,.int .u8 t.m,.int .i64 t.p.at_,.int .i64 t.p.line,.int .i64 t.p.col,.slice A m c]:=by
 unfold oneF encF;rw[encW_eq];exact⟨celIn_v.2 rfl,celIn_v.2 rfl,celIn_v.2 rfl,celIn_v.2 rfl,celIn_v.2 rfl,celIn_v.2 rfl,celIn_v.2 rfl,(sl_iff encW_len (by omega)).2 ⟨A,m,c,rfl,h⟩,trivial⟩
def DeclPost (R0:Nat→Prop) (name:ByteArray) (Ap:Option Addr) (np cp nf:Nat) (xs:List TyW) (w:World) (e:Ending) (w':World):Prop:=
 ∃ gc A5 c5 base,e=.returned (.agg (declCells name Ap np cp gc))∧Below w.heap.size w w'∧w.heap.size≤gc∧w.heap.size<base∧Blk w' gc 71 #[.string ⟨#[65]⟩,.int .i64 9,.int .i64 1,.int .i64 10,.slice A5 nf c5,.string ⟨#[66]⟩,.int .i64 30,.int .i64 1,.int .i64 31,.slice none 0 0] ∧
  OwnC w' base 97 8 (fun b=>w.heap.size≤b∨R0 b) (.slice A5 nf c5) nf (xs.flatMap oneF)∧∀ b,(Value.slice A5 nf c5).ownBlock=some b→b<gc
theorem decl_any (R0:Nat→Prop) (name:ByteArray) (Ap:Option Addr) (np cp:Nat) (Af:Option Addr) (nf cf:Nat) (xs:List TyW) (w:World) (hf:Sl w (fun b=>b<w.heap.size∧¬ R0 b) encW 7 xs Af nf cf) (hn:nf≤10):
  Calls Tryd.prog 10 #[.string name,.slice Ap np cp,.slice Af nf cf] w (DeclPost R0 name Ap np cp nf xs w):=by
 have hlen:=hf.len;have hbx:=below_box (w:=w) (Obj.cells zeroDl 40);have hkx:=blk_new w zeroDl 40;obtain⟨W,hW⟩:∃ q,w.alloc (Obj.cells zeroDl 40)=q:=⟨_,rfl⟩;rw[hW] at hbx hkx;have hq:=at13_any 9 (by omega) (by omega) W;have HW:=qq hW;have Hb:=qq hbx;have Hk:=qq hkx;have Hq:=qq hq;have HF:=qq hf;clear hW hbx hkx hq hf
 go_enter Tryd.func10,Tryd.ntmps10
 go_upto_region 1 with fail
 rw[show w.alloc (Obj.cells #[.int .u8 0,.string ⟨#[]⟩,.int .i64 0,.int .i64 0,.int .i64 0,.slice none 0 0,.slice none 0 0,.bool false,.int .u8 0,.string ⟨#[]⟩,.int .i64 0,.int .i64 0,.int .i64 0,.int .i64 0,.slice none 0 0,.slice none 0 0] 40)=W from HW.out]
 go_wp2_with fail;refine Hq.out.mono ?_;rintro e w1 ⟨rfl,hb1⟩;have hk1:=Hk.out.below hb1 Hk.out.lt;have hb1':=Hb.out.trans (hb1.mono Hb.out.size);clear hb1 Hq Hb Hk HW;go_upto_region 2 with fail;have hbx:=below_box (w:=w1) (Obj.cells #[.string ⟨#[65]⟩,.int .i64 9,.int .i64 1,.int .i64 10,.slice none 0 0] 71);have hkx:=blk_new w1 #[.string ⟨#[65]⟩,.int .i64 9,.int .i64 1,.int .i64 10,.slice none 0 0] 71;obtain⟨w2,hw2⟩:∃ q,w1.alloc (Obj.cells #[.string ⟨#[65]⟩,.int .i64 9,.int .i64 1,.int .i64 10,.slice none 0 0] 71)=q:=⟨_,rfl⟩;rw[hw2] at hbx hkx ⊢;obtain⟨b7,hb7⟩:∃ q,w1.heap.size=q:=⟨_,rfl⟩
 have hs7:w.heap.size<b7:=by rw[← hb7]; exact hk1.lt
 rw[hb7] at hkx ⊢;have hk2:=hk1.below hbx hk1.lt;have hb2:=hb1'.trans (hbx.mono hb1'.size);have Hk2:=qq hk2;have Hkc:=qq hkx;have Hb2:=qq hb2;clear hw2 hk1 hb1' hbx hkx hb7 hk2 hb2;go_wp2_with fail
 go_loopg [14] nf (fun gh i wr=>∃ (k:Nat) (A5:Option Addr) (c5:Nat),k≤nf∧gh=nf - k∧i=.int .i64 (k:Nat)∧Blk wr b7 71 #[.string ⟨#[65]⟩,.int .i64 9,.int .i64 1,.int .i64 10,.slice A5 k c5]∧Blk wr w.heap.size 40 zeroDl∧OwnC wr (b7+1) 97 8 (fun b=>w.heap.size≤b∨R0 b) (.slice A5 k c5) k ((xs.take k).flatMap oneF)∧Below w.heap.size w wr)
 case atStart=>exact⟨0,none,0,Nat.zero_le _,rfl,rfl,Hkc.out,Hk2.out,OwnC.nil,Hb2.out⟩
 case round=>
  clear Hkc Hk2 Hb2;obtain⟨k,A5,c5,hk,rfl,rfl,hkc,hk0,hown,hbel⟩:=hrel;obtain⟨w3,hw3⟩:∃ x,x=wr:=⟨_,rfl⟩;subst hw3;have hbl:=hkc.lt
  by_cases hkn:k<nf
  · have d0:decide (k<nf)=true:=by simpa using hkn
    have hk':k<xs.length:=by omega
    obtain⟨b,off,rfl,hb,hc⟩:=tyw_at HF.out (by omega);obtain⟨t0,t1,t2,t3,t4,t5,Ax,mx,cx,t6,hT⟩:=hc k hk';have hst:xs.take (k+1)=xs.take k++[xs[k]]:=List.take_succ_eq_append_getElem hk';obtain⟨t,ht⟩:∃ x,xs[k]=x:=⟨_,rfl⟩;rw[ht] at t0 t1 t2 t3 t4 t5 hT hst;have q0:=(hbel.cell (p:=⟨b,off+k * 7,none⟩) hb.1).trans t0;have q1:=(hbel.cell (p:=⟨b,off+k * 7+1,none⟩) hb.1).trans t1;have q2:=(hbel.cell (p:=⟨b,off+k * 7+2,none⟩) hb.1).trans t2;have q3:=(hbel.cell (p:=⟨b,off+k * 7+3,none⟩) hb.1).trans t3;have q4:=(hbel.cell (p:=⟨b,off+k * 7+4,none⟩) hb.1).trans t4;have q5:=(hbel.cell (p:=⟨b,off+k * 7+5,none⟩) hb.1).trans t5;have q6:=(hbel.cell (p:=⟨b,off+k * 7+6,none⟩) hb.1).trans t6
    have j1:(0:Int)≤(k:Int):=by omega
    have j2:(k:Int)<nf:=by omega
    have Hst:=qq hst;have Hkc:=qq hkc;have Hk0:=qq hk0;have Hown:=qq hown;have Hbel:=qq hbel;have HT:=qq hT;clear t0 t1 t2 t3 t4 t5 t6 hc hst hkc hk0 hown hbel hT ht hk';go_upto_region 5 with fail;have hbx:=below_box (w:=w3) (Obj.cells #[.int .u8 t.k,.string t.s,.int .u8 t.m,.int .i64 t.p.at_,.int .i64 t.p.line,.int .i64 t.p.col,.slice Ax mx cx] 47);have hkx:=blk_new w3 #[.int .u8 t.k,.string t.s,.int .u8 t.m,.int .i64 t.p.at_,.int .i64 t.p.line,.int .i64 t.p.col,.slice Ax mx cx] 47;obtain⟨w4,hw4⟩:∃ q,w3.alloc (Obj.cells #[.int .u8 t.k,.string t.s,.int .u8 t.m,.int .i64 t.p.at_,.int .i64 t.p.line,.int .i64 t.p.col,.slice Ax mx cx] 47)=q:=⟨_,rfl⟩;rw[hw4] at hbx hkx ⊢;obtain⟨b9,hb9⟩:∃ q,w3.heap.size=q:=⟨_,rfl⟩;have hkc:=Hkc.out.below hbx Hkc.out.lt;have hk0:=Hk0.out.below hbx Hk0.out.lt;have hown:=Hown.out.beyond hbx;have hbel:=Hbel.out.trans (hbx.mono Hbel.out.size)
    have hoo:∀ b,(Value.slice A5 k c5).ownBlock=some b→b7<b∧b<b9:=fun b e=>by have:=Hown.out.lt b e; omega
    have hcel:CelsV w4 (fun b=>b<w4.heap.size∧some b≠(Value.slice A5 k c5).ownBlock∧¬ (w.heap.size≤b∨R0 b)) (oneF t) [.int .u8 1,.int .u8 t.k,.string t.s,.int .u8 t.m,.int .i64 t.p.at_,.int .i64 t.p.line,.int .i64 t.p.col,.slice Ax mx cx]:=
     oneC (HT.out.keep (fun b (hb:b<w.heap.size∧¬ R0 b)=>⟨by have:=hbel.size; omega,fun e=>by have:=hoo b e.symm; omega,fun h=>h.elim (by omega) hb.2⟩) fun p hp=>hbel.cell hp.1)
    rw[hb9] at hkx ⊢;have q0:w4.cell? ⟨b9,0,none⟩=some (.int .u8 t.k):=hkx.cell 0;have q1:w4.cell? ⟨b9,1,none⟩=some (.string t.s):=hkx.cell 1;have q2:w4.cell? ⟨b9,2,none⟩=some (.int .u8 t.m):=hkx.cell 2;have q3:w4.cell? ⟨b9,3,none⟩=some (.int .i64 t.p.at_):=hkx.cell 3;have q4:w4.cell? ⟨b9,4,none⟩=some (.int .i64 t.p.line):=hkx.cell 4;have q5:w4.cell? ⟨b9,5,none⟩=some (.int .i64 t.p.col):=hkx.cell 5;have q6:w4.cell? ⟨b9,6,none⟩=some (.slice Ax mx cx):=hkx.cell 6;have z4:w4.cell? ⟨b7,4,none⟩=some (.slice A5 k c5):=hkc.cell 4;obtain⟨i0,hi0,hz0,hz1,hz2⟩:=info_parts fldInfo;have Hkc:=qq hkc;have Hk0:=qq hk0;have Hown:=qq hown;have Hbel:=qq hbel;have Hcel:=qq hcel;have Hoo:=qq hoo;have hw4s:b7+1≤w4.heap.size:=hkc.lt;clear hkc hk0 hown hbel hcel hbx hkx hw4 hb9 hoo
    go_wp2_with (at_builtin; refine wpList_append_cel w4 w4 rfl (.tmp 19) (.tmp 22) 69 rfl (b7+1) 97 i0 _ 8 88 Tryd.underlying69 hi0 hz0 hz1 hz2 rfl (by omega) (fun b=>w.heap.size≤b∨R0 b) (.slice A5 k c5) k _ rfl [.int .u8 1,.int .u8 t.k,.string t.s,.int .u8 t.m,.int .i64 t.p.at_,.int .i64 t.p.line,.int .i64 t.p.col,.slice Ax mx cx] (oneF t) rfl (by intro u hu; simp at hu; rcases hu with rfl | rfl | rfl | rfl | rfl | rfl | rfl | rfl <;> rfl) rfl Hown.out Hcel.out (by unfold maxLen; omega) (by omega) (Below.refl _ _) (Nat.le_refl _) hw4s ?_; intro A9 c9 w9 ho9 hbel9 hg9 hz9 hn9; have hkc9:=Hkc.out.grown hg9 (fun e=>by have:=Hoo.out b7 e.symm; omega); have z4:w9.cell? ⟨b7,4,none⟩=some (.slice A5 k c5):=hkc9.cell 4; have f4:=hkc9.frozen 4)
    have hkd:=hkc9.set_ 4 (.slice A9 (k+1) c9);have hk0:=(Hk0.out.below hbel9 (by omega)).other (g':=b7) (by omega) 4 (.slice A9 (k+1) c9)
    have hod:=ho9.set (p:=⟨b7,4,none⟩) (Nat.lt_succ_self _) (Or.inl (by show w.heap.size≤b7; omega)) (.slice A9 (k+1) c9)
    have hbd:=(Hbel.out.trans (hbel9.mono (show w.heap.size≤b7+1 by omega))).setCell (p:=⟨b7,4,none⟩) (by show w.heap.size≤b7; omega) (.slice A9 (k+1) c9)
    rw[show(List.take k xs).flatMap oneF++oneF t=(List.take (k+1) xs).flatMap oneF by rw[Hst.out,List.flatMap_append]; simp] at hod
    have Hkd:=qq hkd;have Hk0':=qq hk0;have Hod:=qq hod;have Hbd:=qq hbd;clear hkd hk0 hod hbd z4 f4 hkc9 ho9 hbel9 hg9 hz9 hn9;go_roundg (nf - (k+1))
    case measure=>omega
    case rel=>exact⟨k+1,A9,c9,by omega,rfl,by go_num,Hkd.out,Hk0'.out,Hod.out,Hbd.out⟩
  · have d0:decide (k<nf)=false:=by simpa using hkn
    have hke:k=nf:=by omega
    subst hke;have hall:xs.take k=xs:=List.take_of_length_le (by omega);rw[hall] at hown;have z0:w3.cell? ⟨b7,0,none⟩=some (.string ⟨#[65]⟩):=hkc.cell 0;have z1:w3.cell? ⟨b7,1,none⟩=some (.int .i64 9):=hkc.cell 1;have z2:w3.cell? ⟨b7,2,none⟩=some (.int .i64 1):=hkc.cell 2;have z3:w3.cell? ⟨b7,3,none⟩=some (.int .i64 10):=hkc.cell 3;have z4:w3.cell? ⟨b7,4,none⟩=some (.slice A5 k c5):=hkc.cell 4;have Hk0:=qq hk0;have Hown:=qq hown;have Hbel:=qq hbel;clear hall hkc hk0 hown hbel;go_upto_region 7 with fail;refine wp_region_noPanic ?_;refine wp_region_T (fun w'=>w'.cell? ⟨b7,0,none⟩=some (.string ⟨#[65]⟩)∧w'.cell? ⟨b7,1,none⟩=some (.int .i64 9)∧w'.cell? ⟨b7,2,none⟩=some (.int .i64 1)∧w'.cell? ⟨b7,3,none⟩=some (.int .i64 10)∧w'.cell? ⟨b7,4,none⟩=some (.slice A5 k c5)) 8 (by kernel_rfl) ⟨z0,z1,z2,z3,z4⟩ (fun hHeld=>?_);have hbd:Below w3.heap.size w3 w3.drew:=Below.drew (Below.refl _ _);have Hk4:=qq (Hk0.out.below hbd Hk0.out.lt);have Ho4:=qq (Hown.out.beyond hbd);have Hb4:=qq (Hbel.out.trans (hbd.mono Hbel.out.size));clear z0 z1 z2 z3 z4 hbd Hk0 Hown Hbel;generalize w3.drew=w4 at hHeld Hk4 Ho4 Hb4 ⊢;have held_below:∀ (W W':World),Below W.heap.size W W'→(W.cell? ⟨b7,0,none⟩=some (.string ⟨#[65]⟩)∧W.cell? ⟨b7,1,none⟩=some (.int .i64 9)∧W.cell? ⟨b7,2,none⟩=some (.int .i64 1)∧W.cell? ⟨b7,3,none⟩=some (.int .i64 10)∧W.cell? ⟨b7,4,none⟩=some (.slice A5 k c5))→(W'.cell? ⟨b7,0,none⟩=some (.string ⟨#[65]⟩)∧W'.cell? ⟨b7,1,none⟩=some (.int .i64 9)∧W'.cell? ⟨b7,2,none⟩=some (.int .i64 1)∧W'.cell? ⟨b7,3,none⟩=some (.int .i64 10)∧W'.cell? ⟨b7,4,none⟩=some (.slice A5 k c5)):=fun W W' hb h=>⟨(hb.cell (block_lt_of_cell h.1)).trans h.1,(hb.cell (block_lt_of_cell h.2.1)).trans h.2.1,(hb.cell (block_lt_of_cell h.2.2.1)).trans h.2.2.1,(hb.cell (block_lt_of_cell h.2.2.2.1)).trans h.2.2.2.1,(hb.cell (block_lt_of_cell h.2.2.2.2)).trans h.2.2.2.2⟩;have HHb:=qq held_below;clear held_below
    refine wpAnyT_take (i:=0) (v:=?_) rfl (by kernel_rfl) (by kernel_rfl) (by kernel_rfl) (by kernel_rfl) (fun _ _ _ h=>h) (Or.inl ⟨by kernel_rfl,?_⟩) (by assumption) ?_
    rotate_left
    · (intro w hSw; (try dsimp only at hSw); first | (go_simp; done) | (go_simp; with_reducible rfl))
    try simp only[Act.put,qg,qe,qf,qd,qh,qi]
    refine nx0 2 ?_
    iterate 2 (refine nx (v:=?_) rfl (by kernel_rfl) (fun _ _ _ h=>h) (by kernel_rfl) ?_ (by assumption) ?_; rotate_left; (focus (intro w hSw; (try dsimp only at hSw); first | (go_simp; done) | (go_simp; with_reducible rfl))); try simp only[Act.put,qg,qe,qf,qd,qh,qi,Nat.reduceAdd])
    refine nx9 ?_;refine wpAnyT_step (i:=1) (by kernel_rfl) rfl (fun K hK=>?_)
    (go_simp; refine(at13_any 5 (by omega) (by omega) w4).mono ?_; rintro e w5 ⟨rfl,hq5⟩; have Hk5:=qq (Hk4.out.below hq5 Hk4.out.lt); have Ho5:=qq (Ho4.out.beyond hq5); have Hb5:=qq (Hb4.out.trans (hq5.mono Hb4.out.size)); replace hHeld:=HHb.out _ _ hq5 hHeld; clear hq5)
    refine hK.out _ _ hHeld ?_;clear hK K
    try simp only[Act.put,qg,qe,qf,qd,qh,qi]
    clear Hk4 Ho4 Hb4;refine wpAnyT_step (i:=4) (by kernel_rfl) rfl (fun K hK=>?_)
    (go_simp; refine(at13_any 30 (by omega) (by omega) w5).mono ?_; rintro e w6 ⟨rfl,hq6⟩; have Hk6:=qq (Hk5.out.below hq6 Hk5.out.lt); have Ho6:=qq (Ho5.out.beyond hq6); have Hb6:=qq (Hb5.out.trans (hq6.mono Hb5.out.size)); replace hHeld:=HHb.out _ _ hq6 hHeld; clear hq6)
    refine hK.out _ _ hHeld ?_;clear hK K
    try simp only[Act.put,qg,qe,qf,qd,qh,qi]
    clear Hk5 Ho5 Hb5
    refine wpAnyT_take (i:=5) (v:=?_) rfl (by kernel_rfl) (by kernel_rfl) (by kernel_rfl) (by kernel_rfl) (fun _ _ _ h=>h) (Or.inl ⟨by kernel_rfl,?_⟩) (by assumption) ?_
    rotate_left
    · (intro w hSw; (try dsimp only at hSw); first | (go_simp; done) | (go_simp; with_reducible rfl))
    try simp only[Act.put,qg,qe,qf,qd,qh,qi]
    have hbx:=below_box (w:=w6) (Obj.cells #[.string ⟨#[65]⟩,.int .i64 9,.int .i64 1,.int .i64 10,.slice A5 k c5,.string ⟨#[66]⟩,.int .i64 30,.int .i64 1,.int .i64 31,.slice none 0 0] 71);have hkx:=blk_new w6 #[.string ⟨#[65]⟩,.int .i64 9,.int .i64 1,.int .i64 10,.slice A5 k c5,.string ⟨#[66]⟩,.int .i64 30,.int .i64 1,.int .i64 31,.slice none 0 0] 71;obtain⟨w7,hw7⟩:∃ q,w6.alloc (Obj.cells #[.string ⟨#[65]⟩,.int .i64 9,.int .i64 1,.int .i64 10,.slice A5 k c5,.string ⟨#[66]⟩,.int .i64 30,.int .i64 1,.int .i64 31,.slice none 0 0] 71)=q:=⟨_,rfl⟩;rw[hw7] at hbx hkx;have HW7:=qq hw7;have hg6:=Hk6.out.lt;have Hk7:=qq (Hk6.out.below hbx Hk6.out.lt);have Ho7:=qq (Ho6.out.beyond hbx);have Hb7:=qq (Hb6.out.trans (hbx.mono Hb6.out.size));have HHeld7:=qq (HHb.out _ _ hbx hHeld);have Hkg:=qq hkx;clear hw7 hbx hkx;refine wpAnyT_step (i:=6) (by kernel_rfl) rfl (fun K hK=>?_)
    (go_simp; rw[show w6.alloc (Obj.cells #[.string { data:=#[65] },.int .i64 9,.int .i64 1,.int .i64 10,.slice A5 k c5,.string { data:=#[66] },.int .i64 30,.int .i64 1,.int .i64 31,.slice none 0 0] 71)=w7 from HW7.out])
    refine hK.out _ _ HHeld7.out ?_;clear hK K
    try simp only[Act.put,qg,qe,qf,qd,qh,qi]
    replace hHeld:=HHeld7.out;have hol:∀ b,(Value.slice A5 k c5).ownBlock=some b→b<w6.heap.size:=fun b e=>(Ho6.out.lt b e).2;have Hol:=qq hol;clear hol;obtain⟨gc,hgc⟩:∃ q,w6.heap.size=q:=⟨_,rfl⟩;rw[hgc] at Hkg hg6 Hol ⊢
    refine wpAnyT_take (i:=7) (v:=?_) rfl (by kernel_rfl) (by kernel_rfl) (by kernel_rfl) (by kernel_rfl) (fun _ _ _ h=>h) (Or.inl ⟨by kernel_rfl,?_⟩) (by assumption) ?_
    rotate_left
    · (intro w hSw; (try dsimp only at hSw); first | (go_simp; done) | (go_simp; with_reducible rfl))
    try simp only[Act.put,qg,qe,qf,qd,qh,qi]
    clear hHeld HHeld7 Hk6 Ho6 Hb6 HW7 hgc
    have ht:w7.there w.heap.size 0 (declCells name Ap np cp gc).size:=fun j hj=>⟨by rw[Hk7.out.cell]; have:j<16:=hj; simp[zeroDl,Nat.zero_add]; omega,Hk7.out.frozen _⟩
    refine wpAnyT_seq 8 (by omega) (by rfl) (by kernel_rfl) ?_;simp only[List.drop_succ_cons,List.drop_zero];refine wpList_store_mid rfl 40 (.tmp 6) (.tmp 33) rfl w.heap.size 0 (declCells name Ap np cp gc) rfl rfl ht (by kernel_rfl) (declCells_one name Ap np cp gc) ?_
    have hr:=World.rangeAt_setCells_same w7 w.heap.size 0 (declCells name Ap np cp gc).toList (by rw[Array.length_toList]; exact ht)
    have hgc7:gc<w7.heap.size:=Hkg.out.lt;have hb9:=Below.setCells (Nat.le_refl w.heap.size) (declCells name Ap np cp gc).toList 0 w7 Hb7.out;have hob9:=OwnC.setCells (b:=w.heap.size) (by omega) (Or.inl (Nat.le_refl _)) (declCells name Ap np cp gc).toList 0 w7 Ho7.out;have hkg9:Blk (w7.setCells w.heap.size 0 (declCells name Ap np cp gc).toList) gc _ _:=(setCells_block (b:=w.heap.size) (i:=gc) (by omega) (declCells name Ap np cp gc).toList 0 w7).trans Hkg.out;refine NoPanic.normal ?_;generalize w7.setCells w.heap.size 0 (declCells name Ap np cp gc).toList=w9 at hr hb9 hob9 hkg9 ⊢;have Hb9:=qq hb9;have Ho9:=qq hob9;have Hkg9:=qq hkg9;have d:=fun j (v:Value) (h:(declCells name Ap np cp gc).toList[j]?=some v)=>hr j v h;have d0:w9.cell? ⟨w.heap.size,0,none⟩=some (.int .u8 1):=d 0 _ rfl;have d1:w9.cell? ⟨w.heap.size,1,none⟩=some (.string name):=d 1 _ rfl;have d2:w9.cell? ⟨w.heap.size,2,none⟩=some (.int .i64 5):=d 2 _ rfl;have d3:w9.cell? ⟨w.heap.size,3,none⟩=some (.int .i64 1):=d 3 _ rfl;have d4:w9.cell? ⟨w.heap.size,4,none⟩=some (.int .i64 6):=d 4 _ rfl;have d5:w9.cell? ⟨w.heap.size,5,none⟩=some (.slice Ap np cp):=d 5 _ rfl;have d6:w9.cell? ⟨w.heap.size,6,none⟩=some (.slice (some ⟨gc,0,none⟩) 2 2):=d 6 _ rfl;have d7:w9.cell? ⟨w.heap.size,7,none⟩=some (.bool false):=d 7 _ rfl;have d8:w9.cell? ⟨w.heap.size,8,none⟩=some (.int .u8 0):=d 8 _ rfl;have d9:w9.cell? ⟨w.heap.size,9,none⟩=some (.string ⟨#[]⟩):=d 9 _ rfl;have d10:w9.cell? ⟨w.heap.size,10,none⟩=some (.int .i64 0):=d 10 _ rfl;have d11:w9.cell? ⟨w.heap.size,11,none⟩=some (.int .i64 0):=d 11 _ rfl;have d12:w9.cell? ⟨w.heap.size,12,none⟩=some (.int .i64 0):=d 12 _ rfl;have d13:w9.cell? ⟨w.heap.size,13,none⟩=some (.int .i64 0):=d 13 _ rfl;have d14:w9.cell? ⟨w.heap.size,14,none⟩=some (.slice none 0 0):=d 14 _ rfl;have d15:w9.cell? ⟨w.heap.size,15,none⟩=some (.slice none 0 0):=d 15 _ rfl;clear d hr hb9 hob9 hkg9;go_wp2_with fail;exact bodyPost_ret (v:=.agg (declCells name Ap np cp gc)) (by simp[results,Tryd.results10,go_sem,declCells,d0,d1,d2,d3,d4,d5,d6,d7,d8,d9,d10,d11,d12,d13,d14,d15]) rfl ⟨gc,A5,c5,b7+1,rfl,Hb9.out,Nat.le_of_lt hg6,Nat.lt_succ_of_lt hs7,Hkg9.out,Ho9.out,Hol.out⟩
theorem Sl.new {X:Type} {enc:X→List Cel} {k:Nat} (w:World) (S0:Nat→Prop) (h0:∀ b,S0 b→b<w.heap.size) (xs:List X) (us:List Value) (T:TypeId) (n:Nat) (hn:xs.length=n) (hm:n≤maxLen) (hc:CelsV w S0 (xs.flatMap enc) us):Sl (w.alloc (Obj.cells us.toArray T)) (fun b=>S0 b∨b=w.heap.size) enc k xs (some ⟨w.heap.size,0,none⟩) n n:=by
 have hb:=below_box (w:=w) (Obj.cells us.toArray T);refine⟨hn,Nat.le_refl _,hm,fun _=>⟨w.heap.size,0,rfl,Or.inr rfl,(hc.keep (S':=fun b=>S0 b∨b=w.heap.size) (fun b hb=>Or.inl hb) fun p hp=>hb.cell (h0 _ hp)).in_ fun j u hu=>?_⟩⟩;rw[Nat.zero_add,(blk_new w us.toArray T).cell j]
 simpa using hu
theorem Sl.freshS {X:Type} {enc:X→List Cel} {k:Nat} {w w':World} {S:Nat→Prop} {xs:List X} {A:Option Addr} {m cp:Nat} (h:Sl w S enc k xs A m cp) (h0:∀ b,S b→b<w.heap.size) (hb:Below w.heap.size w w'):Sl w' S enc k xs A m cp:=h.keep (fun _ h=>h) fun p hp=>hb.cell (h0 _ hp)
theorem wC {w:World} {S:Nat→Prop} {t:TyW} {A:Option Addr} {m c:Nat} (h:Sl w S encW 7 t.l A m c):CelsV w S (encW t) [.int .u8 t.k,.string t.s,.int .u8 t.m,.int .i64 t.p.at_,.int .i64 t.p.line,.int .i64 t.p.col,.slice A m c]:=by
 rw[encW_eq];exact⟨celIn_v.2 rfl,celIn_v.2 rfl,celIn_v.2 rfl,celIn_v.2 rfl,celIn_v.2 rfl,celIn_v.2 rfl,(sl_iff encW_len (by omega)).2 ⟨A,m,c,rfl,h⟩,trivial⟩
theorem CelsV.setv {w:World} {S:Nat→Prop} {u:Value}:∀ {l:List Cel} {us:List Value} (i:Nat),CelsV w S l us→CelsV w S (l.set i (.v u)) (us.set i u)
 | [],[],_,_=>trivial
 | c :: r,x :: us,0,h=>⟨celIn_v.2 rfl,h.2⟩
 | c :: r,x :: us,i+1,h=>⟨h.1,CelsV.setv i h.2⟩
 | [],_ :: _,_,h=>h.elim
 | _ :: _,[],_,h=>h.elim
theorem OwnC.put {w:World} {base:Nat} {e:TypeId} {k:Nat} {R:Nat→Prop} {g n c:Nat} {l:List Cel} (h:OwnC w base e k R (.slice (some ⟨g,0,none⟩) n c) n l) (i:Nat) (u:Value):OwnC (w.setCell ⟨g,i,none⟩ u) base e k R (.slice (some ⟨g,0,none⟩) n c) n (l.set i (.v u)):=by
 obtain⟨h0,cs,h1,h2⟩:=h
 refine⟨by rw[List.length_set]; exact h0,cs.set i u,(h1.stored i u).1,(h2.setv i).keep (fun b hb=>⟨by rw[World.size_setCell]; exact hb.1,hb.2⟩) fun p hp=>World.cell?_setCell_other _ _ _ _ fun e=>hp.2.1 (by rw[← e]; rfl)⟩
def nT:ByteArray:=⟨#[84]⟩
def na:ByteArray:=⟨#[97]⟩
def nA:ByteArray:=⟨#[65]⟩
def nB:ByteArray:=⟨#[66]⟩
def wyA (n:Int):TyW:=.mk 1 na 0 (atP n) []
def wyT:TyW:=.mk 2 nT 0 (atP 18) [wyA 20]
def tD:DeclD:=⟨1,nT,atP 5,[na],[⟨nA,atP 9,[⟨1,wyA 13⟩,⟨3,wyT⟩]⟩,⟨nB,atP 30,[]⟩],false,.int .u8 0,.string ⟨#[]⟩,.int .i64 0,.int .i64 0,.int .i64 0,.int .i64 0,.slice none 0 0,.slice none 0 0⟩
theorem na_ge:(!Op.bytesLess (⟨#[97]⟩:ByteArray).toList [97])=true:=by decide +kernel
theorem nT_ge:(!Op.bytesLess (⟨#[84]⟩:ByteArray).toList [97])=false:=by decide +kernel
def TPost (w:World) (e:Ending) (w':World):Prop:=
 ∃ Ap np cp Ac nc cc,e=.returned (.agg (dlCells tD Ap np cp Ac nc cc))∧Sl w' (Lt w'.heap.size) encS 1 tD.params Ap np cp∧Sl w' (Lt w'.heap.size) encC 5 tD.cons Ac nc cc∧Below w.heap.size w w'
theorem t_any (w:World):Calls Tryd.prog 9 #[] w (TPost w):=by
 have hbx:=below_box (w:=w) (Obj.cells zeroDl 40);have hkx:=blk_new w zeroDl 40;obtain⟨W,hW⟩:∃ q,w.alloc (Obj.cells zeroDl 40)=q:=⟨_,rfl⟩;rw[hW] at hbx hkx;have hwW:=hkx.lt;have HW:=qq hW;have Hb:=qq hbx;have Hk:=qq hkx;clear hW hbx hkx
 go_enter Tryd.func9,Tryd.ntmps9
 go_upto_region 1 with fail
 rw[show w.alloc (Obj.cells #[.int .u8 0,.string ⟨#[]⟩,.int .i64 0,.int .i64 0,.int .i64 0,.slice none 0 0,.slice none 0 0,.bool false,.int .u8 0,.string ⟨#[]⟩,.int .i64 0,.int .i64 0,.int .i64 0,.int .i64 0,.slice none 0 0,.slice none 0 0] 40)=W from HW.out]
 clear HW;refine wp_region_list ?_;refine wpList_plain rfl fun K hK=>?_;go_simp;refine hK _ _ ?_;clear hK K;have hb1:=below_box (w:=W) (Obj.cells #[.string ⟨#[97]⟩] 9)
 have hs1:=Sl.new (enc:=encS) (k:=1) W (fun _=>False) (fun _ h=>h.elim) [na] [.string ⟨#[97]⟩] 9 1 rfl (by unfold maxLen; omega) ⟨celIn_v.2 rfl,trivial⟩
 obtain⟨w1,hw1⟩:∃ q,W.alloc (Obj.cells #[.string ⟨#[97]⟩] 9)=q:=⟨_,rfl⟩
 have hz1:w1.heap.size=W.heap.size+1:=by rw[← hw1]; simp
 rw[show W.alloc (Obj.cells ([.string ⟨#[97]⟩]:List Value).toArray 9)=w1 from hw1] at hs1
 rw[show W.alloc (Obj.cells #[.string { data:=#[97] }] 9)=w1 from hw1]
 rw[hw1] at hb1;have hB1:=Hb.out.trans (hb1.mono Hb.out.size);have hk1:=Hk.out.below hb1 Hk.out.lt;have Hs1:=qq hs1;have HB1:=qq hB1;have Hk1:=qq hk1
 have e1:∀ b,(False∨b=W.heap.size)→b<w1.heap.size:=fun b h=>h.elim (fun q=>q.elim) fun q=>by omega
 clear hw1 hb1 hs1 hB1 hk1 Hb Hk;refine wpList_plain rfl fun K hK=>?_;go_simp;refine(named_any ⟨#[97]⟩ true na_ge 13 (by omega) (by omega) none 0 0 w1).mono ?_;rintro e w2 ⟨rfl,hq⟩;refine hK _ _ ?_;clear hK K;have Hs2:=qq (Hs1.out.freshS e1 hq);have e2:∀ b,(False∨b=W.heap.size)→b<w2.heap.size:=fun b h=>Nat.lt_of_lt_of_le (e1 b h) hq.size;have HB2:=qq (HB1.out.trans (hq.mono HB1.out.size));have Hk2:=qq (Hk1.out.below hq Hk1.out.lt);clear hq Hs1 HB1 Hk1;refine wpList_plain rfl fun K hK=>?_;go_simp;refine(named_any ⟨#[97]⟩ true na_ge 20 (by omega) (by omega) none 0 0 w2).mono ?_;rintro e w3 ⟨rfl,hq⟩;refine hK _ _ ?_;clear hK K;have Hs3:=qq (Hs2.out.freshS e2 hq);have e3:∀ b,(False∨b=W.heap.size)→b<w3.heap.size:=fun b h=>Nat.lt_of_lt_of_le (e2 b h) hq.size;have HB3:=qq (HB2.out.trans (hq.mono HB2.out.size));have Hk3:=qq (Hk2.out.below hq Hk2.out.lt);have Hk3l:=Hk3.out.lt;clear hq Hs2 HB2 Hk2;refine wpList_plain rfl fun K hK=>?_;go_simp;refine hK _ _ ?_;clear hK K;have hb1:=below_box (w:=w3) (Obj.cells #[.int .u8 1,.string ⟨#[97]⟩,.int .u8 0,.int .i64 20,.int .i64 1,.int .i64 21,.slice none 0 0] 47)
 have hs1:=Sl.new (enc:=encW) (k:=7) w3 (fun _=>False) (fun _ h=>h.elim) [wyA 20] [.int .u8 1,.string ⟨#[97]⟩,.int .u8 0,.int .i64 20,.int .i64 1,.int .i64 21,.slice none 0 0] 47 1 rfl (by unfold maxLen; omega) (by rw[List.flatMap_cons,List.flatMap_nil,List.append_nil]; exact wC (t:=wyA 20) Sl.nil)
 obtain⟨w4,hw4⟩:∃ q,w3.alloc (Obj.cells #[.int .u8 1,.string ⟨#[97]⟩,.int .u8 0,.int .i64 20,.int .i64 1,.int .i64 21,.slice none 0 0] 47)=q:=⟨_,rfl⟩
 have hz4:w4.heap.size=w3.heap.size+1:=by rw[← hw4]; simp
 rw[show w3.alloc (Obj.cells ([.int .u8 1,.string ⟨#[97]⟩,.int .u8 0,.int .i64 20,.int .i64 1,.int .i64 21,.slice none 0 0]:List Value).toArray 47)=w4 from hw4] at hs1
 rw[show w3.alloc (Obj.cells #[.int .u8 1,.string { data:=#[97] },.int .u8 0,.int .i64 20,.int .i64 1,.int .i64 21,.slice none 0 0] 47)=w4 from hw4]
 rw[hw4] at hb1;have Hs4:=qq (Hs3.out.freshS e3 hb1);have e4:∀ b,(False∨b=W.heap.size)→b<w4.heap.size:=fun b h=>Nat.lt_of_lt_of_le (e3 b h) hb1.size
 have i4:∀ b,(False∨b=w3.heap.size)→b<w4.heap.size:=fun b h=>h.elim (fun q=>q.elim) fun q=>by omega
 have HB4:=qq (HB3.out.trans (hb1.mono HB3.out.size));have Hk4:=qq (Hk3.out.below hb1 Hk3.out.lt);have Hi4:=qq hs1;clear hw4 hb1 hs1 Hs3 Hk3;refine wpList_plain rfl fun K hK=>?_;go_simp;refine(named_any ⟨#[84]⟩ false nT_ge 18 (by omega) (by omega) (some ⟨w3.heap.size,0,none⟩) 1 1 w4).mono ?_;rintro e w5 ⟨rfl,hq⟩;refine hK _ _ ?_;clear hK K;have Hs5:=qq (Hs4.out.freshS e4 hq);have e5:∀ b,(False∨b=W.heap.size)→b<w5.heap.size:=fun b h=>Nat.lt_of_lt_of_le (e4 b h) hq.size;have i5:∀ b,(False∨b=w3.heap.size)→b<w5.heap.size:=fun b h=>Nat.lt_of_lt_of_le (i4 b h) hq.size;have HB5:=qq (HB4.out.trans (hq.mono HB4.out.size));have Hk5:=qq (Hk4.out.below hq Hk4.out.lt);have Hi5:=qq (Hi4.out.freshS i4 hq);clear hq Hs4 HB4 Hk4 Hi4;refine wpList_plain rfl fun K hK=>?_;go_simp;refine hK _ _ ?_;clear hK K;have hb1:=below_box (w:=w5) (Obj.cells #[.int .u8 1,.string ⟨#[97]⟩,.int .u8 0,.int .i64 13,.int .i64 1,.int .i64 14,.slice none 0 0,.int .u8 2,.string ⟨#[84]⟩,.int .u8 0,.int .i64 18,.int .i64 1,.int .i64 19,.slice (some ⟨w3.heap.size,0,none⟩) 1 1] 47)
 have hs1:=Sl.new (enc:=encW) (k:=7) w5 _ i5 [wyA 13,wyT] [.int .u8 1,.string ⟨#[97]⟩,.int .u8 0,.int .i64 13,.int .i64 1,.int .i64 14,.slice none 0 0,.int .u8 2,.string ⟨#[84]⟩,.int .u8 0,.int .i64 18,.int .i64 1,.int .i64 19,.slice (some ⟨w3.heap.size,0,none⟩) 1 1] 47 2 rfl (by unfold maxLen; omega) (by rw[List.flatMap_cons,List.flatMap_cons,List.flatMap_nil,List.append_nil]; exact CelsV.append (us:=[_,_,_,_,_,_,_]) (wC (t:=wyA 13) Sl.nil) (wC (t:=wyT) Hi5.out))
 obtain⟨w6,hw6⟩:∃ q,w5.alloc (Obj.cells #[.int .u8 1,.string ⟨#[97]⟩,.int .u8 0,.int .i64 13,.int .i64 1,.int .i64 14,.slice none 0 0,.int .u8 2,.string ⟨#[84]⟩,.int .u8 0,.int .i64 18,.int .i64 1,.int .i64 19,.slice (some ⟨w3.heap.size,0,none⟩) 1 1] 47)=q:=⟨_,rfl⟩
 have hz6:w6.heap.size=w5.heap.size+1:=by rw[← hw6]; simp
 rw[show w5.alloc (Obj.cells ([.int .u8 1,.string ⟨#[97]⟩,.int .u8 0,.int .i64 13,.int .i64 1,.int .i64 14,.slice none 0 0,.int .u8 2,.string ⟨#[84]⟩,.int .u8 0,.int .i64 18,.int .i64 1,.int .i64 19,.slice (some ⟨w3.heap.size,0,none⟩) 1 1]:List Value).toArray 47)=w6 from hw6] at hs1
 rw[show w5.alloc (Obj.cells #[.int .u8 1,.string { data:=#[97] },.int .u8 0,.int .i64 13,.int .i64 1,.int .i64 14,.slice none 0 0,.int .u8 2,.string { data:=#[84] },.int .u8 0,.int .i64 18,.int .i64 1,.int .i64 19,.slice (some ⟨w3.heap.size,0,none⟩) 1 1] 47)=w6 from hw6]
 rw[hw6] at hb1;have Hs6:=qq (Hs5.out.freshS e5 hb1);have e6:∀ b,(False∨b=W.heap.size)→b<w6.heap.size:=fun b h=>Nat.lt_of_lt_of_le (e5 b h) hb1.size
 have i6:∀ b,((False∨b=w3.heap.size)∨b=w5.heap.size)→b<w6.heap.size∧¬ b=w.heap.size:=fun b h=>by
  have:=HB5.out.size;have:=HB3.out.size;have:=Hk3l
  rcases h with (h | h) | h
  · exact h.elim
  · exact⟨Nat.lt_of_lt_of_le (i5 b (Or.inr h)) hb1.size,by omega⟩
  · exact⟨by omega,by have:=Hk5.out.lt; omega⟩
 have HB6:=qq (HB5.out.trans (hb1.mono HB5.out.size));have Hk6:=qq (Hk5.out.below hb1 Hk5.out.lt);have Hi6:=qq hs1;clear hw6 hb1 hs1 Hs5 HB5 Hk5 Hi5;refine wpList_plain rfl fun K hK=>?_;go_simp;refine(decl_any (fun b=>b=w.heap.size) ⟨#[84]⟩ (some ⟨W.heap.size,0,none⟩) 1 1 (some ⟨w5.heap.size,0,none⟩) 2 2 [wyA 13,wyT] w6 (Hi6.out.mono i6) (by omega)).mono ?_;rintro e w7 ⟨gc,A5,c5,base,rfl,hq,hgc,hbs,hkg,hown,hol⟩;refine hK _ _ ?_;clear hK K;have Hq7:=qq hq;have hs6w:=HB6.out.size;have Hol:=qq hol;have hs67:=hq.size;have HB7:=qq (HB6.out.trans (hq.mono HB6.out.size));have Hk7:=qq (Hk6.out.below hq Hk6.out.lt);have Hkg:=qq hkg;have Hown:=qq hown;clear hq HB6 Hk6 Hi6 hkg hown hol;refine wpList_plain rfl fun K hK=>?_;go_simp;refine hK _ _ ?_;clear hK K;refine wpList_store_new rfl 40 (.tmp 1) (.tmp 8) rfl zeroDl (declCells ⟨#[84]⟩ (some ⟨W.heap.size,0,none⟩) 1 1 gc) rfl rfl (by kernel_rfl) rfl (declCells_one _ _ _ _ _) ?_;have hbx:=below_box (w:=w7) (Obj.cells (declCells ⟨#[84]⟩ (some ⟨W.heap.size,0,none⟩) 1 1 gc) 40);have hkx:=blk_new w7 (declCells ⟨#[84]⟩ (some ⟨W.heap.size,0,none⟩) 1 1 gc) 40;obtain⟨w8,hw8⟩:∃ q,w7.alloc (Obj.cells (declCells ⟨#[84]⟩ (some ⟨W.heap.size,0,none⟩) 1 1 gc) 40)=q:=⟨_,rfl⟩;rw[hw8] at hbx hkx ⊢;have hown:=Hown.out.beyond hbx;obtain⟨hl0,cs,hrow,hcv⟩:=hown;obtain⟨g,rfl,hgo,hg1,hg2,hgc1,hgf⟩:=own_addr hrow (by omega)
 have hcl:8<cs.length:=by have:=hcv.len; rw[this]; rw[hl0]; decide
 have z8:w8.cell? ⟨g,8,none⟩=some cs[8]:=hgc1 8 _ (qj hcl);have f8:=hgf 8;have y6:w8.cell? ⟨w7.heap.size,6,none⟩=some (.slice (some ⟨gc,0,none⟩) 2 2):=hkx.cell 6;have hkg8:=Hkg.out.below hbx Hkg.out.lt;have z4:w8.cell? ⟨gc,4,none⟩=some (.slice (some ⟨g,0,none⟩) 2 c5):=hkg8.cell 4;have hown8:OwnC w8 base 97 8 (fun b=>w6.heap.size≤b∨b=w.heap.size) (.slice (some ⟨g,0,none⟩) 2 c5) 2 ([wyA 13,wyT].flatMap oneF):=⟨hl0,cs,hrow,hcv⟩;have hb68:=Hq7.out.trans (hbx.mono hs67);have Hown8:=qq (hown8.put 8 (.int .u8 3))
 have Hb69:=qq (hb68.setCell (p:=⟨g,8,none⟩) (by show w6.heap.size≤g; omega) (.int .u8 3))
 have hb68':=hbx.size
 have Hkx:=qq (hkx.other (g':=g) (fun e=>by have:=Hown.out.lt g (by rfl); omega) 8 (.int .u8 3))
 have hg7:=(Hown.out.lt g rfl);have hggc:=Hol.out g rfl;have Hkr:=qq ((Hk7.out.below hbx Hk7.out.lt).other (g':=g) (by omega) 8 (.int .u8 3));have Hkg9:=qq (hkg8.other (g':=g) (by omega) 8 (.int .u8 3))
 have Hb9:=qq ((HB7.out.trans (hbx.mono HB7.out.size)).setCell (p:=⟨g,8,none⟩) (by show w.heap.size≤g; omega) (.int .u8 3))
 clear hw8 hrow hcv hown8 hb68 hbx hkx hkg8;go_upto_region 3 with fail;obtain⟨w9,hw9⟩:∃ q,w8.setCell ⟨g,8,none⟩ (.int .u8 3)=q:=⟨_,rfl⟩;rw[hw9] at Hown8 Hb69 Hkx Hkr Hkg9 Hb9 ⊢
 have hW9:w9.heap.size=w8.heap.size:=by rw[← hw9,World.size_setCell]
 clear z8 f8 y6 z4 hw9 hgc1 hgf
 have hrx:w9.rangeAt w7.heap.size 0 (declCells ⟨#[84]⟩ (some ⟨W.heap.size,0,none⟩) 1 1 gc).toList:=fun j v hj=>by
  rw[Nat.zero_add,Hkx.out.cell j]
  simpa using hj
 have ht:w9.there w.heap.size 0 (declCells ⟨#[84]⟩ (some ⟨W.heap.size,0,none⟩) 1 1 gc).size:=fun j hj=>⟨by rw[Hkr.out.cell]; have:j<16:=hj; simp[zeroDl,Nat.zero_add]; omega,Hkr.out.frozen _⟩
 refine wp_region_list ?_;refine wpList_load_mid rfl 40 (.tmp 1) rfl w7.heap.size 0 rfl (declCells ⟨#[84]⟩ (some ⟨W.heap.size,0,none⟩) 1 1 gc).toList _ hrx Tryd.underlying40 rfl (by kernel_rfl) ?_;refine wpList_store_mid rfl 40 (.tmp 0) (.tmp 16) rfl w.heap.size 0 (declCells ⟨#[84]⟩ (some ⟨W.heap.size,0,none⟩) 1 1 gc) rfl rfl ht (by kernel_rfl) (declCells_one _ _ _ _ _) ?_
 have hr:=World.rangeAt_setCells_same w9 w.heap.size 0 (declCells ⟨#[84]⟩ (some ⟨W.heap.size,0,none⟩) 1 1 gc).toList (by rw[Array.length_toList]; exact ht)
 have hb9:=Below.setCells (Nat.le_refl w.heap.size) (declCells ⟨#[84]⟩ (some ⟨W.heap.size,0,none⟩) 1 1 gc).toList 0 w9 Hb9.out;have hob9:=OwnC.setCells (b:=w.heap.size) (by omega) (Or.inr rfl) (declCells ⟨#[84]⟩ (some ⟨W.heap.size,0,none⟩) 1 1 gc).toList 0 w9 Hown8.out;have hbl:=fun i (h:i≠w.heap.size)=>setCells_block (b:=w.heap.size) (i:=i) h (declCells ⟨#[84]⟩ (some ⟨W.heap.size,0,none⟩) 1 1 gc).toList 0 w9;have hkg9:Blk (w9.setCells w.heap.size 0 (declCells ⟨#[84]⟩ (some ⟨W.heap.size,0,none⟩) 1 1 gc).toList) gc _ _:=(hbl gc (by omega)).trans Hkg9.out
 have hs9:=(Hs6.out.freshS e6 Hb69.out).keep (w':=w9.setCells w.heap.size 0 (declCells ⟨#[84]⟩ (some ⟨W.heap.size,0,none⟩) 1 1 gc).toList) (fun _ h=>h) fun p hp=>World.cell?_of_block (hbl p.block (by
  rcases hp with q | q
  · exact q.elim
  · have:=Hk3l; rw[q]; omega))
 have hsz:=(Below.setCells (Nat.zero_le w.heap.size) (declCells ⟨#[84]⟩ (some ⟨W.heap.size,0,none⟩) 1 1 gc).toList 0 w9 (Below.refl 0 w9)).size;refine NoPanic.normal ?_;generalize w9.setCells w.heap.size 0 (declCells ⟨#[84]⟩ (some ⟨W.heap.size,0,none⟩) 1 1 gc).toList=wF at hr hb9 hob9 hkg9 hs9 hsz ⊢;have d:=fun j (v:Value) (h:(declCells ⟨#[84]⟩ (some ⟨W.heap.size,0,none⟩) 1 1 gc).toList[j]?=some v)=>hr j v h;have d0:wF.cell? ⟨w.heap.size,0,none⟩=some (.int .u8 1):=d 0 _ rfl;have d1:wF.cell? ⟨w.heap.size,1,none⟩=some (.string ⟨#[84]⟩):=d 1 _ rfl;have d2:wF.cell? ⟨w.heap.size,2,none⟩=some (.int .i64 5):=d 2 _ rfl;have d3:wF.cell? ⟨w.heap.size,3,none⟩=some (.int .i64 1):=d 3 _ rfl;have d4:wF.cell? ⟨w.heap.size,4,none⟩=some (.int .i64 6):=d 4 _ rfl;have d5:wF.cell? ⟨w.heap.size,5,none⟩=some (.slice (some ⟨W.heap.size,0,none⟩) 1 1):=d 5 _ rfl;have d6:wF.cell? ⟨w.heap.size,6,none⟩=some (.slice (some ⟨gc,0,none⟩) 2 2):=d 6 _ rfl;have d7:wF.cell? ⟨w.heap.size,7,none⟩=some (.bool false):=d 7 _ rfl;have d8:wF.cell? ⟨w.heap.size,8,none⟩=some (.int .u8 0):=d 8 _ rfl;have d9:wF.cell? ⟨w.heap.size,9,none⟩=some (.string ⟨#[]⟩):=d 9 _ rfl;have d10:wF.cell? ⟨w.heap.size,10,none⟩=some (.int .i64 0):=d 10 _ rfl;have d11:wF.cell? ⟨w.heap.size,11,none⟩=some (.int .i64 0):=d 11 _ rfl;have d12:wF.cell? ⟨w.heap.size,12,none⟩=some (.int .i64 0):=d 12 _ rfl;have d13:wF.cell? ⟨w.heap.size,13,none⟩=some (.int .i64 0):=d 13 _ rfl;have d14:wF.cell? ⟨w.heap.size,14,none⟩=some (.slice none 0 0):=d 14 _ rfl;have d15:wF.cell? ⟨w.heap.size,15,none⟩=some (.slice none 0 0):=d 15 _ rfl
 have hl:([wyA 13,wyT].flatMap oneF).set 8 (.v (.int .u8 3))=[(⟨1,wyA 13⟩:FieldD),⟨3,wyT⟩].flatMap encF:=by
  simp only[List.flatMap_cons,List.flatMap_nil,List.append_nil,oneF,encF,encW_eq];rfl
 rw[hl] at hob9;have hfs:=hob9.sl encF_len (by omega)
 have hcs:Sl wF (Lt wF.heap.size) encC 5 tD.cons (some ⟨gc,0,none⟩) 2 2:=by
  refine⟨rfl,Nat.le_refl _,by unfold maxLen; omega,fun _=>⟨gc,0,rfl,hkg9.lt,?_⟩⟩
  refine CelsV.in_ (us:=[.string ⟨#[65]⟩,.int .i64 9,.int .i64 1,.int .i64 10,.slice (some ⟨g,0,none⟩) 2 c5,.string ⟨#[66]⟩,.int .i64 30,.int .i64 1,.int .i64 31,.slice none 0 0]) ?_ fun j u hu=>?_
  · refine CelsV.append (a:=encC ⟨nA,atP 9,[⟨1,wyA 13⟩,⟨3,wyT⟩]⟩) (us:=[_,_,_,_,_]) ⟨celIn_v.2 rfl,celIn_v.2 rfl,celIn_v.2 rfl,celIn_v.2 rfl,(sl_iff encF_len (by omega)).2 ⟨_,_,_,rfl,hfs⟩,trivial⟩ (CelsV.append (a:=encC ⟨nB,atP 30,[]⟩) (b:=[]) (us:=[_,_,_,_,_]) (vs:=[]) ⟨celIn_v.2 rfl,celIn_v.2 rfl,celIn_v.2 rfl,celIn_v.2 rfl,(sl_iff (xs:=([]:List FieldD)) encF_len (by omega)).2 ⟨_,_,_,rfl,Sl.nil⟩,trivial⟩ trivial)
  · rw[Nat.zero_add,hkg9.cell j]
    simpa using hu
 have hps:Sl wF (Lt wF.heap.size) encS 1 tD.params (some ⟨W.heap.size,0,none⟩) 1 1:=hs9.mono fun b hb=>Nat.lt_of_lt_of_le (e6 b hb) (Nat.le_trans Hb69.out.size hsz);have Hcs:=qq hcs;have Hps:=qq hps;have HbF:=qq hb9;clear d hr hb9 hob9 hkg9 hs9 hfs hcs hps hl;go_wp2_with fail;exact bodyPost_ret (v:=.agg (declCells ⟨#[84]⟩ (some ⟨W.heap.size,0,none⟩) 1 1 gc)) (by simp[results,Tryd.results9,go_sem,declCells,d0,d1,d2,d3,d4,d5,d6,d7,d8,d9,d10,d11,d12,d13,d14,d15]) rfl ⟨_,1,1,some ⟨gc,0,none⟩,2,2,rfl,Hps.out,Hcs.out,HbF.out⟩
end Go.Proofs.YtgpeijkjmkocgaaDoor
