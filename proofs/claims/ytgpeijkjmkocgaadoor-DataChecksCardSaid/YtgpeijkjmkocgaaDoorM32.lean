import Derived.Test.YtgpeijkjmkocgaaDoorM31
import Derived.Test.YtgpeijkjmkocgaaDoorM30
set_option linter.unusedVariables false
set_option linter.unusedSimpArgs false
set_option maxHeartbeats 4000000
set_option maxRecDepth 100000
namespace Go.Proofs.YtgpeijkjmkocgaaDoor
open Go.RowKit
theorem setCells_block {b i:Nat} (h:i≠b):∀ (vs:List Value) (o:Nat) (w:World),(w.setCells b o vs).heap[i]?=w.heap[i]?
 | [],_,_=>rfl
 | v :: vs,o,w=>(setCells_block h vs (o+1) (w.setCell ⟨b,o,none⟩ v)).trans (Below.heap_setCell _ _ _ _ h)
theorem Below.setCells {B b:Nat} {w0:World} (hb:B≤b):∀ (vs:List Value) (o:Nat) (w:World),Below B w0 w→Below B w0 (w.setCells b o vs)
 | [],_,_,h=>h
 | v :: vs,o,w,h=>Below.setCells hb vs (o+1) _ (h.setCell (p:=⟨b,o,none⟩) hb v)
theorem OwnC.setCells {base:Nat} {e:TypeId} {k:Nat} {R:Nat→Prop} {u:Value} {n:Nat} {l:List Cel} {b:Nat} (hb:b<base) (hR:R b):∀ (vs:List Value) (o:Nat) (w:World),OwnC w base e k R u n l→OwnC (w.setCells b o vs) base e k R u n l
 | [],_,_,h=>h
 | v :: vs,o,w,h=>OwnC.setCells hb hR vs (o+1) _ (h.set (p:=⟨b,o,none⟩) hb hR v)
theorem fldInfo:(Tryd.prog.info? 97).map (fun i=>(i.zero,i.size,i.bytes))=some (some (.agg #[.int .u8 0,.int .u8 0,.string ByteArray.empty,.int .u8 0,.int .i64 0,.int .i64 0,.int .i64 0,.slice none 0 0]),8,88):=by kernel_rfl
def zeroDl:Array Value:=#[.int .u8 0,.string ⟨#[]⟩,.int .i64 0,.int .i64 0,.int .i64 0,.slice none 0 0,.slice none 0 0,.bool false,.int .u8 0,.string ⟨#[]⟩,.int .i64 0,.int .i64 0,.int .i64 0,.int .i64 0,.slice none 0 0,.slice none 0 0]
def declCells (name:ByteArray) (Ap:Option Addr) (np cp gc:Nat):Array Value:=#[.int .u8 1,.string name,.int .i64 5,.int .i64 1,.int .i64 6,.slice Ap np cp,.slice (some ⟨gc,0,none⟩) 2 2,.bool false,.int .u8 0,.string ⟨#[]⟩,.int .i64 0,.int .i64 0,.int .i64 0,.int .i64 0,.slice none 0 0,.slice none 0 0]
theorem declCells_one (name:ByteArray) (Ap:Option Addr) (np cp gc:Nat):(declCells name Ap np cp gc).all (·.oneCell')=true:=by
 refine Array.all_eq_true_iff_forall_mem.2 fun v hv=>?_
 have h:v∈(declCells name Ap np cp gc).toList:=by simpa using hv
 unfold declCells at h;simp only[qk,List.not_mem_nil,or_false] at h
 rcases h with rfl | rfl | rfl | rfl | rfl | rfl | rfl | rfl | rfl | rfl | rfl | rfl | rfl | rfl | rfl | rfl <;> rfl
def oneF (t:TyW):List Cel:=encF ⟨1,t⟩
theorem tyw_at {w:World} {S:Nat→Prop} {A:Option Addr} {n c:Nat} {l:List TyW} (h:Sl w S encW 7 l A n c) (hn:0<n):∃ b off,A=some ⟨b,off,none⟩∧S b∧∀ i (h:i<l.length),w.cell? ⟨b,off+i * 7,none⟩=some (.int .u8 l[i].k) ∧
  w.cell? ⟨b,off+i * 7+1,none⟩=some (.string l[i].s)∧w.cell? ⟨b,off+i * 7+2,none⟩=some (.int .u8 l[i].m)∧w.cell? ⟨b,off+i * 7+3,none⟩=some (.int .i64 l[i].p.at_)∧w.cell? ⟨b,off+i * 7+4,none⟩=some (.int .i64 l[i].p.line)∧w.cell? ⟨b,off+i * 7+5,none⟩=some (.int .i64 l[i].p.col)∧∃ A' m' c',w.cell? ⟨b,off+i * 7+6,none⟩=some (.slice A' m' c')∧Sl w S encW 7 l[i].l A' m' c':=by
 obtain⟨b,off,e,hb,hr⟩:=h.at_ encW_len hn;refine⟨b,off,e,hb,fun i hi=>?_⟩;have:=hr i hi;rw[encW_eq] at this;simp only[celsIn_cons,celIn_v,sl_iff (enc:=encW) (k:=7) encW_len (by omega)] at this;obtain⟨⟨u1,h1,rfl⟩,⟨u2,h2,rfl⟩,⟨u3,h3,rfl⟩,⟨u4,h4,rfl⟩,⟨u5,h5,rfl⟩,⟨u6,h6,rfl⟩,⟨u7,h7,A',m',c',rfl,h8⟩,_⟩:=this;exact⟨h1,h2,h3,h4,h5,h6,A',m',c',h7,h8⟩
theorem oneC {w:World} {S:Nat→Prop} {t:TyW} {A:Option Addr} {m c:Nat} (h:Sl w S encW 7 t.l A m c):CelsV w S (oneF t) [.int .u8 1,.int .u8 t.k,.string t.s,.int .u8 t.m,.int .i64 t.p.at_,.int .i64 t.p.line,.int .i64 t.p.col,.slice A m c]:=by
 unfold oneF encF;rw[encW_eq];exact⟨celIn_v.2 rfl,celIn_v.2 rfl,celIn_v.2 rfl,celIn_v.2 rfl,celIn_v.2 rfl,celIn_v.2 rfl,celIn_v.2 rfl,(sl_iff encW_len (by omega)).2 ⟨A,m,c,rfl,h⟩,trivial⟩
def DeclPost (R0:Nat→Prop) (name:ByteArray) (Ap:Option Addr) (np cp nf:Nat) (xs:List TyW) (w:World) (e:Ending) (w':World):Prop:=
 ∃ gc A5 c5 base,e=.returned (.agg (declCells name Ap np cp gc))∧Below w.heap.size w w'∧w.heap.size≤gc∧w.heap.size<base∧Blk w' gc 71 #[.string ⟨#[65]⟩,.int .i64 9,.int .i64 1,.int .i64 10,.slice A5 nf c5,.string ⟨#[66]⟩,.int .i64 30,.int .i64 1,.int .i64 31,.slice none 0 0] ∧
  OwnC w' base 97 8 (fun b=>w.heap.size≤b∨R0 b) (.slice A5 nf c5) nf (xs.flatMap oneF)∧∀ b,(Value.slice A5 nf c5).ownBlock=some b→b<gc
theorem decl_any (R0:Nat→Prop) (name:ByteArray) (Ap:Option Addr) (np cp:Nat) (Af:Option Addr) (nf cf:Nat) (xs:List TyW) (w:World) (hf:Sl w (fun b=>b<w.heap.size∧¬ R0 b) encW 7 xs Af nf cf) (hn:nf≤10):
  Calls Tryd.prog 10 #[.string name,.slice Ap np cp,.slice Af nf cf] w (DeclPost R0 name Ap np cp nf xs w):=by
 have hlen:=hf.len;have hbx:=below_box (w:=w) (Obj.cells zeroDl 40);have hkx:=blk_new w zeroDl 40;obtain⟨W,hW⟩:∃ q,w.alloc (Obj.cells zeroDl 40)=q:=⟨_,rfl⟩;rw[hW] at hbx hkx;have hq:=at13_any 9 (by omega) (by omega) W;have HW:=qq hW;have Hb:=qq hbx;have Hk:=qq hkx;have Hq:=qq hq;have HF:=qq hf;clear hW hbx hkx hq hf
 go_enter Tryd.func10,Tryd.ntmps10
 go_upto_region 1 with fail
 rw[show w.alloc (Obj.cells #[.int .u8 0,.string ⟨#[]⟩,.int .i64 0,.int .i64 0,.int .i64 0,.slice none 0 0,.slice none 0 0,.bool false,.int .u8 0,.string ⟨#[]⟩,.int .i64 0,.int .i64 0,.int .i64 0,.int .i64 0,.slice none 0 0,.slice none 0 0] 40)=W from HW.out]
 go_wp2_with fail;refine Hq.out.mono ?_;rintro e w1 ⟨rfl,hb1⟩;have hk1:=Hk.out.below hb1 Hk.out.lt;have hb1':=Hb.out.trans (hb1.mono Hb.out.size);clear hb1 Hq Hb Hk HW;go_upto_region 2 with fail;have hbx:=below_box (w:=w1) (Obj.cells #[.string ⟨#[65]⟩,.int .i64 9,.int .i64 1,.int .i64 10,.slice none 0 0] 71);have hkx:=blk_new w1 #[.string ⟨#[65]⟩,.int .i64 9,.int .i64 1,.int .i64 10,.slice none 0 0] 71;obtain⟨w2,hw2⟩:∃ q,w1.alloc (Obj.cells #[.string ⟨#[65]⟩,.int .i64 9,.int .i64 1,.int .i64 10,.slice none 0 0] 71)=q:=⟨_,rfl⟩;rw[hw2] at hbx hkx ⊢;obtain⟨b7,hb7⟩:∃ q,w1.heap.size=q:=⟨_,rfl⟩
 have hs7:w.heap.size<b7:=by rw[← hb7]; exact hk1.lt
 rw[hb7] at hkx ⊢;have hk2:=hk1.below hbx hk1.lt;have hb2:=hb1'.trans (hbx.mono hb1'.size);have Hk2:=qq hk2;have Hkc:=qq hkx;have Hb2:=qq hb2;clear hw2 hk1 hb1' hbx hkx hb7 hk2 hb2;go_wp2_with fail
 go_loopg [14] nf (fun gh i wr=>∃ (k:Nat) (A5:Option Addr) (c5:Nat),k≤nf∧gh=nf - k∧i=.int .i64 (k:Nat)∧Blk wr b7 71 #[.string ⟨#[65]⟩,.int .i64 9,.int .i64 1,.int .i64 10,.slice A5 k c5]∧Blk wr w.heap.size 40 zeroDl∧OwnC wr (b7+1) 97 8 (fun b=>w.heap.size≤b∨R0 b) (.slice A5 k c5) k ((xs.take k).flatMap oneF)∧Below w.heap.size w wr)
 case atStart=>exact⟨0,none,0,Nat.zero_le _,rfl,rfl,Hkc.out,Hk2.out,OwnC.nil,Hb2.out⟩
 case round=>
  clear Hkc Hk2 Hb2;obtain⟨k,A5,c5,hk,rfl,rfl,hkc,hk0,hown,hbel⟩:=hrel;obtain⟨w3,hw3⟩:∃ x,x=wr:=⟨_,rfl⟩;subst hw3;have hbl:=hkc.lt
  by_cases hkn:k<nf
  · have d0:decide (k<nf)=true:=by simpa using hkn
    have hk':k<xs.length:=by omega
    obtain⟨b,off,rfl,hb,hc⟩:=tyw_at HF.out (by omega);obtain⟨t0,t1,t2,t3,t4,t5,Ax,mx,cx,t6,hT⟩:=hc k hk';have hst:xs.take (k+1)=xs.take k++[xs[k]]:=List.take_succ_eq_append_getElem hk';obtain⟨t,ht⟩:∃ x,xs[k]=x:=⟨_,rfl⟩;rw[ht] at t0 t1 t2 t3 t4 t5 hT hst;have q0:=(hbel.cell (p:=⟨b,off+k * 7,none⟩) hb.1).trans t0;have q1:=(hbel.cell (p:=⟨b,off+k * 7+1,none⟩) hb.1).trans t1;have q2:=(hbel.cell (p:=⟨b,off+k * 7+2,none⟩) hb.1).trans t2;have q3:=(hbel.cell (p:=⟨b,off+k * 7+3,none⟩) hb.1).trans t3;have q4:=(hbel.cell (p:=⟨b,off+k * 7+4,none⟩) hb.1).trans t4;have q5:=(hbel.cell (p:=⟨b,off+k * 7+5,none⟩) hb.1).trans t5;have q6:=(hbel.cell (p:=⟨b,off+k * 7+6,none⟩) hb.1).trans t6
    have j1:(0:Int)≤(k:Int):=by omega
    have j2:(k:Int)<nf:=by omega
    have Hst:=qq hst;have Hkc:=qq hkc;have Hk0:=qq hk0;have Hown:=qq hown;have Hbel:=qq hbel;have HT:=qq hT;clear t0 t1 t2 t3 t4 t5 t6 hc hst hkc hk0 hown hbel hT ht hk';go_upto_region 5 with fail;have hbx:=below_box (w:=w3) (Obj.cells #[.int .u8 t.k,.string t.s,.int .u8 t.m,.int .i64 t.p.at_,.int .i64 t.p.line,.int .i64 t.p.col,.slice Ax mx cx] 47);have hkx:=blk_new w3 #[.int .u8 t.k,.string t.s,.int .u8 t.m,.int .i64 t.p.at_,.int .i64 t.p.line,.int .i64 t.p.col,.slice Ax mx cx] 47;obtain⟨w4,hw4⟩:∃ q,w3.alloc (Obj.cells #[.int .u8 t.k,.string t.s,.int .u8 t.m,.int .i64 t.p.at_,.int .i64 t.p.line,.int .i64 t.p.col,.slice Ax mx cx] 47)=q:=⟨_,rfl⟩;rw[hw4] at hbx hkx ⊢;obtain⟨b9,hb9⟩:∃ q,w3.heap.size=q:=⟨_,rfl⟩;have hkc:=Hkc.out.below hbx Hkc.out.lt;have hk0:=Hk0.out.below hbx Hk0.out.lt;have hown:=Hown.out.beyond hbx;have hbel:=Hbel.out.trans (hbx.mono Hbel.out.size)
    have hoo:∀ b,(Value.slice A5 k c5).ownBlock=some b→b7<b∧b<b9:=fun b e=>by have:=Hown.out.lt b e; omega
    have hcel:CelsV w4 (fun b=>b<w4.heap.size∧some b≠(Value.slice A5 k c5).ownBlock∧¬ (w.heap.size≤b∨R0 b)) (oneF t) [.int .u8 1,.int .u8 t.k,.string t.s,.int .u8 t.m,.int .i64 t.p.at_,.int .i64 t.p.line,.int .i64 t.p.col,.slice Ax mx cx]:=
     oneC (HT.out.keep (fun b (hb:b<w.heap.size∧¬ R0 b)=>⟨by have:=hbel.size; omega,fun e=>by have:=hoo b e.symm; omega,fun h=>h.elim (by omega) hb.2⟩) fun p hp=>hbel.cell hp.1)
    rw[hb9] at hkx ⊢;have q0:w4.cell? ⟨b9,0,none⟩=some (.int .u8 t.k):=hkx.cell 0;have q1:w4.cell? ⟨b9,1,none⟩=some (.string t.s):=hkx.cell 1;have q2:w4.cell? ⟨b9,2,none⟩=some (.int .u8 t.m):=hkx.cell 2;have q3:w4.cell? ⟨b9,3,none⟩=some (.int .i64 t.p.at_):=hkx.cell 3;have q4:w4.cell? ⟨b9,4,none⟩=some (.int .i64 t.p.line):=hkx.cell 4;have q5:w4.cell? ⟨b9,5,none⟩=some (.int .i64 t.p.col):=hkx.cell 5;have q6:w4.cell? ⟨b9,6,none⟩=some (.slice Ax mx cx):=hkx.cell 6;have z4:w4.cell? ⟨b7,4,none⟩=some (.slice A5 k c5):=hkc.cell 4;obtain⟨i0,hi0,hz0,hz1,hz2⟩:=info_parts fldInfo;have Hkc:=qq hkc;have Hk0:=qq hk0;have Hown:=qq hown;have Hbel:=qq hbel;have Hcel:=qq hcel;have Hoo:=qq hoo;have hw4s:b7+1≤w4.heap.size:=hkc.lt;clear hkc hk0 hown hbel hcel hbx hkx hw4 hb9 hoo
    go_wp2_with (at_builtin; refine wpList_append_cel w4 w4 rfl (.tmp 19) (.tmp 22) 69 rfl (b7+1) 97 i0 _ 8 88 Tryd.underlying69 hi0 hz0 hz1 hz2 rfl (by omega) (fun b=>w.heap.size≤b∨R0 b) (.slice A5 k c5) k _ rfl [.int .u8 1,.int .u8 t.k,.string t.s,.int .u8 t.m,.int .i64 t.p.at_,.int .i64 t.p.line,.int .i64 t.p.col,.slice Ax mx cx] (oneF t) rfl (by intro u hu; simp at hu; rcases hu with rfl | rfl | rfl | rfl | rfl | rfl | rfl | rfl <;> rfl) rfl Hown.out Hcel.out (by unfold maxLen; omega) (by omega) (Below.refl _ _) (Nat.le_refl _) hw4s ?_; intro A9 c9 w9 ho9 hbel9 hg9 hz9 hn9; have hkc9:=Hkc.out.grown hg9 (fun e=>by have:=Hoo.out b7 e.symm; omega); have z4:w9.cell? ⟨b7,4,none⟩=some (.slice A5 k c5):=hkc9.cell 4; have f4:=hkc9.frozen 4)
    have hkd:=hkc9.set_ 4 (.slice A9 (k+1) c9);have hk0:=(Hk0.out.below hbel9 (by omega)).other (g':=b7) (by omega) 4 (.slice A9 (k+1) c9)
    have hod:=ho9.set (p:=⟨b7,4,none⟩) (Nat.lt_succ_self _) (Or.inl (by show w.heap.size≤b7; omega)) (.slice A9 (k+1) c9)
    have hbd:=(Hbel.out.trans (hbel9.mono (show w.heap.size≤b7+1 by omega))).setCell (p:=⟨b7,4,none⟩) (by show w.heap.size≤b7; omega) (.slice A9 (k+1) c9)
    rw[show(List.take k xs).flatMap oneF++oneF t=(List.take (k+1) xs).flatMap oneF by rw[Hst.out,List.flatMap_append]; simp] at hod
    have Hkd:=qq hkd;have Hk0':=qq hk0;have Hod:=qq hod;have Hbd:=qq hbd;clear hkd hk0 hod hbd z4 f4 hkc9 ho9 hbel9 hg9 hz9 hn9;go_roundg (nf - (k+1))
    case measure=>omega
    case rel=>exact⟨k+1,A9,c9,by omega,rfl,by go_num,Hkd.out,Hk0'.out,Hod.out,Hbd.out⟩
  · have d0:decide (k<nf)=false:=by simpa using hkn
    have hke:k=nf:=by omega
    subst hke;have hall:xs.take k=xs:=List.take_of_length_le (by omega);rw[hall] at hown;have z0:w3.cell? ⟨b7,0,none⟩=some (.string ⟨#[65]⟩):=hkc.cell 0;have z1:w3.cell? ⟨b7,1,none⟩=some (.int .i64 9):=hkc.cell 1;have z2:w3.cell? ⟨b7,2,none⟩=some (.int .i64 1):=hkc.cell 2;have z3:w3.cell? ⟨b7,3,none⟩=some (.int .i64 10):=hkc.cell 3;have z4:w3.cell? ⟨b7,4,none⟩=some (.slice A5 k c5):=hkc.cell 4;have Hk0:=qq hk0;have Hown:=qq hown;have Hbel:=qq hbel;clear hall hkc hk0 hown hbel;go_upto_region 7 with fail;refine wp_region_noPanic ?_;refine wp_region_T (fun w'=>w'.cell? ⟨b7,0,none⟩=some (.string ⟨#[65]⟩)∧w'.cell? ⟨b7,1,none⟩=some (.int .i64 9)∧w'.cell? ⟨b7,2,none⟩=some (.int .i64 1)∧w'.cell? ⟨b7,3,none⟩=some (.int .i64 10)∧w'.cell? ⟨b7,4,none⟩=some (.slice A5 k c5)) 8 (by kernel_rfl) ⟨z0,z1,z2,z3,z4⟩ (fun hHeld=>?_);have hbd:Below w3.heap.size w3 w3.drew:=Below.drew (Below.refl _ _);have Hk4:=qq (Hk0.out.below hbd Hk0.out.lt);have Ho4:=qq (Hown.out.beyond hbd);have Hb4:=qq (Hbel.out.trans (hbd.mono Hbel.out.size));clear z0 z1 z2 z3 z4 hbd Hk0 Hown Hbel;generalize w3.drew=w4 at hHeld Hk4 Ho4 Hb4 ⊢;have held_below:∀ (W W':World),Below W.heap.size W W'→(W.cell? ⟨b7,0,none⟩=some (.string ⟨#[65]⟩)∧W.cell? ⟨b7,1,none⟩=some (.int .i64 9)∧W.cell? ⟨b7,2,none⟩=some (.int .i64 1)∧W.cell? ⟨b7,3,none⟩=some (.int .i64 10)∧W.cell? ⟨b7,4,none⟩=some (.slice A5 k c5))→(W'.cell? ⟨b7,0,none⟩=some (.string ⟨#[65]⟩)∧W'.cell? ⟨b7,1,none⟩=some (.int .i64 9)∧W'.cell? ⟨b7,2,none⟩=some (.int .i64 1)∧W'.cell? ⟨b7,3,none⟩=some (.int .i64 10)∧W'.cell? ⟨b7,4,none⟩=some (.slice A5 k c5)):=fun W W' hb h=>⟨(hb.cell (block_lt_of_cell h.1)).trans h.1,(hb.cell (block_lt_of_cell h.2.1)).trans h.2.1,(hb.cell (block_lt_of_cell h.2.2.1)).trans h.2.2.1,(hb.cell (block_lt_of_cell h.2.2.2.1)).trans h.2.2.2.1,(hb.cell (block_lt_of_cell h.2.2.2.2)).trans h.2.2.2.2⟩;have HHb:=qq held_below;clear held_below
    refine wpAnyT_take (i:=0) (v:=?_) rfl (by kernel_rfl) (by kernel_rfl) (by kernel_rfl) (by kernel_rfl) (fun _ _ _ h=>h) (Or.inl ⟨by kernel_rfl,?_⟩) (by assumption) ?_
    rotate_left
    · (intro w hSw; (try dsimp only at hSw); first | (go_simp; done) | (go_simp; with_reducible rfl))
    try simp only[Act.put,qg,qe,qf,qd,qh,qi]
    refine nx0 2 ?_
    iterate 2 (refine nx (v:=?_) rfl (by kernel_rfl) (fun _ _ _ h=>h) (by kernel_rfl) ?_ (by assumption) ?_; rotate_left; (focus (intro w hSw; (try dsimp only at hSw); first | (go_simp; done) | (go_simp; with_reducible rfl))); try simp only[Act.put,qg,qe,qf,qd,qh,qi,Nat.reduceAdd])
    refine nx9 ?_;refine wpAnyT_step (i:=1) (by kernel_rfl) rfl (fun K hK=>?_)
    (go_simp; refine(at13_any 5 (by omega) (by omega) w4).mono ?_; rintro e w5 ⟨rfl,hq5⟩; have Hk5:=qq (Hk4.out.below hq5 Hk4.out.lt); have Ho5:=qq (Ho4.out.beyond hq5); have Hb5:=qq (Hb4.out.trans (hq5.mono Hb4.out.size)); replace hHeld:=HHb.out _ _ hq5 hHeld; clear hq5)
    refine hK.out _ _ hHeld ?_;clear hK K
    try simp only[Act.put,qg,qe,qf,qd,qh,qi]
    clear Hk4 Ho4 Hb4;refine wpAnyT_step (i:=4) (by kernel_rfl) rfl (fun K hK=>?_)
    (go_simp; refine(at13_any 30 (by omega) (by omega) w5).mono ?_; rintro e w6 ⟨rfl,hq6⟩; have Hk6:=qq (Hk5.out.below hq6 Hk5.out.lt); have Ho6:=qq (Ho5.out.beyond hq6); have Hb6:=qq (Hb5.out.trans (hq6.mono Hb5.out.size)); replace hHeld:=HHb.out _ _ hq6 hHeld; clear hq6)
    refine hK.out _ _ hHeld ?_;clear hK K
    try simp only[Act.put,qg,qe,qf,qd,qh,qi]
    clear Hk5 Ho5 Hb5
    refine wpAnyT_take (i:=5) (v:=?_) rfl (by kernel_rfl) (by kernel_rfl) (by kernel_rfl) (by kernel_rfl) (fun _ _ _ h=>h) (Or.inl ⟨by kernel_rfl,?_⟩) (by assumption) ?_
    rotate_left
    · (intro w hSw; (try dsimp only at hSw); first | (go_simp; done) | (go_simp; with_reducible rfl))
    try simp only[Act.put,qg,qe,qf,qd,qh,qi]
    have hbx:=below_box (w:=w6) (Obj.cells #[.string ⟨#[65]⟩,.int .i64 9,.int .i64 1,.int .i64 10,.slice A5 k c5,.string ⟨#[66]⟩,.int .i64 30,.int .i64 1,.int .i64 31,.slice none 0 0] 71);have hkx:=blk_new w6 #[.string ⟨#[65]⟩,.int .i64 9,.int .i64 1,.int .i64 10,.slice A5 k c5,.string ⟨#[66]⟩,.int .i64 30,.int .i64 1,.int .i64 31,.slice none 0 0] 71;obtain⟨w7,hw7⟩:∃ q,w6.alloc (Obj.cells #[.string ⟨#[65]⟩,.int .i64 9,.int .i64 1,.int .i64 10,.slice A5 k c5,.string ⟨#[66]⟩,.int .i64 30,.int .i64 1,.int .i64 31,.slice none 0 0] 71)=q:=⟨_,rfl⟩;rw[hw7] at hbx hkx;have HW7:=qq hw7;have hg6:=Hk6.out.lt;have Hk7:=qq (Hk6.out.below hbx Hk6.out.lt);have Ho7:=qq (Ho6.out.beyond hbx);have Hb7:=qq (Hb6.out.trans (hbx.mono Hb6.out.size));have HHeld7:=qq (HHb.out _ _ hbx hHeld);have Hkg:=qq hkx;clear hw7 hbx hkx;refine wpAnyT_step (i:=6) (by kernel_rfl) rfl (fun K hK=>?_)
    (go_simp; rw[show w6.alloc (Obj.cells #[.string { data:=#[65] },.int .i64 9,.int .i64 1,.int .i64 10,.slice A5 k c5,.string { data:=#[66] },.int .i64 30,.int .i64 1,.int .i64 31,.slice none 0 0] 71)=w7 from HW7.out])
    refine hK.out _ _ HHeld7.out ?_;clear hK K
    try simp only[Act.put,qg,qe,qf,qd,qh,qi]
    replace hHeld:=HHeld7.out;have hol:∀ b,(Value.slice A5 k c5).ownBlock=some b→b<w6.heap.size:=fun b e=>(Ho6.out.lt b e).2;have Hol:=qq hol;clear hol;obtain⟨gc,hgc⟩:∃ q,w6.heap.size=q:=⟨_,rfl⟩;rw[hgc] at Hkg hg6 Hol ⊢
    refine wpAnyT_take (i:=7) (v:=?_) rfl (by kernel_rfl) (by kernel_rfl) (by kernel_rfl) (by kernel_rfl) (fun _ _ _ h=>h) (Or.inl ⟨by kernel_rfl,?_⟩) (by assumption) ?_
    rotate_left
    · (intro w hSw; (try dsimp only at hSw); first | (go_simp; done) | (go_simp; with_reducible rfl))
    try simp only[Act.put,qg,qe,qf,qd,qh,qi]
    clear hHeld HHeld7 Hk6 Ho6 Hb6 HW7 hgc
    have ht:w7.there w.heap.size 0 (declCells name Ap np cp gc).size:=fun j hj=>⟨by rw[Hk7.out.cell]; have:j<16:=hj; simp[zeroDl,Nat.zero_add]; omega,Hk7.out.frozen _⟩
    refine wpAnyT_seq 8 (by omega) (by rfl) (by kernel_rfl) ?_;simp only[List.drop_succ_cons,List.drop_zero];refine wpList_store_mid rfl 40 (.tmp 6) (.tmp 33) rfl w.heap.size 0 (declCells name Ap np cp gc) rfl rfl ht (by kernel_rfl) (declCells_one name Ap np cp gc) ?_
    have hr:=World.rangeAt_setCells_same w7 w.heap.size 0 (declCells name Ap np cp gc).toList (by rw[Array.length_toList]; exact ht)
    have hgc7:gc<w7.heap.size:=Hkg.out.lt;have hb9:=Below.setCells (Nat.le_refl w.heap.size) (declCells name Ap np cp gc).toList 0 w7 Hb7.out;have hob9:=OwnC.setCells (b:=w.heap.size) (by omega) (Or.inl (Nat.le_refl _)) (declCells name Ap np cp gc).toList 0 w7 Ho7.out;have hkg9:Blk (w7.setCells w.heap.size 0 (declCells name Ap np cp gc).toList) gc _ _:=(setCells_block (b:=w.heap.size) (i:=gc) (by omega) (declCells name Ap np cp gc).toList 0 w7).trans Hkg.out;refine NoPanic.normal ?_;generalize w7.setCells w.heap.size 0 (declCells name Ap np cp gc).toList=w9 at hr hb9 hob9 hkg9 ⊢;have Hb9:=qq hb9;have Ho9:=qq hob9;have Hkg9:=qq hkg9;have d:=fun j (v:Value) (h:(declCells name Ap np cp gc).toList[j]?=some v)=>hr j v h;have d0:w9.cell? ⟨w.heap.size,0,none⟩=some (.int .u8 1):=d 0 _ rfl;have d1:w9.cell? ⟨w.heap.size,1,none⟩=some (.string name):=d 1 _ rfl;have d2:w9.cell? ⟨w.heap.size,2,none⟩=some (.int .i64 5):=d 2 _ rfl;have d3:w9.cell? ⟨w.heap.size,3,none⟩=some (.int .i64 1):=d 3 _ rfl;have d4:w9.cell? ⟨w.heap.size,4,none⟩=some (.int .i64 6):=d 4 _ rfl;have d5:w9.cell? ⟨w.heap.size,5,none⟩=some (.slice Ap np cp):=d 5 _ rfl;have d6:w9.cell? ⟨w.heap.size,6,none⟩=some (.slice (some ⟨gc,0,none⟩) 2 2):=d 6 _ rfl;have d7:w9.cell? ⟨w.heap.size,7,none⟩=some (.bool false):=d 7 _ rfl;have d8:w9.cell? ⟨w.heap.size,8,none⟩=some (.int .u8 0):=d 8 _ rfl;have d9:w9.cell? ⟨w.heap.size,9,none⟩=some (.string ⟨#[]⟩):=d 9 _ rfl;have d10:w9.cell? ⟨w.heap.size,10,none⟩=some (.int .i64 0):=d 10 _ rfl;have d11:w9.cell? ⟨w.heap.size,11,none⟩=some (.int .i64 0):=d 11 _ rfl;have d12:w9.cell? ⟨w.heap.size,12,none⟩=some (.int .i64 0):=d 12 _ rfl;have d13:w9.cell? ⟨w.heap.size,13,none⟩=some (.int .i64 0):=d 13 _ rfl;have d14:w9.cell? ⟨w.heap.size,14,none⟩=some (.slice none 0 0):=d 14 _ rfl;have d15:w9.cell? ⟨w.heap.size,15,none⟩=some (.slice none 0 0):=d 15 _ rfl;clear d hr hb9 hob9 hkg9;go_wp2_with fail;exact bodyPost_ret (v:=.agg (declCells name Ap np cp gc)) (by simp[results,Tryd.results10,go_sem,declCells,d0,d1,d2,d3,d4,d5,d6,d7,d8,d9,d10,d11,d12,d13,d14,d15]) rfl ⟨gc,A5,c5,b7+1,rfl,Hb9.out,Nat.le_of_lt hg6,Nat.lt_succ_of_lt hs7,Hkg9.out,Ho9.out,Hol.out⟩
theorem nodes13_go (N:Nat):∀ (t:TyW),nodesW t≤N→∀ (A:Option Addr) (m cp:Nat) (w:World),Sl w (Lt w.heap.size) encW 7 t.l A m cp →
  Calls Tryd.prog 50 #[.agg #[.int .u8 t.k,.string t.s,.int .u8 t.m,.int .i64 t.p.at_,.int .i64 t.p.line,.int .i64 t.p.col,.slice A m cp]] w fun e w'=>(∃ r:Int,e=.returned (.int .i64 r))∧Below w.heap.size w w':=by
 induction N with
 | zero=>intro t hN; exact absurd hN (by rw[nodesW_eq t]; omega)
 | succ N ih=>
   intro t hN A m cp w hl;have hlen:t.l.length=m:=hl.len;have m63:m≤9223372036854775807:=hl.cap
   have HNk:Hid (∀ i (h:i<t.l.length),nodesW t.l[i]≤N):=qq fun i h=>by have:=nodesW_get h; omega
   have hbx:=below_box (w:=w) (Obj.cells #[.int .u8 t.k,.string t.s,.int .u8 t.m,.int .i64 t.p.at_,.int .i64 t.p.line,.int .i64 t.p.col,.slice A m cp] 47);have hkx:=blk_new w #[.int .u8 t.k,.string t.s,.int .u8 t.m,.int .i64 t.p.at_,.int .i64 t.p.line,.int .i64 t.p.col,.slice A m cp] 47;obtain⟨W,hW⟩:∃ q,w.alloc (Obj.cells #[.int .u8 t.k,.string t.s,.int .u8 t.m,.int .i64 t.p.at_,.int .i64 t.p.line,.int .i64 t.p.col,.slice A m cp] 47)=q:=⟨_,rfl⟩;rw[hW] at hbx hkx;have y6:W.cell? ⟨w.heap.size,6,none⟩=some (.slice A m cp):=hkx.cell 6;have HW:=qq hW;have HL:=qq hl;have Hb:=qq hbx;have Ih:=qq ih;clear hW hl hbx hkx ih hN
   go_enter Tryd.func50,Tryd.ntmps50
   go_upto_region 1 with fail;rw[HW.out];clear HW;go_wp2_with fail;clear y6
   go_loopg [3,9] m (fun gh s3 i wr=>∃ (k:Nat) (r:Int),k≤m∧gh=m - k∧s3=.int .i64 r∧i=.int .i64 (k:Nat)∧Below w.heap.size w wr)
   case atStart=>exact⟨0,1,Nat.zero_le _,rfl,rfl,rfl,Hb.out⟩
   case round=>
    clear Hb;obtain⟨k,r,hk,rfl,rfl,rfl,hbel⟩:=hrel;obtain⟨w5,hw5⟩:∃ q,q=wr:=⟨_,rfl⟩;subst hw5;have Hbel:=qq hbel;clear hbel
    by_cases hkm:k<m
    · have d0:decide (k<m)=true:=by simpa using hkm
      have hk':k<t.l.length:=by omega
      obtain⟨b,off,rfl,hb,hc⟩:=tyw_at HL.out (by omega);obtain⟨t0,t1,t2,t3,t4,t5,Ax,mx,cx,t6,hT⟩:=hc k hk';have hnk:=HNk.out k hk';obtain⟨x,hx⟩:∃ x,t.l[k]=x:=⟨_,rfl⟩;rw[hx] at t0 t1 t2 t3 t4 t5 hT hnk;have q0:=(Hbel.out.cell (p:=⟨b,off+k * 7,none⟩) hb).trans t0;have q1:=(Hbel.out.cell (p:=⟨b,off+k * 7+1,none⟩) hb).trans t1;have q2:=(Hbel.out.cell (p:=⟨b,off+k * 7+2,none⟩) hb).trans t2;have q3:=(Hbel.out.cell (p:=⟨b,off+k * 7+3,none⟩) hb).trans t3;have q4:=(Hbel.out.cell (p:=⟨b,off+k * 7+4,none⟩) hb).trans t4;have q5:=(Hbel.out.cell (p:=⟨b,off+k * 7+5,none⟩) hb).trans t5;have q6:=(Hbel.out.cell (p:=⟨b,off+k * 7+6,none⟩) hb).trans t6
      have j1:(0:Int)≤(k:Int):=by omega
      have j2:(k:Int)<m:=by omega
      have HT:=qq hT;have Hnk:=qq hnk;clear t0 t1 t2 t3 t4 t5 t6 hc hT hx hnk;go_upto_region 5 with fail;have hbx:=below_box (w:=w5) (Obj.cells #[.int .u8 x.k,.string x.s,.int .u8 x.m,.int .i64 x.p.at_,.int .i64 x.p.line,.int .i64 x.p.col,.slice Ax mx cx] 47);have hkx:=blk_new w5 #[.int .u8 x.k,.string x.s,.int .u8 x.m,.int .i64 x.p.at_,.int .i64 x.p.line,.int .i64 x.p.col,.slice Ax mx cx] 47;obtain⟨w6,hw6⟩:∃ q,w5.alloc (Obj.cells #[.int .u8 x.k,.string x.s,.int .u8 x.m,.int .i64 x.p.at_,.int .i64 x.p.line,.int .i64 x.p.col,.slice Ax mx cx] 47)=q:=⟨_,rfl⟩;rw[hw6] at hbx hkx ⊢;obtain⟨b9,hb9⟩:∃ q,w5.heap.size=q:=⟨_,rfl⟩;have Hb6:=qq (Hbel.out.trans (hbx.mono Hbel.out.size));rw[hb9] at hkx ⊢;clear q0 q1 q2 q3 q4 q5 q6 hbx hw6 hb9 Hbel;have q0:w6.cell? ⟨b9,0,none⟩=some (.int .u8 x.k):=hkx.cell 0;have q1:w6.cell? ⟨b9,1,none⟩=some (.string x.s):=hkx.cell 1;have q2:w6.cell? ⟨b9,2,none⟩=some (.int .u8 x.m):=hkx.cell 2;have q3:w6.cell? ⟨b9,3,none⟩=some (.int .i64 x.p.at_):=hkx.cell 3;have q4:w6.cell? ⟨b9,4,none⟩=some (.int .i64 x.p.line):=hkx.cell 4;have q5:w6.cell? ⟨b9,5,none⟩=some (.int .i64 x.p.col):=hkx.cell 5;have q6:w6.cell? ⟨b9,6,none⟩=some (.slice Ax mx cx):=hkx.cell 6;clear hkx
      by_cases hr:r>3000
      · have e1:decide (r>3000)=true:=by simpa using hr
        have e2:decide (3000<r)=true:=by simpa using hr
        clear hr;go_wp2_with fail;go_ret;exact⟨⟨_,rfl⟩,Hb6.out⟩
      · have e1:decide (r>3000)=false:=by simpa using hr
        have e2:decide (3000<r)=false:=by simpa using hr
        clear hr;go_wp2_with fail;refine(Ih.out x Hnk.out Ax mx cx w6 (HT.out.fresh Hb6.out)).mono ?_;rintro e w7 ⟨⟨r2,rfl⟩,hb7⟩;have Hb7:=qq (Hb6.out.trans (hb7.mono Hb6.out.size));clear hb7 q0 q1 q2 q3 q4 q5 q6 Hb6;go_wp2_with fail;go_roundg (m - (k+1))
        case measure=>omega
        case rel=>exact⟨k+1,_,by omega,rfl,rfl,by go_num,Hb7.out⟩
    · have d0:decide (k<m)=false:=by simpa using hkm
      go_wp2_with fail;go_ret;exact⟨⟨_,rfl⟩,Hbel.out⟩
theorem decl_at {w:World} {S:Nat→Prop} {A:Option Addr} {n c:Nat} {l:List DeclD} (h:Sl w S encD 16 l A n c) (hn:0<n):∃ b off,A=some ⟨b,off,none⟩∧S b∧∀ i (h:i<l.length),∃ Ap np cp Ac nc cc,w.rangeAt b (off+i * 16) (dlCells l[i] Ap np cp Ac nc cc).toList∧Sl w S encS 1 l[i].params Ap np cp∧Sl w S encC 5 l[i].cons Ac nc cc:=by
 obtain⟨b,off,e,hb,hr⟩:=h.at_ encD_len hn;refine⟨b,off,e,hb,fun i hi=>?_⟩;have:=hr i hi;unfold encD at this;simp only[celsIn_cons,celIn_v,sl_iff (enc:=encS) (k:=1) (fun _=>rfl) (by omega),sl_iff (enc:=encC) (k:=5) encC_len (by omega)] at this;obtain⟨⟨u0,h0,rfl⟩,⟨u1,h1,rfl⟩,⟨u2,h2,rfl⟩,⟨u3,h3,rfl⟩,⟨u4,h4,rfl⟩,⟨u5,h5,Ap,np,cp,rfl,hp⟩,⟨u6,h6,Ac,nc,cc,rfl,hc⟩,⟨u7,h7,rfl⟩,⟨u8,h8,rfl⟩,⟨u9,h9,rfl⟩,⟨u10,h10,rfl⟩,⟨u11,h11,rfl⟩,⟨u12,h12,rfl⟩,⟨u13,h13,rfl⟩,⟨u14,h14,rfl⟩,⟨u15,h15,rfl⟩,_⟩:=this;refine⟨Ap,np,cp,Ac,nc,cc,fun j v hj=>?_,hp,hc⟩;unfold dlCells at hj
 have hlt:j<16:=by
  rcases Nat.lt_or_ge j 16 with q | q
  · exact q
  · rw[List.getElem?_eq_none (by simpa using q)] at hj; cases hj
 obtain rfl | rfl | rfl | rfl | rfl | rfl | rfl | rfl | rfl | rfl | rfl | rfl | rfl | rfl | rfl | rfl:j=0∨j=1∨j=2∨j=3∨j=4∨j=5∨j=6∨j=7∨j=8∨j=9∨j=10∨j=11∨j=12∨j=13∨j=14∨j=15:=by omega
 all_goals (obtain rfl:=Option.some.inj hj; assumption)
theorem condecl_at {w:World} {S:Nat→Prop} {A:Option Addr} {n c:Nat} {l:List ConW} (h:Sl w S encC 5 l A n c) (hn:0<n):∃ b off,A=some ⟨b,off,none⟩∧S b∧∀ i (h:i<l.length),w.cell? ⟨b,off+i * 5,none⟩=some (.string l[i].name)∧w.cell? ⟨b,off+i * 5+1,none⟩=some (.int .i64 l[i].p.at_)∧w.cell? ⟨b,off+i * 5+2,none⟩=some (.int .i64 l[i].p.line)∧w.cell? ⟨b,off+i * 5+3,none⟩=some (.int .i64 l[i].p.col)∧∃ Af nf cf,w.cell? ⟨b,off+i * 5+4,none⟩=some (.slice Af nf cf)∧Sl w S encF 8 l[i].fields Af nf cf:=by
 obtain⟨b,off,e,hb,hr⟩:=h.at_ encC_len hn;refine⟨b,off,e,hb,fun i hi=>?_⟩;have:=hr i hi;unfold encC at this;simp only[celsIn_cons,celIn_v,sl_iff (enc:=encF) (k:=8) encF_len (by omega)] at this;obtain⟨⟨u0,h0,rfl⟩,⟨u1,h1,rfl⟩,⟨u2,h2,rfl⟩,⟨u3,h3,rfl⟩,⟨u4,h4,Af,nf,cf,rfl,h5⟩,_⟩:=this;exact⟨h0,h1,h2,h3,Af,nf,cf,h4,h5⟩
theorem field_at {w:World} {S:Nat→Prop} {A:Option Addr} {n c:Nat} {l:List FieldD} (h:Sl w S encF 8 l A n c) (hn:0<n):∃ b off,A=some ⟨b,off,none⟩∧S b∧∀ i (h:i<l.length),w.cell? ⟨b,off+i * 8,none⟩=some (.int .u8 l[i].m)∧w.cell? ⟨b,off+i * 8+1,none⟩=some (.int .u8 l[i].t.k)∧w.cell? ⟨b,off+i * 8+2,none⟩=some (.string l[i].t.s)∧w.cell? ⟨b,off+i * 8+3,none⟩=some (.int .u8 l[i].t.m)∧w.cell? ⟨b,off+i * 8+4,none⟩=some (.int .i64 l[i].t.p.at_)∧w.cell? ⟨b,off+i * 8+5,none⟩=some (.int .i64 l[i].t.p.line)∧w.cell? ⟨b,off+i * 8+6,none⟩=some (.int .i64 l[i].t.p.col)∧∃ A' m' c',w.cell? ⟨b,off+i * 8+7,none⟩=some (.slice A' m' c')∧Sl w S encW 7 l[i].t.l A' m' c':=by
 obtain⟨b,off,e,hb,hr⟩:=h.at_ encF_len hn;refine⟨b,off,e,hb,fun i hi=>?_⟩;have:=hr i hi;unfold encF at this;rw[encW_eq] at this;simp only[celsIn_cons,celIn_v,sl_iff (enc:=encW) (k:=7) encW_len (by omega)] at this;obtain⟨⟨u0,h0,rfl⟩,⟨u1,h1,rfl⟩,⟨u2,h2,rfl⟩,⟨u3,h3,rfl⟩,⟨u4,h4,rfl⟩,⟨u5,h5,rfl⟩,⟨u6,h6,rfl⟩,⟨u7,h7,A',m',c',rfl,h8⟩,_⟩:=this;exact⟨h0,h1,h2,h3,h4,h5,h6,A',m',c',h7,h8⟩
theorem great13_any (A:Option Addr) (n c:Nat) (l:List DeclD) (w:World) (hl:Sl w (Lt w.heap.size) encD 16 l A n c) (h1:∀ d∈l,d.one):
  Calls Tryd.prog 20 #[.slice A n c] w fun e w'=>(∃ r:Bool,e=.returned (.bool r))∧Below w.heap.size w w':=by
 have hmn:=@run_min2 Tryd.prog;have hlen:l.length=n:=hl.len;have n63:n≤9223372036854775807:=hl.cap;have HL:=qq hl;have H1:=qq h1;clear hl h1
 go_enter Tryd.func20,Tryd.ntmps20
 go_wp2_with fail
 go_loopg [3,14] n (fun gh s3 i wr=>∃ (k:Nat) (r:Int),k≤n∧gh=n - k∧s3=.int .i64 r∧i=.int .i64 (k:Nat)∧Below w.heap.size w wr)
 case atStart=>exact⟨0,_,Nat.zero_le _,rfl,rfl,rfl,Below.refl _ _⟩
 case round=>
  obtain⟨k,r,hk,rfl,rfl,rfl,hbel⟩:=hrel;obtain⟨w5,hw5⟩:∃ q,q=wr:=⟨_,rfl⟩;subst hw5;have Hbel:=qq hbel;clear hbel
  by_cases hkn:k<n
  · have d0:decide (k<n)=true:=by simpa using hkn
    have hk':k<l.length:=by omega
    obtain⟨b,off,rfl,hb,hc⟩:=decl_at HL.out (by omega);obtain⟨Ap,np,cp,Ac,nc,cc,hrg,hp,hcs⟩:=hc k hk';have h1c:=H1.out _ (List.getElem_mem hk');obtain⟨x,hx⟩:∃ x,l[k]=x:=⟨_,rfl⟩;rw[hx] at hrg hp hcs h1c;have p63:np≤9223372036854775807:=hp.cap;have c63:nc≤9223372036854775807:=hcs.cap;have hrg5:w5.rangeAt b (off+k * 16) (dlCells x Ap np cp Ac nc cc).toList:=fun j v hj=>(Hbel.out.cell (p:=⟨b,off+k * 16+j,none⟩) hb).trans (hrg j v hj);have H1c:=qq (Array.all_eq_true_iff_forall_mem.2 fun v hv=>dlCells_one x h1c Ap np cp Ac nc cc v (by simpa using hv));have Hcs:=qq hcs;have hcl:x.cons.length=nc:=hcs.len
    have j1:(0:Int)≤(k:Int):=by omega
    have j2:(k:Int)<n:=by omega
    clear hc hrg hp hcs h1c hx;go_upto_region 4 with fail;refine wp_region_list ?_;refine wpList_plain rfl fun K hK=>?_;go_simp;refine hK _ _ ?_;clear hK K;refine wpList_load_mid rfl 40 (.tmp 16) rfl b (off+k * 16) rfl (dlCells x Ap np cp Ac nc cc).toList _ hrg5 Tryd.underlying40 rfl (by kernel_rfl) ?_;clear hrg5;refine wpList_plain rfl fun K hK=>?_;go_simp;refine hK _ _ ?_;clear hK K;refine wpList_store_new rfl 40 (.tmp 5) (.tmp 17) rfl #[.int .u8 0,.string ByteArray.empty,.int .i64 0,.int .i64 0,.int .i64 0,.slice none 0 0,.slice none 0 0,.bool false,.int .u8 0,.string ByteArray.empty,.int .i64 0,.int .i64 0,.int .i64 0,.int .i64 0,.slice none 0 0,.slice none 0 0] (dlCells x Ap np cp Ac nc cc) rfl rfl (by kernel_rfl) rfl H1c.out ?_;have hbx:=below_box (w:=w5) (Obj.cells (dlCells x Ap np cp Ac nc cc) 40);have hkx:=blk_new w5 (dlCells x Ap np cp Ac nc cc) 40;obtain⟨w6,hw6⟩:∃ q,w5.alloc (Obj.cells (dlCells x Ap np cp Ac nc cc) 40)=q:=⟨_,rfl⟩;rw[hw6] at hbx hkx ⊢;obtain⟨b9,hb9⟩:∃ q,w5.heap.size=q:=⟨_,rfl⟩;rw[hb9] at hkx ⊢;have Hb6:=qq (Hbel.out.trans (hbx.mono Hbel.out.size));have y1:w6.cell? ⟨b9,1,none⟩=some (.string x.name):=hkx.cell 1;have y5:w6.cell? ⟨b9,5,none⟩=some (.slice Ap np cp):=hkx.cell 5;have y6:w6.cell? ⟨b9,6,none⟩=some (.slice Ac nc cc):=hkx.cell 6;clear hbx hkx hw6 hb9 Hbel;go_wp2_with fail;clear y1 y5 y6;generalize wrap64 (r+wrap64 (min (np:Int) 500+wrap64 ((x.name.size:Int) / 100)))=r1
    go_loopg [3,32] nc (fun gh s3 i wr=>∃ (q:Nat) (r:Int),q≤nc∧gh=nc - q∧s3=.int .i64 r∧i=.int .i64 (q:Nat)∧Below w.heap.size w wr)
    case atStart=>exact⟨0,_,Nat.zero_le _,rfl,rfl,rfl,Hb6.out⟩
    case round=>
     clear Hb6;obtain⟨q,r,hq,rfl,rfl,rfl,hbel⟩:=hrel;obtain⟨w7,hw7⟩:∃ q,q=wr:=⟨_,rfl⟩;subst hw7;have Hbel:=qq hbel;clear hbel
     by_cases hqn:q<nc
     · have d1:decide (q<nc)=true:=by simpa using hqn
       have hq':q<x.cons.length:=by omega
       obtain⟨b',off',rfl,hb',hc'⟩:=condecl_at Hcs.out (by omega);obtain⟨t0,t1,t2,t3,Af,nf,cf,t4,hF⟩:=hc' q hq';obtain⟨y,hy⟩:∃ y,x.cons[q]=y:=⟨_,rfl⟩;rw[hy] at t0 t1 t2 t3 hF;have f63:nf≤9223372036854775807:=hF.cap;have hfl:y.fields.length=nf:=hF.len;have q0:=(Hbel.out.cell (p:=⟨b',off'+q * 5,none⟩) hb').trans t0;have q1:=(Hbel.out.cell (p:=⟨b',off'+q * 5+1,none⟩) hb').trans t1;have q2:=(Hbel.out.cell (p:=⟨b',off'+q * 5+2,none⟩) hb').trans t2;have q3:=(Hbel.out.cell (p:=⟨b',off'+q * 5+3,none⟩) hb').trans t3;have q4:=(Hbel.out.cell (p:=⟨b',off'+q * 5+4,none⟩) hb').trans t4
       have m1:(0:Int)≤(q:Int):=by omega
       have m2:(q:Int)<nc:=by omega
       have HF:=qq hF;clear t0 t1 t2 t3 t4 hc' hF hy hq';go_upto_region 9 with fail;have hbx:=below_box (w:=w7) (Obj.cells #[.string y.name,.int .i64 y.p.at_,.int .i64 y.p.line,.int .i64 y.p.col,.slice Af nf cf] 71);have hkx:=blk_new w7 #[.string y.name,.int .i64 y.p.at_,.int .i64 y.p.line,.int .i64 y.p.col,.slice Af nf cf] 71;obtain⟨w8,hw8⟩:∃ q,w7.alloc (Obj.cells #[.string y.name,.int .i64 y.p.at_,.int .i64 y.p.line,.int .i64 y.p.col,.slice Af nf cf] 71)=q:=⟨_,rfl⟩;rw[hw8] at hbx hkx ⊢;obtain⟨b8,hb8⟩:∃ q,w7.heap.size=q:=⟨_,rfl⟩;rw[hb8] at hkx ⊢;have Hb8:=qq (Hbel.out.trans (hbx.mono Hbel.out.size));clear q0 q1 q2 q3 q4;have q0:w8.cell? ⟨b8,0,none⟩=some (.string y.name):=hkx.cell 0;have q4:w8.cell? ⟨b8,4,none⟩=some (.slice Af nf cf):=hkx.cell 4;clear hbx hkx hw8 hb8 Hbel;go_wp2_with fail;clear q0 q4;generalize wrap64 (r+wrap64 (1+wrap64 ((y.name.size:Int) / 100)))=r1
       go_loopg [3,46] nf (fun gh s3 i wr=>∃ (p:Nat) (r:Int),p≤nf∧gh=nf - p∧s3=.int .i64 r∧i=.int .i64 (p:Nat)∧Below w.heap.size w wr)
       case atStart=>exact⟨0,_,Nat.zero_le _,rfl,rfl,rfl,Hb8.out⟩
       case round=>
        clear Hb8;obtain⟨p,r,hp,rfl,rfl,rfl,hbel⟩:=hrel;obtain⟨w9,hw9⟩:∃ q,q=wr:=⟨_,rfl⟩;subst hw9;have Hbel:=qq hbel;clear hbel
        by_cases hpn:p<nf
        · have d2:decide (p<nf)=true:=by simpa using hpn
          have hp':p<y.fields.length:=by omega
          obtain⟨b2,off2,rfl,hb2,hc2⟩:=field_at HF.out (by omega);obtain⟨t0,t1,t2,t3,t4,t5,t6,A',m',c',t7,hT⟩:=hc2 p hp';obtain⟨z,hz⟩:∃ z,z=y.fields[p]'hp':=⟨_,rfl⟩;rw[← hz] at t0 t1 t2 t3 t4 t5 t6 hT;have q0:=(Hbel.out.cell (p:=⟨b2,off2+p * 8,none⟩) hb2).trans t0;have q1:=(Hbel.out.cell (p:=⟨b2,off2+p * 8+1,none⟩) hb2).trans t1;have q2:=(Hbel.out.cell (p:=⟨b2,off2+p * 8+2,none⟩) hb2).trans t2;have q3:=(Hbel.out.cell (p:=⟨b2,off2+p * 8+3,none⟩) hb2).trans t3;have q4:=(Hbel.out.cell (p:=⟨b2,off2+p * 8+4,none⟩) hb2).trans t4;have q5:=(Hbel.out.cell (p:=⟨b2,off2+p * 8+5,none⟩) hb2).trans t5;have q6:=(Hbel.out.cell (p:=⟨b2,off2+p * 8+6,none⟩) hb2).trans t6;have q7:=(Hbel.out.cell (p:=⟨b2,off2+p * 8+7,none⟩) hb2).trans t7
          have p1:(0:Int)≤(p:Int):=by omega
          have p2:(p:Int)<nf:=by omega
          have HT:=qq hT;clear t0 t1 t2 t3 t4 t5 t6 t7 hc2 hT hz hp';go_upto_region 13 with fail;have hbx:=below_box (w:=w9) (Obj.cells #[.int .u8 z.m,.int .u8 z.t.k,.string z.t.s,.int .u8 z.t.m,.int .i64 z.t.p.at_,.int .i64 z.t.p.line,.int .i64 z.t.p.col,.slice A' m' c'] 97);have hkx:=blk_new w9 #[.int .u8 z.m,.int .u8 z.t.k,.string z.t.s,.int .u8 z.t.m,.int .i64 z.t.p.at_,.int .i64 z.t.p.line,.int .i64 z.t.p.col,.slice A' m' c'] 97;obtain⟨w10,hw10⟩:∃ q,w9.alloc (Obj.cells #[.int .u8 z.m,.int .u8 z.t.k,.string z.t.s,.int .u8 z.t.m,.int .i64 z.t.p.at_,.int .i64 z.t.p.line,.int .i64 z.t.p.col,.slice A' m' c'] 97)=q:=⟨_,rfl⟩;rw[hw10] at hbx hkx ⊢;obtain⟨b8,hb8⟩:∃ q,w9.heap.size=q:=⟨_,rfl⟩;rw[hb8] at hkx ⊢;have Hb8:=qq (Hbel.out.trans (hbx.mono Hbel.out.size));clear q0 q1 q2 q3 q4 q5 q6 q7;have q1:w10.cell? ⟨b8,1,none⟩=some (.int .u8 z.t.k):=hkx.cell 1;have q2:w10.cell? ⟨b8,2,none⟩=some (.string z.t.s):=hkx.cell 2;have q3:w10.cell? ⟨b8,3,none⟩=some (.int .u8 z.t.m):=hkx.cell 3;have q4:w10.cell? ⟨b8,4,none⟩=some (.int .i64 z.t.p.at_):=hkx.cell 4;have q5:w10.cell? ⟨b8,5,none⟩=some (.int .i64 z.t.p.line):=hkx.cell 5;have q6:w10.cell? ⟨b8,6,none⟩=some (.int .i64 z.t.p.col):=hkx.cell 6;have q7:w10.cell? ⟨b8,7,none⟩=some (.slice A' m' c'):=hkx.cell 7;clear hbx hkx hw10 hb8 Hbel;go_wp2_with fail;refine(nodes13_go (nodesW z.t) z.t (Nat.le_refl _) A' m' c' w10 (HT.out.fresh Hb8.out)).mono ?_;rintro e w11 ⟨⟨r2,rfl⟩,hb11⟩;have Hb11:=qq (Hb8.out.trans (hb11.mono Hb8.out.size));clear q1 q2 q3 q4 q5 q6 q7 hb11 Hb8;obtain⟨r3,hr3⟩:∃ q,wrap64 (r+r2)=q:=⟨_,rfl⟩
          by_cases hr:r3>3000
          · have e1:decide (r3>3000)=true:=by simpa using hr
            have e2:decide (3000<r3)=true:=by simpa using hr
            clear hr;go_wp2_with fail;go_ret;exact⟨⟨_,rfl⟩,Hb11.out⟩
          · have e1:decide (r3>3000)=false:=by simpa using hr
            have e2:decide (3000<r3)=false:=by simpa using hr
            clear hr;go_wp2_with fail;go_roundg (nf - (p+1))
            case measure=>omega
            case rel=>exact⟨p+1,_,by omega,rfl,rfl,by go_num,Hb11.out⟩
        · have d2:decide (p<nf)=false:=by simpa using hpn
          go_wp2_with fail;go_roundg (nc - (q+1))
          case measure=>omega
          case rel=>exact⟨q+1,_,by omega,rfl,rfl,by go_num,Hbel.out⟩
     · have d1:decide (q<nc)=false:=by simpa using hqn
       by_cases hr:r>3000
       · have e1:decide (r>3000)=true:=by simpa using hr
         have e2:decide (3000<r)=true:=by simpa using hr
         clear hr;go_wp2_with fail;go_ret;exact⟨⟨_,rfl⟩,Hbel.out⟩
       · have e1:decide (r>3000)=false:=by simpa using hr
         have e2:decide (3000<r)=false:=by simpa using hr
         clear hr;go_wp2_with fail;go_roundg (n - (k+1))
         case measure=>omega
         case rel=>exact⟨k+1,_,by omega,rfl,rfl,by go_num,Hbel.out⟩
  · have d0:decide (k<n)=false:=by simpa using hkn
    go_wp2_with fail;go_ret;exact⟨⟨_,rfl⟩,Hbel.out⟩
end Go.Proofs.YtgpeijkjmkocgaaDoor
