import Derived.Test.YtgpeijkjmkocgaaDoorM34
import Derived.Test.YtgpeijkjmkocgaaDoorM21
import Derived.Test.YtgpeijkjmkocgaaDoorM10
import Derived.Laws.StructEq
set_option linter.unusedVariables false
set_option linter.unusedSimpArgs false
set_option maxHeartbeats 4000000
set_option maxRecDepth 100000
namespace Go.Proofs.YtgpeijkjmkocgaaDoor
open Go.RowKit
def headN (s:SigD) (d:DeclD):Int:=if d.k≠1 then 2 else if 40≤s.datas.length then 3 else if 0≤(baseK d.name).2∨0≤idxD s.datas d.name then 130 else if 4<d.params.length then 3 else if twiceP d.params then 130 else 0
theorem headE_n (s:SigD) (d:DeclD):headE s d=if headN s d≠0 then .error ⟨headN s d,d.p⟩ else .ok ⟨s.datas++[⟨d.name,d.params.length,[]⟩],s.cons⟩:=by
 unfold headE headN
 repeat' split
 all_goals first | rfl | contradiction | (exfalso; simp_all)
theorem idxP_any {X:Type} (p:X→Bool) (l:List X):(0≤idxP p l)↔l.any p=true:=by
 rcases idxP_cases p l with ⟨h1,h2⟩ | ⟨i,h1,h2,h3⟩
 · rw[h1]
   refine⟨fun h=>absurd h (by decide),fun h=>?_⟩;obtain⟨x,hx,hp⟩:=List.any_eq_true.1 h;rw[h2 x hx] at hp
   cases hp
 · rw[h1]
   exact⟨fun _=>List.any_eq_true.2 ⟨_,List.getElem_mem h2,h3⟩,fun _=>by omega⟩
theorem twiceP_yes {ps:List ByteArray} {k:Nat} (h:k<ps.length) (h4:ps.length≤4) (hq:0≤idxS (ps.take k) ps[k]):twiceP ps=true:=by
 unfold twiceP;refine List.any_eq_true.2 ⟨k,List.mem_range.2 (by omega),?_⟩;have:=(idxP_any _ _).1 hq;rw[List.getD_eq_getElem?_getD,qj h];exact this
theorem twiceP_no {ps:List ByteArray} (h4:ps.length≤4) (hq:∀ k (h:k<ps.length),¬ 0≤idxS (ps.take k) ps[k]):twiceP ps=false:=by
 unfold twiceP;refine Bool.eq_false_iff.2 fun h=>?_;obtain⟨k,hk,hp⟩:=List.any_eq_true.1 h
 have hk':k<ps.length:=by have:=List.mem_range.1 hk; omega
 rw[List.getD_eq_getElem?_getD,qj hk'] at hp;exact hq k hk' ((idxP_any _ _).2 hp)
theorem refHead_any (s:SigD) (A1:Option Addr) (n1 c1:Nat) (A2:Option Addr) (n2 c2:Nat) (x:DeclD) (Ap:Option Addr) (np cp:Nat) (Ac:Option Addr) (nc cc:Nat) (w:World) (hg:SigR w (Lt w.heap.size) s A1 n1 c1 A2 n2 c2) (hp:Sl w (Lt w.heap.size) encS 1 x.params Ap np cp) (h40:s.datas.length≤40):
  Calls Tryd.prog 51 #[.agg #[.slice A1 n1 c1,.slice A2 n2 c2],.agg (dlCells x Ap np cp Ac nc cc)] w fun e w'=>e=.returned (.int .i64 (headN s x))∧Below w.heap.size w w':=by
 have hd1:s.datas.length=n1:=hg.datas.len;have hpl:x.params.length=np:=hp.len;have m63:np≤9223372036854775807:=hp.cap
 obtain⟨W,hW,hbel,ks,kd⟩:∃ W,(w.alloc (Obj.cells #[.slice A1 n1 c1,.slice A2 n2 c2] 25)).alloc (Obj.cells (dlCells x Ap np cp Ac nc cc) 40)=W∧Below w.heap.size w W∧Blk W w.heap.size 25 #[.slice A1 n1 c1,.slice A2 n2 c2]∧Blk W (w.heap.size+1) 40 (dlCells x Ap np cp Ac nc cc):=by
  have g1:=below_box (w:=w) (Obj.cells #[.slice A1 n1 c1,.slice A2 n2 c2] 25);have k1:=blk_new w #[.slice A1 n1 c1,.slice A2 n2 c2] 25
  have s1:(w.alloc (Obj.cells #[.slice A1 n1 c1,.slice A2 n2 c2] 25)).heap.size=w.heap.size+1:=by simp
  generalize w.alloc (Obj.cells #[.slice A1 n1 c1,.slice A2 n2 c2] 25)=W1 at g1 k1 s1 ⊢;have g2:=below_box (w:=W1) (Obj.cells (dlCells x Ap np cp Ac nc cc) 40);have k2:=blk_new W1 (dlCells x Ap np cp Ac nc cc) 40;rw[s1] at k2;exact⟨_,rfl,g1.trans (g2.mono g1.size),k1.below g2 k1.lt,k2⟩
 unfold dlCells at hW;have HW:=qq hW;have Hbel:=qq hbel;have HG:=qq (hg.fresh hbel);have HP:=qq (hp.fresh hbel);have z0:W.cell? ⟨w.heap.size,0,none⟩=some (.slice A1 n1 c1):=ks.cell 0;have z1:W.cell? ⟨w.heap.size,1,none⟩=some (.slice A2 n2 c2):=ks.cell 1;have e0:W.cell? ⟨w.heap.size+1,0,none⟩=some (.int .u8 x.k):=kd.cell 0;have e1:W.cell? ⟨w.heap.size+1,1,none⟩=some (.string x.name):=kd.cell 1;have e5:W.cell? ⟨w.heap.size+1,5,none⟩=some (.slice Ap np cp):=kd.cell 5;have Hks:=qq ks;have Hkd:=qq kd;clear hW hbel hg hp ks kd;unfold dlCells
 go_enter Tryd.func51,Tryd.ntmps51
 go_upto_region 1 with fail;rw[HW.out];clear HW
 by_cases q1:x.k≠1
 · have d1:(x.k != 1)=true:=by simpa using q1
   have hN:headN s x=2:=by unfold headN; rw[if_pos q1]
   clear q1;have HE:Hid (headN s x=2):=qq (by rw[hN]);clear hN;go_wp2_with fail;go_ret;exact⟨ret_int HE.out.symm,Hbel.out⟩
 · have d1:(x.k != 1)=false:=by simpa using q1
   by_cases q2:40≤s.datas.length
   · have d2:((n1:Int)==40)=true:=by simp; omega
     have d2n:(n1==40)=true:=by simp; omega
     have hN:headN s x=3:=by unfold headN; rw[if_neg q1,if_pos q2]
     clear q1 q2;have HE:Hid (headN s x=3):=qq (by rw[hN]);clear hN;go_wp2_with fail;go_ret;exact⟨ret_int HE.out.symm,Hbel.out⟩
   · have d2:((n1:Int)==40)=false:=by simp; omega
     have d2n:(n1==40)=false:=by simp; omega
     have hqf:=refData_any A1 n1 c1 A2 n2 c2 s.datas x.name W (Lt W.heap.size) (fun _ h=>h) HG.out.datas;obtain⟨q,hq⟩:∃ q,idxD s.datas x.name=q:=⟨_,rfl⟩
     rw[show idxP (fun y:DataD=>decide (y.name=x.name)) s.datas=q from hq] at hqf
     obtain⟨bk,hbk⟩:∃ q,(baseK x.name).2=q:=⟨_,rfl⟩;have hqb:=fun W':World=>builtin_any x.name W';simp only[hbk] at hqb;have Hqf:=qq hqf;have Hqb:=qq hqb;clear hqf hqb
     by_cases q3:0≤q
     · have d3:decide (q≥0)=true:=by simpa using q3
       have hN:headN s x=130:=by unfold headN; rw[if_neg q1,if_neg q2,if_pos (Or.inr (by rw[hq]; exact q3))]
       clear q1 q2 q3 hq hbk;go_wp2_with fail;refine Hqf.out.mono ?_;rintro e w1 ⟨rfl,hb1⟩;replace Hbel:=qq (Hbel.out.trans (hb1.mono Hbel.out.size));clear hb1 z0 z1 e0 e1 e5;have HE:Hid (headN s x=130):=qq (by rw[hN]);clear hN;go_wp2_with fail;go_ret;exact⟨ret_int HE.out.symm,Hbel.out⟩
     · have d3:decide (q≥0)=false:=by simpa using q3
       by_cases q4:0≤bk
       · have d4:decide (bk≥0)=true:=by simpa using q4
         have hN:headN s x=130:=by unfold headN; rw[if_neg q1,if_neg q2,if_pos (Or.inl (by rw[hbk]; exact q4))]
         clear q1 q2 q3 q4 hq hbk;go_wp2_with fail;refine Hqf.out.mono ?_;rintro e w1 ⟨rfl,hb1⟩;have e1':=(hb1.cell (block_lt_of_cell e1)).trans e1;replace Hbel:=qq (Hbel.out.trans (hb1.mono Hbel.out.size));clear hb1 z0 z1 e0 e1 e5;go_wp2_with fail;refine(Hqb.out _).mono ?_;rintro e w2 ⟨rfl,rfl⟩;clear e1';have HE:Hid (headN s x=130):=qq (by rw[hN]);clear hN;go_wp2_with fail;go_ret;exact⟨ret_int HE.out.symm,Hbel.out⟩
       · have d4:decide (bk≥0)=false:=by simpa using q4
         go_wp2_with fail;refine Hqf.out.mono ?_;rintro e w1 ⟨rfl,hb1⟩;have e1':=(hb1.cell (block_lt_of_cell e1)).trans e1;have e5':=(hb1.cell (block_lt_of_cell e5)).trans e5;replace Hbel:=qq (Hbel.out.trans (hb1.mono Hbel.out.size));have HP1:=qq (HP.out.fresh hb1);clear hb1 z0 z1 e0 e1 e5;go_wp2_with fail;refine(Hqb.out _).mono ?_;rintro e w2 ⟨rfl,rfl⟩
         by_cases q5:4<np
         · have d5:decide ((np:Int)>4)=true:=by simp; omega
           have d5n:decide (np>4)=true:=by simpa using q5
           have d5m:decide (4<np)=true:=by simpa using q5
           have d5i:decide ((4:Int)<np)=true:=by simp; omega
           have hN:headN s x=3:=by unfold headN; rw[if_neg q1,if_neg q2,if_neg (by rw[hbk,hq]; omega),if_pos (by omega)]
           clear q1 q2 q3 q4 q5 hq hbk;have HE:Hid (headN s x=3):=qq (by rw[hN]);clear hN;go_wp2_with fail;go_ret;exact⟨ret_int HE.out.symm,Hbel.out⟩
         · have d5:decide ((np:Int)>4)=false:=by simp; omega
           have d5n:decide (np>4)=false:=by simpa using q5
           have d5m:decide (4<np)=false:=by simpa using q5
           have d5i:decide ((4:Int)<np)=false:=by simp; omega
           have Hgo:Hid (headN s x=if twiceP x.params then 130 else 0):=qq (by unfold headN; rw[if_neg q1,if_neg q2,if_neg (by rw[hbk,hq]; omega),if_neg (by omega)])
           have h4:np≤4:=by omega
           clear q1 q2 q3 q4 q5 hq hbk;go_wp2_with fail
           go_loopg [5] np (fun gh i wr=>∃ k:Nat,k≤np∧gh=np - k∧i=.int .i64 (k:Nat)∧Below w2.heap.size w2 wr∧∀ m (h:m<x.params.length),m<k→idxS (x.params.take m) x.params[m]<0)
           case atStart=>exact⟨0,Nat.zero_le _,rfl,rfl,Below.refl _ _,fun m h hm=>absurd hm (by omega)⟩
           case round=>
            obtain⟨k,hk,rfl,rfl,hbr,hno⟩:=hrel;have e5:=(hbr.cell (block_lt_of_cell e5')).trans e5'
            by_cases hkn:k<np
            · have d0:decide (k<np)=true:=by simpa using hkn
              have hk':k<x.params.length:=by omega
              have hps:=HP1.out.fresh hbr;obtain⟨b,off,rfl,hb,hc⟩:=strs_at hps (by omega);have ec:=hc k hk';have hcp:np≤cp:=hps.2.1;have hq:=fun(W':World) (hb':Below wr.heap.size wr W')=>refAt13_any (some ⟨b,off,none⟩) k cp (x.params.take k) x.params[k] W' _ ((hps.fresh hb').take (i:=k) (by omega));obtain⟨pn,hpn⟩:∃ z,x.params[k]=z:=⟨_,rfl⟩;obtain⟨q',hq'⟩:∃ z,idxS (x.params.take k) pn=z:=⟨_,rfl⟩;simp only[hpn,hq'] at hq;rw[hpn] at ec;have Hq:=qq hq
              have Hq':Hid (idxS (x.params.take k) x.params[k]=q'):=qq (by rw[hpn]; exact hq')
              have Hno:=qq hno;have Hbr:=qq hbr;have cp63:cp≤9223372036854775807:=hps.2.2.1
              have k1:(0:Int)≤(k:Int):=by omega
              have k2:(k:Int)<np:=by omega
              have k3:(k:Int)≤cp:=by omega
              clear hq hq' hno hbr hc hps hpn hb
              have hkcp:k≤cp:=by omega
              go_upto_region 12 with fail;refine wp_region_noPanic ?_;refine wp_region_T (fun w'=>w'.cell? ⟨w.heap.size+1,5,none⟩=some (.slice (some ⟨b,off,none⟩) np cp)∧w'.cell? ⟨b,off+k,none⟩=some (.string pn)∧True) 11 (by kernel_rfl) ⟨e5,ec,trivial⟩ (fun hHeld=>?_);have hbd:Below wr.heap.size wr wr.drew:=Below.drew (Below.refl _ _);have Hbd:=qq hbd;clear hbd e5 ec;generalize wr.drew=w9 at hHeld Hbd ⊢;refine nx0 0 ?_
              iterate 9 (refine nx (v:=?_) rfl (by kernel_rfl) (fun _ _ _ h=>h) (by kernel_rfl) ?_ (by assumption) ?_; rotate_left; (focus (intro w hSw; (try dsimp only at hSw); first | (go_simp; done) | (go_simp; with_reducible rfl))); try simp only[Act.put,qg,qe,qf,qd,qh,qi,Nat.reduceAdd])
              refine nx9 ?_;have HZ:Hid (HeldL [(⟨w.heap.size+1,5,none⟩,.slice (some ⟨b,off,none⟩) np cp),(⟨b,off+k,none⟩,.string pn)] w9):=qq hHeld;refine wpAnyT_step (i:=9) (by kernel_rfl) rfl (fun K hK=>?_)
              (go_simp; refine(Hq.out _ Hbd.out).mono ?_; rintro e w10 ⟨rfl,rfl⟩)
              refine hK.out _ _ HZ.out ?_;clear hK K
              try simp only[Act.put,qg,qe,qf,qd,qh,qi]
              have Hbr2:=qq (Hbr.out.trans (Hbd.out.mono Hbr.out.size))
              by_cases hz:0≤q'
              · have d6:decide (q'≥0)=true:=by simpa using hz
                have d6':decide (0≤q')=true:=by simpa using hz
                have HE:Hid (headN s x=130):=qq (by rw[Hgo.out,twiceP_yes hk' (by omega) (by rw[Hq'.out]; exact hz),if_pos rfl])
                clear hz
                refine wpAnyT_take (i:=10) (v:=?_) rfl (by kernel_rfl) (by kernel_rfl) (by kernel_rfl) (by kernel_rfl) (fun _ _ _ h=>h) (Or.inl ⟨by kernel_rfl,?_⟩) (by assumption) ?_
                rotate_left
                · (intro w hSw; (try dsimp only at hSw); first | (go_simp; done) | (go_simp; with_reducible rfl))
                try simp only[Act.put,qg,qe,qf,qd,qh,qi]
                clear hHeld HZ;refine wpAnyT_seq 11 (by omega) (by rfl) (by kernel_rfl) ?_;simp only[List.drop_succ_cons,List.drop_zero];go_wp2_with fail;refine NoPanic.normal ?_;go_wp2_with fail;go_ret;exact⟨ret_int HE.out.symm,Hbel.out.trans (Hbr2.out.mono Hbel.out.size)⟩
              · have d6:decide (q'≥0)=false:=by simpa using hz
                have d6':decide (0≤q')=false:=by simpa using hz
                have Hno2:Hid (∀ m (h:m<x.params.length),m<k+1→idxS (x.params.take m) x.params[m]<0):=qq fun m h hm=>by
                 rcases Nat.lt_or_ge m k with q | q
                 · exact Hno.out m h q
                 · obtain rfl:m=k:=by omega
                   rw[Hq'.out];omega
                clear hz
                refine wpAnyT_take (i:=10) (v:=?_) rfl (by kernel_rfl) (by kernel_rfl) (by kernel_rfl) (by kernel_rfl) (fun _ _ _ h=>h) (Or.inl ⟨by kernel_rfl,?_⟩) (by assumption) ?_
                rotate_left
                · (intro w hSw; (try dsimp only at hSw); first | (go_simp; done) | (go_simp; with_reducible rfl))
                try simp only[Act.put,qg,qe,qf,qd,qh,qi]
                clear hHeld HZ;refine wpAnyT_seq 11 (by omega) (by rfl) (by kernel_rfl) ?_;simp only[List.drop_succ_cons,List.drop_zero];go_wp2_with fail;refine NoPanic.normal ?_;go_wp2_with fail;go_roundg (np - (k+1))
                case measure=>omega
                case rel=>exact⟨k+1,by omega,rfl,by go_num,Hbr2.out,Hno2.out⟩
            · have d0:decide (k<np)=false:=by simpa using hkn
              have HE:Hid (headN s x=0):=qq (by rw[Hgo.out,twiceP_no (by omega) (fun m h=>by have:=hno m h (by omega); omega),if_neg (by simp)])
              have Hf:=qq (Hbel.out.trans (hbr.mono Hbel.out.size));clear hbr hno;go_wp2_with fail;go_ret;exact⟨ret_int HE.out.symm,Hf.out⟩
theorem Sl.new {X:Type} {enc:X→List Cel} {k:Nat} (w:World) (S0:Nat→Prop) (h0:∀ b,S0 b→b<w.heap.size) (xs:List X) (us:List Value) (T:TypeId) (n:Nat) (hn:xs.length=n) (hm:n≤maxLen) (hc:CelsV w S0 (xs.flatMap enc) us):Sl (w.alloc (Obj.cells us.toArray T)) (fun b=>S0 b∨b=w.heap.size) enc k xs (some ⟨w.heap.size,0,none⟩) n n:=by
 have hb:=below_box (w:=w) (Obj.cells us.toArray T);refine⟨hn,Nat.le_refl _,hm,fun _=>⟨w.heap.size,0,rfl,Or.inr rfl,(hc.keep (S':=fun b=>S0 b∨b=w.heap.size) (fun b hb=>Or.inl hb) fun p hp=>hb.cell (h0 _ hp)).in_ fun j u hu=>?_⟩⟩;rw[Nat.zero_add,(blk_new w us.toArray T).cell j]
 simpa using hu
theorem Sl.freshS {X:Type} {enc:X→List Cel} {k:Nat} {w w':World} {S:Nat→Prop} {xs:List X} {A:Option Addr} {m cp:Nat} (h:Sl w S enc k xs A m cp) (h0:∀ b,S b→b<w.heap.size) (hb:Below w.heap.size w w'):Sl w' S enc k xs A m cp:=h.keep (fun _ h=>h) fun p hp=>hb.cell (h0 _ hp)
theorem wC {w:World} {S:Nat→Prop} {t:TyW} {A:Option Addr} {m c:Nat} (h:Sl w S encW 7 t.l A m c):CelsV w S (encW t) [.int .u8 t.k,.string t.s,.int .u8 t.m,.int .i64 t.p.at_,.int .i64 t.p.line,.int .i64 t.p.col,.slice A m c]:=by
 rw[encW_eq];exact⟨celIn_v.2 rfl,celIn_v.2 rfl,celIn_v.2 rfl,celIn_v.2 rfl,celIn_v.2 rfl,celIn_v.2 rfl,(sl_iff encW_len (by omega)).2 ⟨A,m,c,rfl,h⟩,trivial⟩
theorem CelsV.setv {w:World} {S:Nat→Prop} {u:Value}:∀ {l:List Cel} {us:List Value} (i:Nat),CelsV w S l us→CelsV w S (l.set i (.v u)) (us.set i u)
 | [],[],_,_=>trivial
 | c :: r,x :: us,0,h=>⟨celIn_v.2 rfl,h.2⟩
 | c :: r,x :: us,i+1,h=>⟨h.1,CelsV.setv i h.2⟩
 | [],_ :: _,_,h=>h.elim
 | _ :: _,[],_,h=>h.elim
theorem OwnC.put {w:World} {base:Nat} {e:TypeId} {k:Nat} {R:Nat→Prop} {g n c:Nat} {l:List Cel} (h:OwnC w base e k R (.slice (some ⟨g,0,none⟩) n c) n l) (i:Nat) (u:Value):OwnC (w.setCell ⟨g,i,none⟩ u) base e k R (.slice (some ⟨g,0,none⟩) n c) n (l.set i (.v u)):=by
 obtain⟨h0,cs,h1,h2⟩:=h
 refine⟨by rw[List.length_set]; exact h0,cs.set i u,(h1.stored i u).1,(h2.setv i).keep (fun b hb=>⟨by rw[World.size_setCell]; exact hb.1,hb.2⟩) fun p hp=>World.cell?_setCell_other _ _ _ _ fun e=>hp.2.1 (by rw[← e]; rfl)⟩
def nT:ByteArray:=⟨#[84]⟩
def na:ByteArray:=⟨#[97]⟩
def nA:ByteArray:=⟨#[65]⟩
def nB:ByteArray:=⟨#[66]⟩
def wyA (n:Int):TyW:=.mk 1 na 0 (atP n) []
def wyT:TyW:=.mk 2 nT 0 (atP 18) [wyA 20]
def tD:DeclD:=⟨1,nT,atP 5,[na],[⟨nA,atP 9,[⟨1,wyA 13⟩,⟨3,wyT⟩]⟩,⟨nB,atP 30,[]⟩],false,.int .u8 0,.string ⟨#[]⟩,.int .i64 0,.int .i64 0,.int .i64 0,.int .i64 0,.slice none 0 0,.slice none 0 0⟩
theorem na_ge:(!Op.bytesLess (⟨#[97]⟩:ByteArray).toList [97])=true:=by decide +kernel
theorem nT_ge:(!Op.bytesLess (⟨#[84]⟩:ByteArray).toList [97])=false:=by decide +kernel
def TPost (w:World) (e:Ending) (w':World):Prop:=
 ∃ Ap np cp Ac nc cc,e=.returned (.agg (dlCells tD Ap np cp Ac nc cc))∧Sl w' (Lt w'.heap.size) encS 1 tD.params Ap np cp∧Sl w' (Lt w'.heap.size) encC 5 tD.cons Ac nc cc∧Below w.heap.size w w'
theorem t_any (w:World):Calls Tryd.prog 9 #[] w (TPost w):=by
 have hbx:=below_box (w:=w) (Obj.cells zeroDl 40);have hkx:=blk_new w zeroDl 40;obtain⟨W,hW⟩:∃ q,w.alloc (Obj.cells zeroDl 40)=q:=⟨_,rfl⟩;rw[hW] at hbx hkx;have hwW:=hkx.lt;have HW:=qq hW;have Hb:=qq hbx;have Hk:=qq hkx;clear hW hbx hkx
 go_enter Tryd.func9,Tryd.ntmps9
 go_upto_region 1 with fail
 rw[show w.alloc (Obj.cells #[.int .u8 0,.string ⟨#[]⟩,.int .i64 0,.int .i64 0,.int .i64 0,.slice none 0 0,.slice none 0 0,.bool false,.int .u8 0,.string ⟨#[]⟩,.int .i64 0,.int .i64 0,.int .i64 0,.int .i64 0,.slice none 0 0,.slice none 0 0] 40)=W from HW.out]
 clear HW;refine wp_region_list ?_;refine wpList_plain rfl fun K hK=>?_;go_simp;refine hK _ _ ?_;clear hK K;have hb1:=below_box (w:=W) (Obj.cells #[.string ⟨#[97]⟩] 9)
 have hs1:=Sl.new (enc:=encS) (k:=1) W (fun _=>False) (fun _ h=>h.elim) [na] [.string ⟨#[97]⟩] 9 1 rfl (by unfold maxLen; omega) ⟨celIn_v.2 rfl,trivial⟩
 obtain⟨w1,hw1⟩:∃ q,W.alloc (Obj.cells #[.string ⟨#[97]⟩] 9)=q:=⟨_,rfl⟩
 have hz1:w1.heap.size=W.heap.size+1:=by rw[← hw1]; simp
 rw[show W.alloc (Obj.cells ([.string ⟨#[97]⟩]:List Value).toArray 9)=w1 from hw1] at hs1
 rw[show W.alloc (Obj.cells #[.string { data:=#[97] }] 9)=w1 from hw1]
 rw[hw1] at hb1;have hB1:=Hb.out.trans (hb1.mono Hb.out.size);have hk1:=Hk.out.below hb1 Hk.out.lt;have Hs1:=qq hs1;have HB1:=qq hB1;have Hk1:=qq hk1
 have e1:∀ b,(False∨b=W.heap.size)→b<w1.heap.size:=fun b h=>h.elim (fun q=>q.elim) fun q=>by omega
 clear hw1 hb1 hs1 hB1 hk1 Hb Hk;refine wpList_plain rfl fun K hK=>?_;go_simp;refine(named_any ⟨#[97]⟩ true na_ge 13 (by omega) (by omega) none 0 0 w1).mono ?_;rintro e w2 ⟨rfl,hq⟩;refine hK _ _ ?_;clear hK K;have Hs2:=qq (Hs1.out.freshS e1 hq);have e2:∀ b,(False∨b=W.heap.size)→b<w2.heap.size:=fun b h=>Nat.lt_of_lt_of_le (e1 b h) hq.size;have HB2:=qq (HB1.out.trans (hq.mono HB1.out.size));have Hk2:=qq (Hk1.out.below hq Hk1.out.lt);clear hq Hs1 HB1 Hk1;refine wpList_plain rfl fun K hK=>?_;go_simp;refine(named_any ⟨#[97]⟩ true na_ge 20 (by omega) (by omega) none 0 0 w2).mono ?_;rintro e w3 ⟨rfl,hq⟩;refine hK _ _ ?_;clear hK K;have Hs3:=qq (Hs2.out.freshS e2 hq);have e3:∀ b,(False∨b=W.heap.size)→b<w3.heap.size:=fun b h=>Nat.lt_of_lt_of_le (e2 b h) hq.size;have HB3:=qq (HB2.out.trans (hq.mono HB2.out.size));have Hk3:=qq (Hk2.out.below hq Hk2.out.lt);have Hk3l:=Hk3.out.lt;clear hq Hs2 HB2 Hk2;refine wpList_plain rfl fun K hK=>?_;go_simp;refine hK _ _ ?_;clear hK K;have hb1:=below_box (w:=w3) (Obj.cells #[.int .u8 1,.string ⟨#[97]⟩,.int .u8 0,.int .i64 20,.int .i64 1,.int .i64 21,.slice none 0 0] 47)
 have hs1:=Sl.new (enc:=encW) (k:=7) w3 (fun _=>False) (fun _ h=>h.elim) [wyA 20] [.int .u8 1,.string ⟨#[97]⟩,.int .u8 0,.int .i64 20,.int .i64 1,.int .i64 21,.slice none 0 0] 47 1 rfl (by unfold maxLen; omega) (by rw[List.flatMap_cons,List.flatMap_nil,List.append_nil]; exact wC (t:=wyA 20) Sl.nil)
 obtain⟨w4,hw4⟩:∃ q,w3.alloc (Obj.cells #[.int .u8 1,.string ⟨#[97]⟩,.int .u8 0,.int .i64 20,.int .i64 1,.int .i64 21,.slice none 0 0] 47)=q:=⟨_,rfl⟩
 have hz4:w4.heap.size=w3.heap.size+1:=by rw[← hw4]; simp
 rw[show w3.alloc (Obj.cells ([.int .u8 1,.string ⟨#[97]⟩,.int .u8 0,.int .i64 20,.int .i64 1,.int .i64 21,.slice none 0 0]:List Value).toArray 47)=w4 from hw4] at hs1
 rw[show w3.alloc (Obj.cells #[.int .u8 1,.string { data:=#[97] },.int .u8 0,.int .i64 20,.int .i64 1,.int .i64 21,.slice none 0 0] 47)=w4 from hw4]
 rw[hw4] at hb1;have Hs4:=qq (Hs3.out.freshS e3 hb1);have e4:∀ b,(False∨b=W.heap.size)→b<w4.heap.size:=fun b h=>Nat.lt_of_lt_of_le (e3 b h) hb1.size
 have i4:∀ b,(False∨b=w3.heap.size)→b<w4.heap.size:=fun b h=>h.elim (fun q=>q.elim) fun q=>by omega
 have HB4:=qq (HB3.out.trans (hb1.mono HB3.out.size));have Hk4:=qq (Hk3.out.below hb1 Hk3.out.lt);have Hi4:=qq hs1;clear hw4 hb1 hs1 Hs3 Hk3;refine wpList_plain rfl fun K hK=>?_;go_simp;refine(named_any ⟨#[84]⟩ false nT_ge 18 (by omega) (by omega) (some ⟨w3.heap.size,0,none⟩) 1 1 w4).mono ?_;rintro e w5 ⟨rfl,hq⟩;refine hK _ _ ?_;clear hK K;have Hs5:=qq (Hs4.out.freshS e4 hq);have e5:∀ b,(False∨b=W.heap.size)→b<w5.heap.size:=fun b h=>Nat.lt_of_lt_of_le (e4 b h) hq.size;have i5:∀ b,(False∨b=w3.heap.size)→b<w5.heap.size:=fun b h=>Nat.lt_of_lt_of_le (i4 b h) hq.size;have HB5:=qq (HB4.out.trans (hq.mono HB4.out.size));have Hk5:=qq (Hk4.out.below hq Hk4.out.lt);have Hi5:=qq (Hi4.out.freshS i4 hq);clear hq Hs4 HB4 Hk4 Hi4;refine wpList_plain rfl fun K hK=>?_;go_simp;refine hK _ _ ?_;clear hK K;have hb1:=below_box (w:=w5) (Obj.cells #[.int .u8 1,.string ⟨#[97]⟩,.int .u8 0,.int .i64 13,.int .i64 1,.int .i64 14,.slice none 0 0,.int .u8 2,.string ⟨#[84]⟩,.int .u8 0,.int .i64 18,.int .i64 1,.int .i64 19,.slice (some ⟨w3.heap.size,0,none⟩) 1 1] 47)
 have hs1:=Sl.new (enc:=encW) (k:=7) w5 _ i5 [wyA 13,wyT] [.int .u8 1,.string ⟨#[97]⟩,.int .u8 0,.int .i64 13,.int .i64 1,.int .i64 14,.slice none 0 0,.int .u8 2,.string ⟨#[84]⟩,.int .u8 0,.int .i64 18,.int .i64 1,.int .i64 19,.slice (some ⟨w3.heap.size,0,none⟩) 1 1] 47 2 rfl (by unfold maxLen; omega) (by rw[List.flatMap_cons,List.flatMap_cons,List.flatMap_nil,List.append_nil]; exact CelsV.append (us:=[_,_,_,_,_,_,_]) (wC (t:=wyA 13) Sl.nil) (wC (t:=wyT) Hi5.out))
 obtain⟨w6,hw6⟩:∃ q,w5.alloc (Obj.cells #[.int .u8 1,.string ⟨#[97]⟩,.int .u8 0,.int .i64 13,.int .i64 1,.int .i64 14,.slice none 0 0,.int .u8 2,.string ⟨#[84]⟩,.int .u8 0,.int .i64 18,.int .i64 1,.int .i64 19,.slice (some ⟨w3.heap.size,0,none⟩) 1 1] 47)=q:=⟨_,rfl⟩
 have hz6:w6.heap.size=w5.heap.size+1:=by rw[← hw6]; simp
 rw[show w5.alloc (Obj.cells ([.int .u8 1,.string ⟨#[97]⟩,.int .u8 0,.int .i64 13,.int .i64 1,.int .i64 14,.slice none 0 0,.int .u8 2,.string ⟨#[84]⟩,.int .u8 0,.int .i64 18,.int .i64 1,.int .i64 19,.slice (some ⟨w3.heap.size,0,none⟩) 1 1]:List Value).toArray 47)=w6 from hw6] at hs1
 rw[show w5.alloc (Obj.cells #[.int .u8 1,.string { data:=#[97] },.int .u8 0,.int .i64 13,.int .i64 1,.int .i64 14,.slice none 0 0,.int .u8 2,.string { data:=#[84] },.int .u8 0,.int .i64 18,.int .i64 1,.int .i64 19,.slice (some ⟨w3.heap.size,0,none⟩) 1 1] 47)=w6 from hw6]
 rw[hw6] at hb1;have Hs6:=qq (Hs5.out.freshS e5 hb1);have e6:∀ b,(False∨b=W.heap.size)→b<w6.heap.size:=fun b h=>Nat.lt_of_lt_of_le (e5 b h) hb1.size
 have i6:∀ b,((False∨b=w3.heap.size)∨b=w5.heap.size)→b<w6.heap.size∧¬ b=w.heap.size:=fun b h=>by
  have:=HB5.out.size;have:=HB3.out.size;have:=Hk3l
  rcases h with (h | h) | h
  · exact h.elim
  · exact⟨Nat.lt_of_lt_of_le (i5 b (Or.inr h)) hb1.size,by omega⟩
  · exact⟨by omega,by have:=Hk5.out.lt; omega⟩
 have HB6:=qq (HB5.out.trans (hb1.mono HB5.out.size));have Hk6:=qq (Hk5.out.below hb1 Hk5.out.lt);have Hi6:=qq hs1;clear hw6 hb1 hs1 Hs5 HB5 Hk5 Hi5;refine wpList_plain rfl fun K hK=>?_;go_simp;refine(decl_any (fun b=>b=w.heap.size) ⟨#[84]⟩ (some ⟨W.heap.size,0,none⟩) 1 1 (some ⟨w5.heap.size,0,none⟩) 2 2 [wyA 13,wyT] w6 (Hi6.out.mono i6) (by omega)).mono ?_;rintro e w7 ⟨gc,A5,c5,base,rfl,hq,hgc,hbs,hkg,hown,hol⟩;refine hK _ _ ?_;clear hK K;have Hq7:=qq hq;have hs6w:=HB6.out.size;have Hol:=qq hol;have hs67:=hq.size;have HB7:=qq (HB6.out.trans (hq.mono HB6.out.size));have Hk7:=qq (Hk6.out.below hq Hk6.out.lt);have Hkg:=qq hkg;have Hown:=qq hown;clear hq HB6 Hk6 Hi6 hkg hown hol;refine wpList_plain rfl fun K hK=>?_;go_simp;refine hK _ _ ?_;clear hK K;refine wpList_store_new rfl 40 (.tmp 1) (.tmp 8) rfl zeroDl (declCells ⟨#[84]⟩ (some ⟨W.heap.size,0,none⟩) 1 1 gc) rfl rfl (by kernel_rfl) rfl (declCells_one _ _ _ _ _) ?_;have hbx:=below_box (w:=w7) (Obj.cells (declCells ⟨#[84]⟩ (some ⟨W.heap.size,0,none⟩) 1 1 gc) 40);have hkx:=blk_new w7 (declCells ⟨#[84]⟩ (some ⟨W.heap.size,0,none⟩) 1 1 gc) 40;obtain⟨w8,hw8⟩:∃ q,w7.alloc (Obj.cells (declCells ⟨#[84]⟩ (some ⟨W.heap.size,0,none⟩) 1 1 gc) 40)=q:=⟨_,rfl⟩;rw[hw8] at hbx hkx ⊢;have hown:=Hown.out.beyond hbx;obtain⟨hl0,cs,hrow,hcv⟩:=hown;obtain⟨g,rfl,hgo,hg1,hg2,hgc1,hgf⟩:=own_addr hrow (by omega)
 have hcl:8<cs.length:=by have:=hcv.len; rw[this]; rw[hl0]; decide
 have z8:w8.cell? ⟨g,8,none⟩=some cs[8]:=hgc1 8 _ (qj hcl);have f8:=hgf 8;have y6:w8.cell? ⟨w7.heap.size,6,none⟩=some (.slice (some ⟨gc,0,none⟩) 2 2):=hkx.cell 6;have hkg8:=Hkg.out.below hbx Hkg.out.lt;have z4:w8.cell? ⟨gc,4,none⟩=some (.slice (some ⟨g,0,none⟩) 2 c5):=hkg8.cell 4;have hown8:OwnC w8 base 97 8 (fun b=>w6.heap.size≤b∨b=w.heap.size) (.slice (some ⟨g,0,none⟩) 2 c5) 2 ([wyA 13,wyT].flatMap oneF):=⟨hl0,cs,hrow,hcv⟩;have hb68:=Hq7.out.trans (hbx.mono hs67);have Hown8:=qq (hown8.put 8 (.int .u8 3))
 have Hb69:=qq (hb68.setCell (p:=⟨g,8,none⟩) (by show w6.heap.size≤g; omega) (.int .u8 3))
 have hb68':=hbx.size
 have Hkx:=qq (hkx.other (g':=g) (fun e=>by have:=Hown.out.lt g (by rfl); omega) 8 (.int .u8 3))
 have hg7:=(Hown.out.lt g rfl);have hggc:=Hol.out g rfl;have Hkr:=qq ((Hk7.out.below hbx Hk7.out.lt).other (g':=g) (by omega) 8 (.int .u8 3));have Hkg9:=qq (hkg8.other (g':=g) (by omega) 8 (.int .u8 3))
 have Hb9:=qq ((HB7.out.trans (hbx.mono HB7.out.size)).setCell (p:=⟨g,8,none⟩) (by show w.heap.size≤g; omega) (.int .u8 3))
 clear hw8 hrow hcv hown8 hb68 hbx hkx hkg8;go_upto_region 3 with fail;obtain⟨w9,hw9⟩:∃ q,w8.setCell ⟨g,8,none⟩ (.int .u8 3)=q:=⟨_,rfl⟩;rw[hw9] at Hown8 Hb69 Hkx Hkr Hkg9 Hb9 ⊢
 have hW9:w9.heap.size=w8.heap.size:=by rw[← hw9,World.size_setCell]
 clear z8 f8 y6 z4 hw9 hgc1 hgf
 have hrx:w9.rangeAt w7.heap.size 0 (declCells ⟨#[84]⟩ (some ⟨W.heap.size,0,none⟩) 1 1 gc).toList:=fun j v hj=>by
  rw[Nat.zero_add,Hkx.out.cell j]
  simpa using hj
 have ht:w9.there w.heap.size 0 (declCells ⟨#[84]⟩ (some ⟨W.heap.size,0,none⟩) 1 1 gc).size:=fun j hj=>⟨by rw[Hkr.out.cell]; have:j<16:=hj; simp[zeroDl,Nat.zero_add]; omega,Hkr.out.frozen _⟩
 refine wp_region_list ?_;refine wpList_load_mid rfl 40 (.tmp 1) rfl w7.heap.size 0 rfl (declCells ⟨#[84]⟩ (some ⟨W.heap.size,0,none⟩) 1 1 gc).toList _ hrx Tryd.underlying40 rfl (by kernel_rfl) ?_;refine wpList_store_mid rfl 40 (.tmp 0) (.tmp 16) rfl w.heap.size 0 (declCells ⟨#[84]⟩ (some ⟨W.heap.size,0,none⟩) 1 1 gc) rfl rfl ht (by kernel_rfl) (declCells_one _ _ _ _ _) ?_
 have hr:=World.rangeAt_setCells_same w9 w.heap.size 0 (declCells ⟨#[84]⟩ (some ⟨W.heap.size,0,none⟩) 1 1 gc).toList (by rw[Array.length_toList]; exact ht)
 have hb9:=Below.setCells (Nat.le_refl w.heap.size) (declCells ⟨#[84]⟩ (some ⟨W.heap.size,0,none⟩) 1 1 gc).toList 0 w9 Hb9.out;have hob9:=OwnC.setCells (b:=w.heap.size) (by omega) (Or.inr rfl) (declCells ⟨#[84]⟩ (some ⟨W.heap.size,0,none⟩) 1 1 gc).toList 0 w9 Hown8.out;have hbl:=fun i (h:i≠w.heap.size)=>setCells_block (b:=w.heap.size) (i:=i) h (declCells ⟨#[84]⟩ (some ⟨W.heap.size,0,none⟩) 1 1 gc).toList 0 w9;have hkg9:Blk (w9.setCells w.heap.size 0 (declCells ⟨#[84]⟩ (some ⟨W.heap.size,0,none⟩) 1 1 gc).toList) gc _ _:=(hbl gc (by omega)).trans Hkg9.out
 have hs9:=(Hs6.out.freshS e6 Hb69.out).keep (w':=w9.setCells w.heap.size 0 (declCells ⟨#[84]⟩ (some ⟨W.heap.size,0,none⟩) 1 1 gc).toList) (fun _ h=>h) fun p hp=>World.cell?_of_block (hbl p.block (by
  rcases hp with q | q
  · exact q.elim
  · have:=Hk3l; rw[q]; omega))
 have hsz:=(Below.setCells (Nat.zero_le w.heap.size) (declCells ⟨#[84]⟩ (some ⟨W.heap.size,0,none⟩) 1 1 gc).toList 0 w9 (Below.refl 0 w9)).size;refine NoPanic.normal ?_;generalize w9.setCells w.heap.size 0 (declCells ⟨#[84]⟩ (some ⟨W.heap.size,0,none⟩) 1 1 gc).toList=wF at hr hb9 hob9 hkg9 hs9 hsz ⊢;have d:=fun j (v:Value) (h:(declCells ⟨#[84]⟩ (some ⟨W.heap.size,0,none⟩) 1 1 gc).toList[j]?=some v)=>hr j v h;have d0:wF.cell? ⟨w.heap.size,0,none⟩=some (.int .u8 1):=d 0 _ rfl;have d1:wF.cell? ⟨w.heap.size,1,none⟩=some (.string ⟨#[84]⟩):=d 1 _ rfl;have d2:wF.cell? ⟨w.heap.size,2,none⟩=some (.int .i64 5):=d 2 _ rfl;have d3:wF.cell? ⟨w.heap.size,3,none⟩=some (.int .i64 1):=d 3 _ rfl;have d4:wF.cell? ⟨w.heap.size,4,none⟩=some (.int .i64 6):=d 4 _ rfl;have d5:wF.cell? ⟨w.heap.size,5,none⟩=some (.slice (some ⟨W.heap.size,0,none⟩) 1 1):=d 5 _ rfl;have d6:wF.cell? ⟨w.heap.size,6,none⟩=some (.slice (some ⟨gc,0,none⟩) 2 2):=d 6 _ rfl;have d7:wF.cell? ⟨w.heap.size,7,none⟩=some (.bool false):=d 7 _ rfl;have d8:wF.cell? ⟨w.heap.size,8,none⟩=some (.int .u8 0):=d 8 _ rfl;have d9:wF.cell? ⟨w.heap.size,9,none⟩=some (.string ⟨#[]⟩):=d 9 _ rfl;have d10:wF.cell? ⟨w.heap.size,10,none⟩=some (.int .i64 0):=d 10 _ rfl;have d11:wF.cell? ⟨w.heap.size,11,none⟩=some (.int .i64 0):=d 11 _ rfl;have d12:wF.cell? ⟨w.heap.size,12,none⟩=some (.int .i64 0):=d 12 _ rfl;have d13:wF.cell? ⟨w.heap.size,13,none⟩=some (.int .i64 0):=d 13 _ rfl;have d14:wF.cell? ⟨w.heap.size,14,none⟩=some (.slice none 0 0):=d 14 _ rfl;have d15:wF.cell? ⟨w.heap.size,15,none⟩=some (.slice none 0 0):=d 15 _ rfl
 have hl:([wyA 13,wyT].flatMap oneF).set 8 (.v (.int .u8 3))=[(⟨1,wyA 13⟩:FieldD),⟨3,wyT⟩].flatMap encF:=by
  simp only[List.flatMap_cons,List.flatMap_nil,List.append_nil,oneF,encF,encW_eq];rfl
 rw[hl] at hob9;have hfs:=hob9.sl encF_len (by omega)
 have hcs:Sl wF (Lt wF.heap.size) encC 5 tD.cons (some ⟨gc,0,none⟩) 2 2:=by
  refine⟨rfl,Nat.le_refl _,by unfold maxLen; omega,fun _=>⟨gc,0,rfl,hkg9.lt,?_⟩⟩
  refine CelsV.in_ (us:=[.string ⟨#[65]⟩,.int .i64 9,.int .i64 1,.int .i64 10,.slice (some ⟨g,0,none⟩) 2 c5,.string ⟨#[66]⟩,.int .i64 30,.int .i64 1,.int .i64 31,.slice none 0 0]) ?_ fun j u hu=>?_
  · refine CelsV.append (a:=encC ⟨nA,atP 9,[⟨1,wyA 13⟩,⟨3,wyT⟩]⟩) (us:=[_,_,_,_,_]) ⟨celIn_v.2 rfl,celIn_v.2 rfl,celIn_v.2 rfl,celIn_v.2 rfl,(sl_iff encF_len (by omega)).2 ⟨_,_,_,rfl,hfs⟩,trivial⟩ (CelsV.append (a:=encC ⟨nB,atP 30,[]⟩) (b:=[]) (us:=[_,_,_,_,_]) (vs:=[]) ⟨celIn_v.2 rfl,celIn_v.2 rfl,celIn_v.2 rfl,celIn_v.2 rfl,(sl_iff (xs:=([]:List FieldD)) encF_len (by omega)).2 ⟨_,_,_,rfl,Sl.nil⟩,trivial⟩ trivial)
  · rw[Nat.zero_add,hkg9.cell j]
    simpa using hu
 have hps:Sl wF (Lt wF.heap.size) encS 1 tD.params (some ⟨W.heap.size,0,none⟩) 1 1:=hs9.mono fun b hb=>Nat.lt_of_lt_of_le (e6 b hb) (Nat.le_trans Hb69.out.size hsz);have Hcs:=qq hcs;have Hps:=qq hps;have HbF:=qq hb9;clear d hr hb9 hob9 hkg9 hs9 hfs hcs hps hl;go_wp2_with fail;exact bodyPost_ret (v:=.agg (declCells ⟨#[84]⟩ (some ⟨W.heap.size,0,none⟩) 1 1 gc)) (by simp[results,Tryd.results9,go_sem,declCells,d0,d1,d2,d3,d4,d5,d6,d7,d8,d9,d10,d11,d12,d13,d14,d15]) rfl ⟨_,1,1,some ⟨gc,0,none⟩,2,2,rfl,Hps.out,Hcs.out,HbF.out⟩
def sW:SigD:=⟨givenS.datas++[⟨nT,1,[15,16]⟩],givenS.cons++[⟨nA,9,[.mk 1 0 0 0 [],.mk 8 9 0 0 [.mk 1 0 0 0 []]],[1,3]⟩,⟨nB,9,[],[]⟩]⟩
theorem sW_check:checkE givenS [tD]=.ok sW:=by kernel_rfl
def tInt:TyD:=.mk 2 0 0 0 []
def wE:List UInt8:=[84,32,73,110,116]
def names10:List ByteArray:=[⟨#[]⟩,⟨#[]⟩,⟨#[]⟩,⟨#[]⟩,⟨#[]⟩,⟨#[]⟩,⟨#[]⟩,⟨#[]⟩,⟨#[]⟩,⟨#[84]⟩]
theorem sW_fl:flE sW 15 [tInt]=0:=by kernel_rfl
theorem sW_flL:flL sW 15 [tInt]=[tInt,.mk 8 9 0 0 [tInt]]:=by kernel_rfl
theorem sW_tx:txB names10 (.mk 8 9 0 0 [tInt])=wE:=by kernel_rfl
theorem sW_may:mayT (.mk 8 9 0 0 [tInt])=true:=by kernel_rfl
theorem sW_nc:∀ x∈sW.cons,x.name.size+1≤maxLen:=fun x hx=>by
 have h:sW.cons.all (fun x=>decide (x.name.size≤1000))=true:=by kernel_rfl
 have:=List.all_eq_true.1 h x hx;simp only[decide_eq_true_eq] at this
 unfold maxLen; omega
theorem sW_nd:∀ x∈sW.datas,x.name.size+1≤maxLen:=fun x hx=>by
 have h:sW.datas.all (fun x=>decide (x.name.size≤1000))=true:=by kernel_rfl
 have:=List.all_eq_true.1 h x hx;simp only[decide_eq_true_eq] at this
 unfold maxLen; omega
theorem tD_one:tD.one:=⟨0,⟨#[]⟩,0,0,0,0,none,0,0,none,0,0,rfl,rfl,rfl,rfl,rfl,rfl,rfl,rfl⟩
theorem encS_len (x:ByteArray):(encS x).length=1:=rfl
theorem dC {w:World} {S:Nat→Prop} {Ap:Option Addr} {np cp:Nat} {Ac:Option Addr} {nc cc:Nat} (h1:Sl w S encS 1 tD.params Ap np cp) (h2:Sl w S encC 5 tD.cons Ac nc cc):CelsV w S (encD tD) (dlCells tD Ap np cp Ac nc cc).toList:=
 ⟨celIn_v.2 rfl,celIn_v.2 rfl,celIn_v.2 rfl,celIn_v.2 rfl,celIn_v.2 rfl,(sl_iff encS_len (by omega)).2 ⟨_,_,_,rfl,h1⟩,(sl_iff encC_len (by omega)).2 ⟨_,_,_,rfl,h2⟩,celIn_v.2 rfl,celIn_v.2 rfl,celIn_v.2 rfl,celIn_v.2 rfl,celIn_v.2 rfl,celIn_v.2 rfl,celIn_v.2 rfl,celIn_v.2 rfl,celIn_v.2 rfl,trivial⟩
theorem works_any (w:World) (ht:Tab w):Calls Tryd.prog 12 #[] w fun e w'=>e=.returned (.bool true)∧Below w.heap.size w w':=by
 have Ht:=qq ht;clear ht
 go_enter Tryd.func12,Tryd.ntmps12
 go_upto_region 1 with fail;refine wp_region_list ?_;refine wpList_plain rfl fun K hK=>?_;go_simp;refine(t_any w).mono ?_;rintro e w1 ⟨Ap,np,cp,Ac,nc,cc,rfl,h1,h2,hb1⟩;refine hK _ _ ?_;clear hK K
 have hs:=Sl.new (enc:=encD) (k:=16) w1 (Lt w1.heap.size) (fun _ h=>h) [tD] (dlCells tD Ap np cp Ac nc cc).toList 40 1 rfl (by unfold maxLen; omega) (by rw[List.flatMap_cons,List.flatMap_nil,List.append_nil]; exact dC h1 h2)
 have hbx:=below_box (w:=w1) (Obj.cells (dlCells tD Ap np cp Ac nc cc) 40)
 have hsz:(w1.alloc (Obj.cells (dlCells tD Ap np cp Ac nc cc) 40)).heap.size=w1.heap.size+1:=by simp
 obtain⟨w2,hw2⟩:∃ q,w1.alloc (Obj.cells (dlCells tD Ap np cp Ac nc cc) 40)=q:=⟨_,rfl⟩;rw[Array.toArray_toList,hw2] at hs;rw[hw2] at hbx hsz;simp only[dlCells,tD,nT,atP,Int.reduceAdd] at hw2 ⊢;refine wpList_plain rfl fun K hK=>?_;go_simp;refine hK _ _ ?_;clear hK K
 (try rw[hw2])
 have hs2:=hs.mono (S':=Lt w2.heap.size) fun b hb=>by
  rcases hb with hb | hb
  · exact Nat.lt_of_lt_of_le hb hbx.size
  · show b<w2.heap.size; omega
 have hb2:=hb1.trans (hbx.mono hb1.size);have Hs2:=qq hs2;have Hb2:=qq hb2;clear hs hbx hs2 hb1 hb2 h1 h2 hsz;refine wpList_plain rfl fun K hK=>?_;go_simp
 refine(check_any _ 1 1 [tD] w2 Hs2.out (fun d hd=>by rw[List.mem_singleton.1 hd]; exact tD_one) (by omega)).mono ?_
 rintro e w3 ⟨A1,n1,c1,A2,n2,c2,dg,rfl,hb3,hor⟩;refine hK _ _ ?_;clear hK K hw2
 have hsig:dg=diagZ∧SigR w3 (Lt w3.heap.size) sW A1 n1 c1 A2 n2 c2:=by
  rcases hor with ⟨g,hg,_⟩ | ⟨z,hz,h1,h2⟩
  · rw[sW_check] at hg; cases hg
  · rw[sW_check] at hz
    injection hz with hz
    subst hz;exact⟨h1,h2⟩
 obtain⟨rfl,hsig⟩:=hsig;have Hb3:=qq (Hb2.out.trans (hb3.mono Hb2.out.size));have Hsig:=qq hsig;clear hor hb3 hsig Hb2 Hs2;simp only[diagZ,posZ];go_upto_region 2 with fail;have g4:=below_box (w:=w3) (Obj.cells #[.slice A1 n1 c1,.slice A2 n2 c2] 25);have k4:=blk_new w3 #[.slice A1 n1 c1,.slice A2 n2 c2] 25;obtain⟨w4,hw4⟩:∃ q,w3.alloc (Obj.cells #[.slice A1 n1 c1,.slice A2 n2 c2] 25)=q:=⟨_,rfl⟩
 have s4:w4.heap.size=w3.heap.size+1:=by rw[← hw4]; simp
 rw[hw4] at g4 k4 ⊢;have g5:=below_box (w:=w4) (Obj.cells #[.int .i64 0,.int .i64 0,.int .i64 0,.int .i64 0] 30);have k5:=blk_new w4 #[.int .i64 0,.int .i64 0,.int .i64 0,.int .i64 0] 30;obtain⟨w5,hw5⟩:∃ q,w4.alloc (Obj.cells #[.int .i64 0,.int .i64 0,.int .i64 0,.int .i64 0] 30)=q:=⟨_,rfl⟩;rw[hw5,s4] at k5;rw[hw5] at g5 ⊢;have hb35:=g4.trans (g5.mono g4.size);have k4':=k4.below g5 k4.lt;have x0:w5.cell? ⟨w3.heap.size,0,none⟩=some (.slice A1 n1 c1):=k4'.cell 0;have x1:w5.cell? ⟨w3.heap.size,1,none⟩=some (.slice A2 n2 c2):=k4'.cell 1;have g6:=below_box (w:=w5) (Obj.cells #[.int .u8 2,.int .i64 0,.int .i64 0,.int .u8 0,.slice none 0 0] 63)
 have hT:=Sl.new (enc:=encT) (k:=5) w5 (fun _=>False) (fun _ h=>h.elim) [tInt] [.int .u8 2,.int .i64 0,.int .i64 0,.int .u8 0,.slice none 0 0] 63 1 rfl (by unfold maxLen; omega) (by rw[List.flatMap_cons,List.flatMap_nil,List.append_nil]; exact tyC (t:=tInt) (tysS_sl.2 Sl.nil))
 obtain⟨w6,hw6⟩:∃ q,w5.alloc (Obj.cells #[.int .u8 2,.int .i64 0,.int .i64 0,.int .u8 0,.slice none 0 0] 63)=q:=⟨_,rfl⟩
 rw[show w5.alloc (Obj.cells ([.int .u8 2,.int .i64 0,.int .i64 0,.int .u8 0,.slice none 0 0]:List Value).toArray 63)=w6 from hw6] at hT
 have s6:w6.heap.size=w5.heap.size+1:=by rw[← hw6]; simp
 rw[hw6] at g6;have hb36:=hb35.trans (g6.mono hb35.size)
 have ha:TysV w6 w6.heap.size (some ⟨w5.heap.size,0,none⟩) 1 1 [tInt]:=tysV_sl.2 (hT.mono fun b h=>h.elim (fun q=>q.elim) fun q=>by show b<w6.heap.size; omega)
 have hq:=fields_any sW A1 n1 c1 A2 n2 c2 15 (some ⟨w5.heap.size,0,none⟩) 1 1 [tInt] w6 (Hsig.out.fresh hb36) sW_nc sW_nd ha;have Hq:=qq hq;have K5:=qq (k5.below g6 k5.lt);have Hb6:=qq (Hb3.out.trans (hb36.mono Hb3.out.size));have HW6:=qq hw6;clear hw4 hw5 hw6 g4 g5 g6 k4 k4' k5 hT hb35 hb36 ha hq Hb3;go_wp2_with fail
 (try rw[HW6.out])
 refine Hq.out.mono ?_;rintro e w7 ⟨A,m,cp,rfl,hl,hb7⟩;rw[sW_fl];rw[sW_flL] at hl;have hm:=hl.len;obtain rfl:m=2:=hm.symm;have k7:=K5.out.below hb7 K5.out.lt;have z0:w7.cell? ⟨w3.heap.size+1,0,none⟩=some (.int .i64 0):=k7.cell 0;have z1:w7.cell? ⟨w3.heap.size+1,1,none⟩=some (.int .i64 0):=k7.cell 1;have z2:w7.cell? ⟨w3.heap.size+1,2,none⟩=some (.int .i64 0):=k7.cell 2;have z3:w7.cell? ⟨w3.heap.size+1,3,none⟩=some (.int .i64 0):=k7.cell 3;obtain⟨b,off,rfl,hbb,hcf⟩:=typ_at (tysV_sl.1 hl) (by omega);obtain⟨t0,t1,t2,t3,A',m',c',t4,hT⟩:=hcf 1 (by decide);have T0:w7.cell? ⟨b,off+5,none⟩=some (.int .u8 8):=t0;have T1:w7.cell? ⟨b,off+5+1,none⟩=some (.int .i64 9):=t1;have T2:w7.cell? ⟨b,off+5+2,none⟩=some (.int .i64 0):=t2;have T3:w7.cell? ⟨b,off+5+3,none⟩=some (.int .u8 0):=t3;have T4:w7.cell? ⟨b,off+5+4,none⟩=some (.slice A' m' c'):=t4;have HT:=qq hT;have Hb7:=qq (Hb6.out.trans (hb7.mono Hb6.out.size));clear x0 x1 t0 t1 t2 t3 t4 hcf k7 hT hb7 Hb6 Hq K5 HW6 hm hl;have g8:=below_box (w:=w7) (Obj.cells #[.string ⟨#[]⟩,.string ⟨#[]⟩,.string ⟨#[]⟩,.string ⟨#[]⟩,.string ⟨#[]⟩,.string ⟨#[]⟩,.string ⟨#[]⟩,.string ⟨#[]⟩,.string ⟨#[]⟩,.string ⟨#[84]⟩] 9);have k8:=blk_new w7 #[.string ⟨#[]⟩,.string ⟨#[]⟩,.string ⟨#[]⟩,.string ⟨#[]⟩,.string ⟨#[]⟩,.string ⟨#[]⟩,.string ⟨#[]⟩,.string ⟨#[]⟩,.string ⟨#[]⟩,.string ⟨#[84]⟩] 9;obtain⟨w8,hw8⟩:∃ q,w7.alloc (Obj.cells #[.string ⟨#[]⟩,.string ⟨#[]⟩,.string ⟨#[]⟩,.string ⟨#[]⟩,.string ⟨#[]⟩,.string ⟨#[]⟩,.string ⟨#[]⟩,.string ⟨#[]⟩,.string ⟨#[]⟩,.string ⟨#[84]⟩] 9)=q:=⟨_,rfl⟩
 have s8:w8.heap.size=w7.heap.size+1:=by rw[← hw8]; simp
 rw[hw8] at g8 k8
 have hnm:NmV w8 w8.heap.size (some ⟨w7.heap.size,0,none⟩) 10 10 names10:=by
  refine⟨⟨rfl,fun _=>⟨w7.heap.size,0,rfl,by omega,fun j u hu=>?_⟩⟩,Nat.le_refl _,by unfold maxLen; omega⟩
  rw[Nat.zero_add,k8.cell j];rw[← hu];simp[names10]
 have hq:=tyText_any (.mk 8 9 0 0 [tInt]) sW_may names10 A' m' c' (some ⟨w7.heap.size,0,none⟩) 10 10 w8 (tysV_sl.2 (HT.out.fresh g8)) hnm (Ht.out.below (Hb7.out.trans (g8.mono Hb7.out.size))) (by rw[sW_tx]; decide)
 rw[sW_tx] at hq;have Hq:=qq hq;have Hb8:=qq (Hb7.out.trans (g8.mono Hb7.out.size));clear hq hnm g8 k8 HT Ht;go_upto_region 3 with fail;go_wp2_with fail
 (try rw[hw8])
 refine Hq.out.mono ?_;rintro e w9 ⟨rfl,hb9⟩;have HbF:=qq (Hb8.out.trans (hb9.mono Hb8.out.size));clear hb9 Hq T0 T1 T2 T3 T4 z0 z1 z2 z3;simp only[wE];go_wp2_with fail;go_ret;exact⟨rfl,HbF.out⟩
end Go.Proofs.YtgpeijkjmkocgaaDoor
