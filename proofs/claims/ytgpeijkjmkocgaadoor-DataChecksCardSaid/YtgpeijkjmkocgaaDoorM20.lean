import Derived.Test.YtgpeijkjmkocgaaDoorM19
set_option linter.unusedVariables false
set_option linter.unusedSimpArgs false
set_option maxHeartbeats 8000000
set_option maxRecDepth 100000
namespace Go.Proofs.YtgpeijkjmkocgaaDoor
open Go.RowKit Go.Maps
def errS (s:SigD):Int:=if mayS s=true then 0 else 2
theorem mayS_con {s:SigD} {k:Nat} (hk:k<s.cons.length) (h:conOk s k=false):mayS s=false:=by
 unfold mayS;rw[Bool.eq_false_iff];intro q;simp only[Bool.and_eq_true] at q;have:=range_all.1 q.1.2 k hk;rw[h] at this
 cases this
theorem mayS_dat {s:SigD} {k:Nat} (hk:k<s.datas.length) (h:datOk s k=false):mayS s=false:=by
 unfold mayS;rw[Bool.eq_false_iff];intro q;simp only[Bool.and_eq_true] at q;have:=range_all.1 q.2 k hk;rw[h] at this
 cases this
theorem mayS_yes {s:SigD} (h1:s.datas.length≤40) (h2:s.cons.length≤100) (h3:∀ i,i<s.cons.length→conOk s i=true) (h4:∀ i,i<s.datas.length→datOk s i=true):errS s=0:=by
 unfold errS mayS;rw[range_all.2 h3,range_all.2 h4,decide_eq_true h1,decide_eq_true h2];rfl
theorem errS_no {s:SigD} (h:mayS s=false):errS s=2:=by unfold errS; rw[h]; rfl
theorem ofN_len (s:SigD) (n k:Nat):(ofN s n k).length≤k:=by
 unfold ofN;rw[List.length_map];exact Nat.le_trans (List.length_filter_le _ _) (by simp)
theorem conOk_eq {s:SigD} {i:Nat} (hi:i<s.cons.length):conOk s i=(decide (0≤s.cons[i].data)&&decide (s.cons[i].data<s.datas.length)&&decide (s.cons[i].fields.length≤8)&&decide (s.cons[i].mults.length=s.cons[i].fields.length)&&!((s.cons.take i).any fun x=>decide (x.name=s.cons[i].name))&&(List.range s.cons[i].fields.length).all (fldOk s s.cons[i])):=by
 unfold conOk;rw[qj hi]
theorem datOk_eq {s:SigD} {i:Nat} (hi:i<s.datas.length):datOk s i=(decide (0≤s.datas[i].params)&&decide (s.datas[i].params≤4)&&!(ofN s i s.cons.length).isEmpty&&decide (ofN s i s.cons.length=s.datas[i].cons)&&!((s.datas.take i).any fun x=>decide (x.name=s.datas[i].name))):=by
 unfold datOk;rw[qj hi]
def seenC (s:SigD) (i:Nat):List ByteArray:=(namesC s i).reverse
def seenD (s:SigD) (i:Nat):List ByteArray:=(namesD s i).reverse++seenC s s.cons.length
theorem seenC_succ {s:SigD} {k:Nat} (hk:k<s.cons.length):seenC s (k+1)=((⟨#[99]⟩:ByteArray)++s.cons[k].name) :: seenC s k:=by
 unfold seenC namesC;rw[List.take_succ_eq_append_getElem hk,List.map_append,List.reverse_append];rfl
theorem seenD_succ {s:SigD} {k:Nat} (hk:k<s.datas.length):seenD s (k+1)=((⟨#[100]⟩:ByteArray)++s.datas[k].name) :: seenD s k:=by
 unfold seenD namesD;rw[List.take_succ_eq_append_getElem hk,List.map_append,List.reverse_append];rfl
theorem seenC_len (s:SigD) (i:Nat):(seenC s i).length≤i:=by
 unfold seenC namesC;rw[List.length_reverse,List.length_map,List.length_take];omega
theorem seenD_len (s:SigD) (i:Nat):(seenD s i).length≤i+s.cons.length:=by
 unfold seenD namesD;have:=seenC_len s s.cons.length;rw[List.length_append,List.length_reverse,List.length_map,List.length_take];omega
theorem seenC_any (s:SigD) (i:Nat) (nm:ByteArray):((seenC s i).any fun x=>decide (x=(⟨#[99]⟩:ByteArray)++nm))=(s.cons.take i).any fun x=>decide (x.name=nm):=by
 unfold seenC;rw[List.any_reverse];exact namesC_any s i nm
theorem cd_ne (x y:ByteArray):(⟨#[99]⟩:ByteArray)++x≠(⟨#[100]⟩:ByteArray)++y:=by
 intro h
 have h1:((⟨#[99]⟩:ByteArray)++x).data.toList=((⟨#[100]⟩:ByteArray)++y).data.toList:=by rw[h]
 rw[ByteArray.data_append,ByteArray.data_append,Array.toList_append,Array.toList_append] at h1;simp at h1
theorem seenD_any (s:SigD) (i:Nat) (nm:ByteArray):((seenD s i).any fun x=>decide (x=(⟨#[100]⟩:ByteArray)++nm))=(s.datas.take i).any fun x=>decide (x.name=nm):=by
 unfold seenD namesD;rw[List.any_append,List.any_reverse,List.any_map]
 have:((seenC s s.cons.length).any fun x=>decide (x=(⟨#[100]⟩:ByteArray)++nm))=false:=by
  unfold seenC namesC;rw[List.any_reverse,List.any_map,List.any_eq_false];intro c hc;simp only[Function.comp,decide_eq_true_eq];exact cd_ne _ _
 rw[this,Bool.or_false]
 congr 1
 funext d
 simp only[Function.comp,app_inj]
theorem fr_step {s:SigD} {k j:Nat} (hk:k<s.cons.length) (hd:s.cons[k].data=(j:Int)):(fun n=>if n=j then ofN s j k++[(k:Int)] else ofN s n k)=fun n=>ofN s n (k+1):=by
 funext n
 rw[ofN_succ s n k hk,hd]
 by_cases h:n=j
 · subst h
   rw[if_pos rfl,if_pos rfl]
 · rw[if_neg h,if_neg (fun e=>h (by omega)),List.append_nil]
theorem rows13Info:(Tryd.prog.info? 50).map (fun i=>(i.zero,i.size,i.bytes))=some (some (.slice none 0 0),1,24):=by kernel_rfl
theorem make_rows13 (N:Nat) (hN:N≤1048576) (w:World):(Instr.makeSlice 123 (.int .i64 N) (.int .i64 N)).run Tryd.prog w=.ok (.slice (some ⟨w.heap.size,0,none⟩) N N) (w.alloc (.cells (List.replicate N (.slice none 0 0)).toArray 50)):=by
 obtain⟨i0,hi0,hi1,hi2,hi3⟩:=info_parts rows13Info
 have h:=run_makeSlice (P:=Tryd.prog) w 123 50 i0 _ Tryd.underlying123 hi0 hi1 .i64 .i64 N N (by omega) (by omega) (by rw[hi2]; simp; omega) (by rw[hi3]; simp; omega) (by omega)
 rw[h]
 have:madeCells (.slice none 0 0:Value).cells ((N:Int).toNat * i0.size)=(List.replicate N (.slice none 0 0)).toArray:=by
  rw[hi2,Int.toNat_natCast,Nat.mul_one]
  rw[show(Value.slice none 0 0).cells=#[.slice none 0 0] from rfl]
  unfold madeCells
  apply Array.ext
  · simp
  · intro i h1 h2
    simp[Nat.mod_one]
 rw[this];simp
theorem fld_no {s:SigD} {k q:Nat} (hk:k<s.cons.length) (hq:q<s.cons[k].fields.length) (h:fldOk s s.cons[k] q=false):mayS s=false:=mayS_con hk (by
 rw[conOk_eq hk,Bool.and_eq_false_iff]
 right
 rw[Bool.eq_false_iff];intro e;rw[range_all.1 e q hq] at h
 cases h)
theorem fldOk_eq {s:SigD} {c:ConD} {q:Nat} (h1:q<c.fields.length) (h2:q<c.mults.length):fldOk s c q=(decide (1≤c.mults[q])&&decide (c.mults[q]≤3)&&(mayTE c.fields[q]==0)&&wholeT s.datas (((s.datas[c.data.toNat]?).map DataD.params).getD 0) c.fields[q]):=by
 unfold fldOk;rw[qj h1,qj h2]
theorem typ_at {w:World} {S:Nat→Prop} {A:Option Addr} {n c:Nat} {l:List TyD} (h:Sl w S encT 5 l A n c) (hn:0<n):∃ b off,A=some ⟨b,off,none⟩∧S b∧∀ i (h:i<l.length),w.cell? ⟨b,off+i * 5,none⟩=some (.int .u8 l[i].k) ∧
  w.cell? ⟨b,off+i * 5+1,none⟩=some (.int .i64 l[i].n)∧w.cell? ⟨b,off+i * 5+2,none⟩=some (.int .i64 l[i].v)∧w.cell? ⟨b,off+i * 5+3,none⟩=some (.int .u8 l[i].c)∧∃ A' m' c',w.cell? ⟨b,off+i * 5+4,none⟩=some (.slice A' m' c')∧Sl w S encT 5 l[i].l A' m' c':=by
 obtain⟨b,off,e,hb,hr⟩:=h.at_ encT_len hn;refine⟨b,off,e,hb,fun i hi=>?_⟩;have:=hr i hi;rw[encT_eq] at this;simp only[celsIn_cons,celIn_v,sl_iff (enc:=encT) (k:=5) encT_len (by omega)] at this;obtain⟨⟨u1,h1,rfl⟩,⟨u2,h2,rfl⟩,⟨u3,h3,rfl⟩,⟨u4,h4,rfl⟩,⟨u5,h5,A',m',c',rfl,h6⟩,_⟩:=this;exact⟨h1,h2,h3,h4,A',m',c',h5,h6⟩
theorem mus_at {w:World} {S:Nat→Prop} {A:Option Addr} {n c:Nat} {l:List Int} (h:Sl w S encU 1 l A n c) (hn:0<n):∃ b off,A=some ⟨b,off,none⟩∧S b∧∀ i (h:i<l.length),w.cell? ⟨b,off+i,none⟩=some (.int .u8 l[i]):=by
 obtain⟨b,off,e,hb,hr⟩:=h.at_ (k:=1) (fun _=>rfl) hn;refine⟨b,off,e,hb,fun i hi=>?_⟩;have:=hr i hi;unfold encU at this;simp only[celsIn_cons,celIn_v] at this;obtain⟨⟨u1,h1,rfl⟩,_⟩:=this;rw[Nat.mul_one] at h1;exact h1
theorem mayT_of {t:TyD} (h:mayTE t=0):mayT t=true:=by
 unfold mayTE at h
 split at h
 · omega
 · split at h
   · assumption
   · omega
theorem seenD_0 (s:SigD):seenD s 0=seenC s s.cons.length:=by simp[seenD,namesD]
theorem size_pre (a:UInt8) (x:ByteArray):((⟨#[a]⟩:ByteArray)++x).size=x.size+1:=by
 rw[ByteArray.size_append];exact Nat.add_comm _ _
def CutM (w:World) (s:SigD) (A:Option Addr) (n c:Nat) (A2:Option Addr) (n2 c2 k:Nat) (W:World):Prop:=∃ vs,MayB w A n c A2 n2 c2 vs (fun n=>ofN s n k) (seenC s k) W
def CutD (w:World) (s:SigD) (A:Option Addr) (n c:Nat) (A2:Option Addr) (n2 c2 k:Nat) (W:World):Prop:=∃ vs,MayB w A n c A2 n2 c2 vs (fun n=>ofN s n s.cons.length) (seenD s k) W
def HeldM (B bx tb bm bd o1 o2 j:Nat) (A:Option Addr) (n c:Nat) (A2:Option Addr) (n2 c2:Nat) (Am:Option Addr) (mm cm:Nat) (k tn v cc:Int) (A':Option Addr) (m' c':Nat) (mu pv:Int) (w:World):Prop:=w.cell? ⟨B,0,none⟩=some (.slice A n c)∧w.cell? ⟨B,1,none⟩=some (.slice A2 n2 c2)∧w.cell? ⟨bx,1,none⟩=some (.int .i64 (j:Nat))∧w.cell? ⟨bx,3,none⟩=some (.slice Am mm cm)∧w.cell? ⟨tb,0,none⟩=some (.int .u8 k)∧w.cell? ⟨tb,1,none⟩=some (.int .i64 tn)∧w.cell? ⟨tb,2,none⟩=some (.int .i64 v)∧w.cell? ⟨tb,3,none⟩=some (.int .u8 cc)∧w.cell? ⟨tb,4,none⟩=some (.slice A' m' c')∧w.cell? ⟨bm,o1,none⟩=some (.int .u8 mu)∧w.cell? ⟨bd,o2,none⟩=some (.int .i64 pv)
theorem HeldM.below {B bx tb bm bd o1 o2 j:Nat} {A:Option Addr} {n c:Nat} {A2:Option Addr} {n2 c2:Nat} {Am:Option Addr} {mm cm:Nat} {k tn v cc:Int} {A':Option Addr} {m' c':Nat} {mu pv:Int} {w w':World} (h:HeldM B bx tb bm bd o1 o2 j A n c A2 n2 c2 Am mm cm k tn v cc A' m' c' mu pv w) (hb:Below w.heap.size w w'):HeldM B bx tb bm bd o1 o2 j A n c A2 n2 c2 Am mm cm k tn v cc A' m' c' mu pv w':=by
 obtain⟨h1,h2,h3,h4,h5,h6,h7,h8,h9,h10,h11⟩:=h;have key:∀ {p:Addr} {v:Value},w.cell? p=some v→w'.cell? p=some v:=fun h=>(hb.cell (block_lt_of_cell h)).trans h;exact⟨key h1,key h2,key h3,key h4,key h5,key h6,key h7,key h8,key h9,key h10,key h11⟩
def HeldW (B bx k:Nat) (nm:ByteArray) (ps:Int) (Ac:Option Addr) (mc cc:Nat) (Av:Option Addr) (L cv:Nat) (w:World):Prop:=w.cell? ⟨bx,0,none⟩=some (.string nm)∧w.cell? ⟨bx,1,none⟩=some (.int .i64 ps)∧w.cell? ⟨bx,2,none⟩=some (.slice Ac mc cc)∧w.cell? ⟨B+1,k,none⟩=some (.slice Av L cv)
theorem HeldW.below {B bx k:Nat} {nm:ByteArray} {ps:Int} {Ac:Option Addr} {mc cc:Nat} {Av:Option Addr} {L cv:Nat} {w w':World} (h:HeldW B bx k nm ps Ac mc cc Av L cv w) (hb:Below w.heap.size w w'):HeldW B bx k nm ps Ac mc cc Av L cv w':=by
 obtain⟨h1,h2,h3,h4⟩:=h;have key:∀ {p:Addr} {v:Value},w.cell? p=some v→w'.cell? p=some v:=fun h=>(hb.cell (block_lt_of_cell h)).trans h;exact⟨key h1,key h2,key h3,key h4⟩
theorem HeldW.grown {B bx k:Nat} {nm:ByteArray} {ps:Int} {Ac:Option Addr} {mc cc:Nat} {Av:Option Addr} {L cv:Nat} {w w':World} {row:Option Nat} (h:HeldW B bx k nm ps Ac mc cc Av L cv w) (hg:w.grownBy w' row) (h1:some bx≠row) (h2:some (B+1)≠row):HeldW B bx k nm ps Ac mc cc Av L cv w':=by
 obtain⟨g1,g2,g3,g4⟩:=h;have key:∀ {p:Addr} {v:Value},some p.block≠row→w.cell? p=some v→w'.cell? p=some v:=fun hne h=>(World.cell?_of_block (hg.block _ (block_lt_of_cell h) hne)).trans h;exact⟨key h1 g1,key h1 g2,key h1 g3,key h2 g4⟩
theorem may13_any (s:SigD) (A:Option Addr) (n c:Nat) (A2:Option Addr) (n2 c2:Nat) (w:World) (h:SigR w (Lt w.heap.size) s A n c A2 n2 c2) (hnc:∀ x∈s.cons,x.name.size+1≤maxLen) (hnd:∀ x∈s.datas,x.name.size+1≤maxLen):
  Calls Tryd.prog 22 #[.agg #[.slice A n c,.slice A2 n2 c2]] w fun e w'=>e=.returned (.int .i64 (errS s))∧Below w.heap.size w w':=by
 obtain⟨W1,W2,W3,W4,hW1,hW2,hW3,hW4,hs1,hs2,hs3,hB4,hk1⟩:=MayB.make w A n c A2 n2 c2;have hln:s.datas.length=n:=h.datas.len;have hln2:s.cons.length=n2:=h.cons.len;have n63:n≤9223372036854775807:=h.datas.cap;have n263:n2≤9223372036854775807:=h.cons.cap;have x0:W1.cell? ⟨w.heap.size,0,none⟩=some (.slice A n c):=hk1.cell 0;have x1:W1.cell? ⟨w.heap.size,1,none⟩=some (.slice A2 n2 c2):=hk1.cell 1
 have hbel1:Below w.heap.size w W1:=by rw[← hW1]; exact below_box _
 have H:=qq h;have HW1:=qq hW1;rw[List.toArray_replicate] at hW2;have HW2:=qq hW2;have HW3:=qq hW3;have HW4:=qq hW4;have HB4:=qq hB4;have Hb1:=qq hbel1;have Hnc:=qq hnc;have Hnd:=qq hnd;clear h hW1 hW2 hW3 hW4 hB4 hk1 hbel1 hnc hnd
 by_cases h40:n≤40
 · have d40:decide ((n:Int)>40)=false:=by simp; omega
   have d40':decide (40<n)=false:=by simp; omega
   by_cases h100:n2≤100
   · have d100:decide ((n2:Int)>100)=false:=by simp; omega
     have d100':decide (100<n2)=false:=by simp; omega
     have hmr:=make_rows13 n (by omega) W1;rw[hs1] at hmr
     go_enter Tryd.func22,Tryd.ntmps22
     go_upto_region 1 with fail;rw[HW1.out];go_upto_region 4 with fail;rw[HW2.out];have hmm:=@run_makeMap Tryd.prog;have hw3:=HW3.out;go_upto_region 5 with fail;rw[HW4.out];clear x0 x1 hmr hmm hw3;have x0:W4.cell? ⟨w.heap.size,0,none⟩=some (.slice A n c):=HB4.out.sig.cell 0;have x1:W4.cell? ⟨w.heap.size,1,none⟩=some (.slice A2 n2 c2):=HB4.out.sig.cell 1;go_wp2_with fail;clear x0 x1 HW1 HW2 HW3 HW4 hs1 hs2 hs3 Hb1
     go_loopg [31] n2 (fun gh i wr=>∃ k:Nat,k≤n2∧gh=n2 - k∧i=.int .i64 (k:Nat)∧(∀ i,i<k→conOk s i=true)∧CutM w s A n c A2 n2 c2 k wr)
     case atStart=>exact⟨0,Nat.zero_le _,rfl,rfl,fun i hi=>absurd hi (by omega),_,HB4.out⟩
     case round=>
      obtain⟨k,hk,rfl,rfl,hok,vs,hB⟩:=hrel;obtain⟨wo,hwo⟩:∃ q,q=wr:=⟨_,rfl⟩;subst hwo;have Hok:=qq hok;clear hok
      by_cases hkn:k<n2
      · have d0:decide (k<n2)=true:=by simpa using hkn
        have hk':k<s.cons.length:=by omega
        obtain⟨b,off,rfl,hb,hc⟩:=cons_at H.out.cons (by omega);obtain⟨q0,q1,⟨Af,mf,cf,q2,hF⟩,Am,mm,cm,q4,hM⟩:=hc k hk';have hcw:∀ o,wo.cell? ⟨b,o,none⟩=w.cell? ⟨b,o,none⟩:=fun o=>hB.bel.cell (p:=⟨b,o,none⟩) hb;have hsC:=seenC_succ hk';have hcE:=conOk_eq hk';have hfE:=fun q=>fld_no (s:=s) (k:=k) (q:=q) hk';have hcN:=mayS_con (s:=s) hk';have hfr:=fun j=>fr_step (s:=s) (k:=k) (j:=j) hk';have hnm:=Hnc.out _ (List.getElem_mem hk');obtain⟨cd,hcd⟩:∃ x,s.cons[k]=x:=⟨_,rfl⟩;rw[hcd] at q0 q1 hF hM hsC hcE hnm;simp only[hcd] at hfE hfr;have e0:=(hcw _).trans q0;have e1:=(hcw _).trans q1;have e2:=(hcw _).trans q2;have e3:=(hcw _).trans q4
        have k1:(0:Int)≤(k:Int):=by omega
        have k2:(k:Int)<n2:=by omega
        have hlf:cd.fields.length=mf:=hF.len;have hlm:cd.mults.length=mm:=hM.len;have f63:mf≤9223372036854775807:=hF.cap;have m63:mm≤9223372036854775807:=hM.cap;have HF:=qq hF;have HM:=qq hM;have HsC:=qq hsC;have HcE:=qq hcE;have HfE:=qq hfE;have HcN:=qq hcN;have Hfr:=qq hfr;have Hnm:=qq hnm;have Hcd:=qq hcd;have Hhb:=qq hb;clear q0 q1 q2 q4 hc hF hM hcw hsC hcE hfE hcN hfr hnm hcd;have x1:wo.cell? ⟨w.heap.size,1,none⟩=some (.slice (some ⟨b,off,none⟩) n2 c2):=hB.sig.cell 1;have HB:=qq hB;clear hB;go_upto_region 9 with fail;have hbx:=below_box (w:=wo) (Obj.cells #[.string cd.name,.int .i64 cd.data,.slice Af mf cf,.slice Am mm cm] 58);have hkx:=blk_new wo #[.string cd.name,.int .i64 cd.data,.slice Af mf cf,.slice Am mm cm] 58;obtain⟨wb,hwb⟩:∃ q,wo.alloc (Obj.cells #[.string cd.name,.int .i64 cd.data,.slice Af mf cf,.slice Am mm cm] 58)=q:=⟨_,rfl⟩;rw[hwb] at hbx hkx ⊢;have hB1:=HB.out.below hbx;have hwo4:=HB.out.size;obtain⟨bx,hbxn⟩:∃ q,wo.heap.size=q:=⟨_,rfl⟩;rw[hbxn] at hkx hwo4 ⊢;have hvb:∀ (i:Nat) (hi:i<vs.length) (b':Nat),vs[i].ownBlock=some b'→b'<bx:=fun i hi b' e=>hbxn ▸ (own_lt (HB.out.frm.own i hi) e).2;have Hvb:=qq hvb;clear x1 e0 e1 e2 e3 HB hbx hwb hbxn hvb;have x0:wb.cell? ⟨w.heap.size,0,none⟩=some (.slice A n c):=hB1.sig.cell 0;have x1:wb.cell? ⟨w.heap.size,1,none⟩=some (.slice (some ⟨b,off,none⟩) n2 c2):=hB1.sig.cell 1;have y0:wb.cell? ⟨bx,0,none⟩=some (.string cd.name):=hkx.cell 0;have y1:wb.cell? ⟨bx,1,none⟩=some (.int .i64 cd.data):=hkx.cell 1;have y2:wb.cell? ⟨bx,2,none⟩=some (.slice Af mf cf):=hkx.cell 2;have y3:wb.cell? ⟨bx,3,none⟩=some (.slice Am mm cm):=hkx.cell 3;have HB1:=qq hB1;have Hkx:=qq hkx;clear hB1 hkx
        by_cases ha:cd.data<0
        · have b1:decide (cd.data<0)=true:=by simpa using ha
          have HR:Hid (errS s=2):=qq (errS_no (HcN.out (by rw[HcE.out]; simp; omega)))
          clear ha;go_wp2_with fail;go_ret;exact⟨ret_int HR.out.symm,(HB1.out).bel⟩
        · have b1:decide (cd.data<0)=false:=by simpa using ha
          obtain⟨j,hj⟩:∃ j:Nat,cd.data=j:=⟨cd.data.toNat,by omega⟩
          have Hj:=qq hj;rw[hj] at y1 b1
          by_cases hjn:j<n
          · have b2:decide ((j:Int)≥(n:Int))=false:=by simp; omega
            have b2':decide ((n:Int)≤(j:Int))=false:=by simp; omega
            have b2n:decide (n≤j)=false:=by simp; omega
            by_cases h8:mf≤8
            · have b3:decide ((mf:Int)>8)=false:=by simp; omega
              have b3':decide (8<mf)=false:=by simp; omega
              by_cases hmm:mm=mf
              · subst hmm
                have b4:((mm:Int) != (mm:Int))=false:=by simp
                have z99:¬ (9223372036854775807<1+cd.name.size):=by have:=Hnm.out; unfold maxLen at this; omega
                obtain⟨r,hr⟩:∃ r,((seenC s k).any fun x=>decide (x=(⟨#[99]⟩:ByteArray)++cd.name))=r:=⟨_,rfl⟩
                have hq:=twice_any (w.heap.size+3) (w.heap.size+2) (seenC s k).length (seenC s k) ((⟨#[99]⟩:ByteArray)++cd.name) r hr wb HB1.out.mbx HB1.out.map (by have:=seenC_len s k; omega) (by have:=Hnm.out; rw[size_pre]; exact this) (by have:=seenC_len s k; omega) (by omega)
                rw[seenC_any] at hr;have Hq:=qq hq;have Hr:=qq hr;clear hq hr;go_wp2_with fail;refine Hq.out.mono ?_;rintro e w2 ⟨rfl,hm2,hg2⟩;have hB2:=HB1.out.named hm2 hg2
                have hk2x:=Hkx.out.grown hg2 (by simp; omega)
                clear hm2 hg2 Hq x0 x1 y0 y1 y2 y3 HB1 Hkx
                cases r with
                | true=>
                  have HR:Hid (errS s=2):=qq (errS_no (HcN.out (by rw[HcE.out,Hr.out]; simp)))
                  have HB2:=qq hB2;clear hB2 hk2x;go_wp2_with fail;go_ret;exact⟨ret_int HR.out.symm,(HB2.out).bel⟩
                | false=>
                  rw[← HsC.out] at hB2
                  have hjv:j<vs.length:=by rw[hB2.len]; exact hjn
                  obtain⟨Av,cv,hv,hov⟩:=hB2.frm.row j hjv;have hcl:=hB2.frm.cell j hjv;have hlv:=ofN_len s j k;obtain⟨L,hL⟩:∃ L,(ofN s j k).length=L:=⟨_,rfl⟩;have y1:w2.cell? ⟨bx,1,none⟩=some (.int .i64 cd.data):=hk2x.cell 1;rw[Hj.out] at y1;rw[hL] at hv hov hlv;rw[hv] at hcl
                  have j1:(0:Int)≤(j:Int):=by omega
                  have j2:(j:Int)<n:=by omega
                  have hbxl:=hk2x.lt;have HB2:=qq hB2;have Hk2:=qq hk2x;have Hv:=qq hv;have HL:=qq hL;have Hov:=qq hov;obtain⟨p0,hp0,hz0,hz1,hz2⟩:=info_parts int13Info;clear hB2 hk2x hv hL hov;go_upto_region 11 with fail;refine wp_region_noPanic ?_;refine wp_region_T (fun w'=>w'.cell? ⟨bx,1,none⟩=some (.int .i64 (j:Nat))∧w'.cell? ⟨w.heap.size+1,j,none⟩=some (.slice Av L cv)) 11 (by kernel_rfl) ⟨y1,hcl⟩ (fun hHeld=>?_);have hbd:Below w2.heap.size w2 w2.drew:=Below.drew (Below.refl _ _);have hB3:=HB2.out.below hbd;have hk3:=Hk2.out.below hbd Hk2.out.lt;have hov3:=ownsRow_beyond Hov.out hbd;clear y1 hcl hbd HB2 Hk2 Hov hbxl;generalize w2.drew=W0 at hHeld hB3 hk3 hov3 ⊢;have hbxl:=hk3.lt;have hbase:w.heap.size+4≤W0.heap.size:=hB3.size;have hbI:=below_box (w:=W0) (Obj.cells #[.int .i64 (k:Nat)] 3)
                  have hHI:(W0.alloc (Obj.cells #[.int .i64 (k:Nat)] 3)).cell? ⟨bx,1,none⟩=some (.int .i64 (j:Nat))∧(W0.alloc (Obj.cells #[.int .i64 (k:Nat)] 3)).cell? ⟨w.heap.size+1,j,none⟩=some (.slice Av L cv):=⟨(hbI.cell (p:=⟨bx,1,none⟩) hbxl).trans hHeld.1,(hbI.cell (p:=⟨w.heap.size+1,j,none⟩) (by show w.heap.size+1<W0.heap.size; omega)).trans hHeld.2⟩
                  have hoI:=ownsRow_beyond hov3 hbI;have hrI:=rd_newk W0 [.int .i64 (k:Nat)] 1 rfl 3;have hBI:=hB3.below hbI;have hkI:=hk3.below hbI hk3.lt
                  have hsI:(W0.alloc (Obj.cells #[.int .i64 (k:Nat)] 3)).heap.size=W0.heap.size+1:=by simp
                  have hne1:some bx≠(Value.slice Av L cv).ownBlock:=fun e=>by have:=Hvb.out j hjv bx (by rw[Hv.out]; exact e.symm); omega
                  have hne2:some (w.heap.size+1)≠(Value.slice Av L cv).ownBlock:=fun e=>by have:=(own_lt hov3 e.symm).1; omega
                  have HHI:=qq hHI;have HoI:=qq hoI;have HrI:=qq hrI;have HBI:=qq hBI;have HkI:=qq hkI;have HsI:=qq hsI;clear hB3 hk3 hov3 hbI hHI hoI hrI hBI hkI hsI;refine nx0 0 ?_
                  iterate 9 (refine nx (v:=?_) rfl (by kernel_rfl) (fun _ _ _ h=>h) (by kernel_rfl) ?_ (by assumption) ?_; rotate_left; (focus (intro w hSw; (try dsimp only at hSw); first | (go_simp; done) | (go_simp; with_reducible rfl))); try simp only[Act.put,qg,qe,qf,qd,qh,qi,Nat.reduceAdd])
                  refine nx9 ?_;refine wpAnyT_step (i:=9) (by kernel_rfl) rfl (fun K hK=>?_);go_simp;refine hK.out _ _ HHI.out ?_;clear hK K
                  try simp only[Act.put,qg,qe,qf,qd,qh,qi]
                  refine wpAnyT_step (i:=10) (by kernel_rfl) rfl (fun K hK=>?_)
                  (refine step_append_rd _ (by rfl) (.tmp 76) (.tmp 78) 50 (by rfl) (w.heap.size+4) 3 p0 _ 1 8 Tryd.underlying50 hp0 hz0 hz1 hz2 rfl (by omega) (.slice Av L cv) L _ (by rfl) HoI.out _ _ 1 1 [.int .i64 (k:Nat)] (by rfl) HrI.out (by intro u hu; simp at hu; subst hu; rfl) (by unfold maxLen; omega) (by omega) (by have:=HsI.out; omega) ?_; intro v7 wZ ho7 hg7 hat7; obtain⟨A9,c9,rfl⟩:=ownsRow_form ho7)
                  refine hK.out _ _ (⟨(World.cell?_of_block (hg7.block bx HkI.out.lt hne1)).trans HHI.out.1,(World.cell?_of_block (hg7.block (w.heap.size+1) (by have:=HsI.out; omega) hne2)).trans HHI.out.2⟩) ?_
                  clear hK K
                  try simp only[Act.put,qg,qe,qf,qd,qh,qi]
                  have hB5:=HBI.out.push (v':=.slice A9 (L+1) c9) (u:=(k:Int)) hjv (by show wZ.ownsRow _ _ _ _ ((ofN s j k).length+1) _; rw[HL.out]; exact ho7) (by rw[Hv.out]; exact hg7) (by rw[Hv.out]; exact hat7)
                  have hfq:(fun m=>if m=j then (fun n=>ofN s n k) j++[(k:Int)] else (fun n=>ofN s n k) m)=fun n=>ofN s n (k+1):=Hfr.out j Hj.out;rw[hfq] at hB5
                  have hk5:=(HkI.out.grown hg7 hne1).other (g':=w.heap.size+1) (by have:=HkI.out.lt; omega) j (.slice A9 (L+1) c9)
                  have z1:wZ.cell? ⟨w.heap.size+1,j,none⟩=some (.slice Av L cv):=(World.cell?_of_block (hg7.block (w.heap.size+1) (by have:=HsI.out; omega) hne2)).trans HHI.out.2
                  have f1:wZ.frozen? ⟨w.heap.size+1,j,none⟩=false:=(World.frozen?_of_block (hg7.block (w.heap.size+1) (by have:=HsI.out; omega) hne2)).trans (HBI.out.frm.frozen j)
                  have HB5:=qq hB5;have Hk5:=qq hk5;clear hB5 hk5 hfq ho7 hg7 hat7 HBI HkI HoI HrI HHI hHeld;refine wpAnyT_seq 11 (by omega) (by rfl) (by kernel_rfl) ?_;simp only[List.drop_succ_cons,List.drop_zero];go_wp2_with fail;refine NoPanic.normal ?_;obtain⟨w5,hw5⟩:∃ q,wZ.setCell ⟨w.heap.size+1,j,none⟩ (.slice A9 (L+1) c9)=q:=⟨_,rfl⟩;rw[hw5] at HB5 Hk5 ⊢;clear z1 f1 hw5 HsI hbase hbxl hne1 hne2;have y2:w5.cell? ⟨bx,2,none⟩=some (.slice Af mm cf):=Hk5.out.cell 2;obtain⟨bd,od,rfl,hbd,hcdd⟩:=datas_at H.out.datas (by omega);obtain⟨_,hpr,_⟩:=hcdd j (by omega);obtain⟨pv,hpv⟩:∃ q,s.datas[j].params=q:=⟨_,rfl⟩;rw[hpv] at hpr
                  have hpq:((s.datas[cd.data.toNat]?).map DataD.params).getD 0=pv:=by rw[Hj.out,Int.toNat_natCast,qj (by omega)]; exact hpv
                  have Hpr:=qq hpr;have Hpq:=qq hpq;have HD:=qq H.out.datas;have Hbd:=qq hbd;have HW5:Hid (∀ W:World,Below w5.heap.size w5 W→Below w.heap.size w W):=qq fun W hW=>HB5.out.bel.trans (hW.mono HB5.out.bel.size);clear hcdd hpr hpq hpv hbd;go_wp2_with fail;clear y2
                  go_loopg [84] mm (fun gh i wr=>∃ q:Nat,q≤mm∧gh=mm - q∧i=.int .i64 (q:Nat)∧(∀ p,p<q→fldOk s cd p=true)∧Below w5.heap.size w5 wr)
                  case atStart=>exact⟨0,Nat.zero_le _,rfl,rfl,fun i hi=>absurd hi (by omega),Below.refl _ _⟩
                  case round=>
                   obtain⟨q,hq,rfl,rfl,hfo,hb6⟩:=hrel;obtain⟨wp,hwp⟩:∃ z,z=wr:=⟨_,rfl⟩;subst hwp;have Hfo:=qq hfo;clear hfo
                   by_cases hqm:q<mm
                   · have d1:decide (q<mm)=true:=by simpa using hqm
                     have hqf:q<cd.fields.length:=by omega
                     have hqu:q<cd.mults.length:=by omega
                     obtain⟨bf,ofs,rfl,hbf,hcf⟩:=typ_at HF.out (by omega);obtain⟨bm,om,rfl,hbm,hcm⟩:=mus_at HM.out (by omega);obtain⟨t0,t1,t2,t3,A',m',c',t4,hT⟩:=hcf q hqf;have u0:=hcm q hqu;have hfq:=fldOk_eq (s:=s) hqf hqu;have hfe:=HfE.out q hqf;rw[Hpq.out] at hfq;obtain⟨t,ht⟩:∃ x,cd.fields[q]=x:=⟨_,rfl⟩;obtain⟨mu,hmu⟩:∃ x,cd.mults[q]=x:=⟨_,rfl⟩;rw[ht] at t0 t1 t2 t3 hT hfq;rw[hmu] at u0 hfq;have hbw:Below w.heap.size w wp:=HB5.out.bel.trans (hb6.mono HB5.out.bel.size);have T0:wp.cell? ⟨bf,ofs+q * 5,none⟩=some (.int .u8 t.k):=(hbw.cell (p:=⟨bf,ofs+q * 5,none⟩) hbf).trans t0;have T1:wp.cell? ⟨bf,ofs+q * 5+1,none⟩=some (.int .i64 t.n):=(hbw.cell (p:=⟨bf,ofs+q * 5+1,none⟩) hbf).trans t1;have T2:wp.cell? ⟨bf,ofs+q * 5+2,none⟩=some (.int .i64 t.v):=(hbw.cell (p:=⟨bf,ofs+q * 5+2,none⟩) hbf).trans t2;have T3:wp.cell? ⟨bf,ofs+q * 5+3,none⟩=some (.int .u8 t.c):=(hbw.cell (p:=⟨bf,ofs+q * 5+3,none⟩) hbf).trans t3;have T4:wp.cell? ⟨bf,ofs+q * 5+4,none⟩=some (.slice A' m' c'):=(hbw.cell (p:=⟨bf,ofs+q * 5+4,none⟩) hbf).trans t4
                     have q1:(0:Int)≤(q:Int):=by omega
                     have q2:(q:Int)<mm:=by omega
                     have j1:(0:Int)≤(j:Int):=by omega
                     have j2:(j:Int)<n:=by omega
                     have hpc:wp.cell? ⟨bd,od+j * 3+1,none⟩=some (.int .i64 pv):=(hbw.cell (p:=⟨bd,od+j * 3+1,none⟩) Hbd.out).trans Hpr.out;have hmc:wp.cell? ⟨bm,om+q,none⟩=some (.int .u8 mu):=(hbw.cell (p:=⟨bm,om+q,none⟩) hbm).trans u0;have hBp:=HB5.out.below hb6;have hkp:=Hk5.out.below hb6 Hk5.out.lt;have HT:=qq hT;have Hfq:=qq hfq;have Hfe:=qq hfe;clear hcf hcm t0 t1 t2 t3 t4 hT u0 hfq hfe ht hmu hbw;go_upto_region 15 with fail;have hbx:=below_box (w:=wp) (Obj.cells #[.int .u8 t.k,.int .i64 t.n,.int .i64 t.v,.int .u8 t.c,.slice A' m' c'] 63);have hkt:=blk_new wp #[.int .u8 t.k,.int .i64 t.n,.int .i64 t.v,.int .u8 t.c,.slice A' m' c'] 63;obtain⟨w7,hw7⟩:∃ q,wp.alloc (Obj.cells #[.int .u8 t.k,.int .i64 t.n,.int .i64 t.v,.int .u8 t.c,.slice A' m' c'] 63)=q:=⟨_,rfl⟩;rw[hw7] at hbx hkt ⊢;obtain⟨tb,htb⟩:∃ q,wp.heap.size=q:=⟨_,rfl⟩;have hb7:=hb6.trans (hbx.mono hb6.size);have hB7:=hBp.below hbx;have hk7:=hkp.below hbx hkp.lt;have g1:=(hbx.cell (block_lt_of_cell hmc)).trans hmc;have g2:=(hbx.cell (block_lt_of_cell hpc)).trans hpc;rw[htb] at hkt ⊢;have y1:w7.cell? ⟨bx,1,none⟩=some (.int .i64 cd.data):=hk7.cell 1;rw[Hj.out] at y1;have hh7:HeldM w.heap.size bx tb bm bd (om+q) (od+j * 3+1) j (some ⟨bd,od,none⟩) n c (some ⟨b,off,none⟩) n2 c2 (some ⟨bm,om,none⟩) mm cm t.k t.n t.v t.c A' m' c' mu pv w7:=⟨hB7.sig.cell 0,hB7.sig.cell 1,y1,hk7.cell 3,hkt.cell 0,hkt.cell 1,hkt.cell 2,hkt.cell 3,hkt.cell 4,g1,g2⟩;have Hh7:=qq hh7;have H7:=qq hb7;clear hbx hkt hw7 htb hb7 hB7 hk7 g1 g2 y1 hh7 hmc hpc hBp hkp hb6 T0 T1 T2 T3 T4
                     by_cases p1:mu<1
                     · have b5:decide (mu<1)=true:=by simpa using p1
                       have HR:Hid (errS s=2):=qq (errS_no (Hfe.out (by rw[Hfq.out]; simp; omega)))
                       clear p1;refine wp_region_noPanic ?_;refine wp_region_T (fun w'=>w'.cell? ⟨w.heap.size,0,none⟩=some (.slice (some ⟨bd,od,none⟩) n c)∧w'.cell? ⟨w.heap.size,1,none⟩=some (.slice (some ⟨b,off,none⟩) n2 c2)∧w'.cell? ⟨bx,1,none⟩=some (.int .i64 (j:Nat))∧w'.cell? ⟨bx,3,none⟩=some (.slice (some ⟨bm,om,none⟩) mm cm)∧w'.cell? ⟨tb,0,none⟩=some (.int .u8 t.k)∧w'.cell? ⟨tb,1,none⟩=some (.int .i64 t.n)∧w'.cell? ⟨tb,2,none⟩=some (.int .i64 t.v)∧w'.cell? ⟨tb,3,none⟩=some (.int .u8 t.c)∧w'.cell? ⟨tb,4,none⟩=some (.slice A' m' c')∧w'.cell? ⟨bm,om+q,none⟩=some (.int .u8 mu)∧w'.cell? ⟨bd,od+j * 3+1,none⟩=some (.int .i64 pv)) 32 (by kernel_rfl) Hh7.out (fun hHeld=>?_);have hbd8:Below w7.heap.size w7 w7.drew:=Below.drew (Below.refl _ _);have H8:=qq (H7.out.trans (hbd8.mono H7.out.size));clear hbd8 Hh7;generalize w7.drew=w8 at hHeld H8 ⊢;clear H7;refine nx0 0 ?_
                       iterate 7 (refine nx (v:=?_) rfl (by kernel_rfl) (fun _ _ _ h=>h) (by kernel_rfl) ?_ (by assumption) ?_; rotate_left; (focus (intro w hSw; (try dsimp only at hSw); first | (go_simp; done) | (go_simp; with_reducible rfl))); try simp only[Act.put,qg,qe,qf,qd,qh,qi,Nat.reduceAdd])
                       refine nx9 ?_;refine nx0 7 ?_
                       iterate 6 (refine nxk rfl (by kernel_rfl) (fun _ _ _ h=>h) (by kernel_rfl) (by assumption) ?_; try simp only[Act.put,qg,qe,qf,qd,qh,qi,Nat.reduceAdd])
                       refine nx9 ?_;refine nx0 13 ?_
                       iterate 2 (refine nx (v:=?_) rfl (by kernel_rfl) (fun _ _ _ h=>h) (by kernel_rfl) ?_ (by assumption) ?_; rotate_left; (focus (intro w hSw; (try dsimp only at hSw); first | (go_simp; done) | (go_simp; with_reducible rfl))); try simp only[Act.put,qg,qe,qf,qd,qh,qi,Nat.reduceAdd])
                       refine nx9 ?_;refine nx0 15 ?_
                       iterate 3 (refine nxk rfl (by kernel_rfl) (fun _ _ _ h=>h) (by kernel_rfl) (by assumption) ?_; try simp only[Act.put,qg,qe,qf,qd,qh,qi,Nat.reduceAdd])
                       refine nx9 ?_;refine nx0 18 ?_
                       iterate 2 (refine nx (v:=?_) rfl (by kernel_rfl) (fun _ _ _ h=>h) (by kernel_rfl) ?_ (by assumption) ?_; rotate_left; (focus (intro w hSw; (try dsimp only at hSw); first | (go_simp; done) | (go_simp; with_reducible rfl))); try simp only[Act.put,qg,qe,qf,qd,qh,qi,Nat.reduceAdd])
                       refine nx9 ?_;refine nx0 20 ?_
                       iterate 11 (refine nxk rfl (by kernel_rfl) (fun _ _ _ h=>h) (by kernel_rfl) (by assumption) ?_; try simp only[Act.put,qg,qe,qf,qd,qh,qi,Nat.reduceAdd])
                       refine nx9 ?_;refine nx0 31 ?_
                       iterate 1 (refine nx (v:=?_) rfl (by kernel_rfl) (fun _ _ _ h=>h) (by kernel_rfl) ?_ (by assumption) ?_; rotate_left; (focus (intro w hSw; (try dsimp only at hSw); first | (go_simp; done) | (go_simp; with_reducible rfl))); try simp only[Act.put,qg,qe,qf,qd,qh,qi,Nat.reduceAdd])
                       refine nx9 ?_;clear hHeld;refine wpAnyT_seq 32 (by omega) (by rfl) (by kernel_rfl) ?_;simp only[List.drop_succ_cons,List.drop_zero];go_wp2_with fail;refine NoPanic.normal ?_;go_wp2_with fail;go_ret;exact⟨ret_int HR.out.symm,HW5.out _ H8.out⟩
                     · have b5:decide (mu<1)=false:=by simpa using p1
                       by_cases p2:mu>3
                       · have b6:decide (mu>3)=true:=by simpa using p2
                         have b6':decide (3<mu)=true:=by simpa using p2
                         have HR:Hid (errS s=2):=qq (errS_no (Hfe.out (by rw[Hfq.out]; simp; omega)))
                         clear p1 p2;refine wp_region_noPanic ?_;refine wp_region_T (fun w'=>w'.cell? ⟨w.heap.size,0,none⟩=some (.slice (some ⟨bd,od,none⟩) n c)∧w'.cell? ⟨w.heap.size,1,none⟩=some (.slice (some ⟨b,off,none⟩) n2 c2)∧w'.cell? ⟨bx,1,none⟩=some (.int .i64 (j:Nat))∧w'.cell? ⟨bx,3,none⟩=some (.slice (some ⟨bm,om,none⟩) mm cm)∧w'.cell? ⟨tb,0,none⟩=some (.int .u8 t.k)∧w'.cell? ⟨tb,1,none⟩=some (.int .i64 t.n)∧w'.cell? ⟨tb,2,none⟩=some (.int .i64 t.v)∧w'.cell? ⟨tb,3,none⟩=some (.int .u8 t.c)∧w'.cell? ⟨tb,4,none⟩=some (.slice A' m' c')∧w'.cell? ⟨bm,om+q,none⟩=some (.int .u8 mu)∧w'.cell? ⟨bd,od+j * 3+1,none⟩=some (.int .i64 pv)) 32 (by kernel_rfl) Hh7.out (fun hHeld=>?_);have hbd8:Below w7.heap.size w7 w7.drew:=Below.drew (Below.refl _ _);have H8:=qq (H7.out.trans (hbd8.mono H7.out.size));clear hbd8 Hh7;generalize w7.drew=w8 at hHeld H8 ⊢;clear H7;refine nx0 0 ?_
                         iterate 15 (refine nx (v:=?_) rfl (by kernel_rfl) (fun _ _ _ h=>h) (by kernel_rfl) ?_ (by assumption) ?_; rotate_left; (focus (intro w hSw; (try dsimp only at hSw); first | (go_simp; done) | (go_simp; with_reducible rfl))); try simp only[Act.put,qg,qe,qf,qd,qh,qi,Nat.reduceAdd])
                         refine nx9 ?_;refine nx0 15 ?_
                         iterate 3 (refine nxk rfl (by kernel_rfl) (fun _ _ _ h=>h) (by kernel_rfl) (by assumption) ?_; try simp only[Act.put,qg,qe,qf,qd,qh,qi,Nat.reduceAdd])
                         refine nx9 ?_;refine nx0 18 ?_
                         iterate 2 (refine nx (v:=?_) rfl (by kernel_rfl) (fun _ _ _ h=>h) (by kernel_rfl) ?_ (by assumption) ?_; rotate_left; (focus (intro w hSw; (try dsimp only at hSw); first | (go_simp; done) | (go_simp; with_reducible rfl))); try simp only[Act.put,qg,qe,qf,qd,qh,qi,Nat.reduceAdd])
                         refine nx9 ?_;refine nx0 20 ?_
                         iterate 11 (refine nxk rfl (by kernel_rfl) (fun _ _ _ h=>h) (by kernel_rfl) (by assumption) ?_; try simp only[Act.put,qg,qe,qf,qd,qh,qi,Nat.reduceAdd])
                         refine nx9 ?_;refine nx0 31 ?_
                         iterate 1 (refine nx (v:=?_) rfl (by kernel_rfl) (fun _ _ _ h=>h) (by kernel_rfl) ?_ (by assumption) ?_; rotate_left; (focus (intro w hSw; (try dsimp only at hSw); first | (go_simp; done) | (go_simp; with_reducible rfl))); try simp only[Act.put,qg,qe,qf,qd,qh,qi,Nat.reduceAdd])
                         refine nx9 ?_;clear hHeld;refine wpAnyT_seq 32 (by omega) (by rfl) (by kernel_rfl) ?_;simp only[List.drop_succ_cons,List.drop_zero];go_wp2_with fail;refine NoPanic.normal ?_;go_wp2_with fail;go_ret;exact⟨ret_int HR.out.symm,HW5.out _ H8.out⟩
                       · have b6:decide (mu>3)=false:=by simpa using p2
                         have b6':decide (3<mu)=false:=by simpa using p2
                         obtain⟨me,hme⟩:∃ q,mayTE t=q:=⟨_,rfl⟩;have Hme:=qq hme
                         by_cases p3:me=0
                         · subst p3
                           have hmt:=mayT_of hme;have Hmt:=qq hmt;obtain⟨wt,hwt⟩:∃ q,wholeT s.datas pv t=q:=⟨_,rfl⟩;have Hwt:=qq hwt;clear hme hmt hwt;refine wp_region_noPanic ?_;refine wp_region_T (fun w'=>w'.cell? ⟨w.heap.size,0,none⟩=some (.slice (some ⟨bd,od,none⟩) n c)∧w'.cell? ⟨w.heap.size,1,none⟩=some (.slice (some ⟨b,off,none⟩) n2 c2)∧w'.cell? ⟨bx,1,none⟩=some (.int .i64 (j:Nat))∧w'.cell? ⟨bx,3,none⟩=some (.slice (some ⟨bm,om,none⟩) mm cm)∧w'.cell? ⟨tb,0,none⟩=some (.int .u8 t.k)∧w'.cell? ⟨tb,1,none⟩=some (.int .i64 t.n)∧w'.cell? ⟨tb,2,none⟩=some (.int .i64 t.v)∧w'.cell? ⟨tb,3,none⟩=some (.int .u8 t.c)∧w'.cell? ⟨tb,4,none⟩=some (.slice A' m' c')∧w'.cell? ⟨bm,om+q,none⟩=some (.int .u8 mu)∧w'.cell? ⟨bd,od+j * 3+1,none⟩=some (.int .i64 pv)) 32 (by kernel_rfl) Hh7.out (fun hHeld=>?_);have hbd8:Below w7.heap.size w7 w7.drew:=Below.drew (Below.refl _ _);have H8:=qq (H7.out.trans (hbd8.mono H7.out.size));clear hbd8 Hh7;generalize w7.drew=w8 at hHeld H8 ⊢;clear H7;refine nx0 0 ?_
                           iterate 16 (refine nx (v:=?_) rfl (by kernel_rfl) (fun _ _ _ h=>h) (by kernel_rfl) ?_ (by assumption) ?_; rotate_left; (focus (intro w hSw; (try dsimp only at hSw); first | (go_simp; done) | (go_simp; with_reducible rfl))); try simp only[Act.put,qg,qe,qf,qd,qh,qi,Nat.reduceAdd])
                           refine nx9 ?_;refine wpAnyT_step (i:=16) (by kernel_rfl) rfl (fun K hK=>?_)
                           (go_simp; refine(tyMay_any t _ w8 ⟨A',m',c',rfl,tysV_sl.2 (HT.out.fresh (HW5.out _ H8.out))⟩).mono ?_; rintro e w9 ⟨rfl,hq9⟩; have H9:=qq (H8.out.trans (hq9.mono H8.out.size)); replace hHeld:=HeldM.below hHeld hq9; rw[Hme.out]; clear hq9)
                           refine hK.out _ _ hHeld ?_;clear hK K
                           try simp only[Act.put,qg,qe,qf,qd,qh,qi]
                           clear H8;refine nx0 17 ?_
                           iterate 12 (refine nx (v:=?_) rfl (by kernel_rfl) (fun _ _ _ h=>h) (by kernel_rfl) ?_ (by assumption) ?_; rotate_left; (focus (intro w hSw; (try dsimp only at hSw); first | (go_simp; done) | (go_simp; with_reducible rfl))); try simp only[Act.put,qg,qe,qf,qd,qh,qi,Nat.reduceAdd])
                           refine nx9 ?_;refine wpAnyT_step (i:=29) (by kernel_rfl) rfl (fun K hK=>?_)
                           (go_simp; refine(whole_go s.datas pv (some ⟨bd,od,none⟩) n c (some ⟨b,off,none⟩) n2 c2 (nodes t) t (Nat.le_refl _) Hmt.out A' m' c' w9 (tysV_sl.2 (HT.out.fresh (HW5.out _ H9.out))) (HD.out.fresh (HW5.out _ H9.out))).mono ?_; rintro e w10 ⟨rfl,hq10⟩; have H10:=qq (H9.out.trans (hq10.mono H9.out.size)); replace hHeld:=HeldM.below hHeld hq10; rw[Hwt.out]; clear hq10)
                           refine hK.out _ _ hHeld ?_;clear hK K
                           try simp only[Act.put,qg,qe,qf,qd,qh,qi]
                           clear H9;refine nx0 30 ?_
                           iterate 2 (refine nx (v:=?_) rfl (by kernel_rfl) (fun _ _ _ h=>h) (by kernel_rfl) ?_ (by assumption) ?_; rotate_left; (focus (intro w hSw; (try dsimp only at hSw); first | (go_simp; done) | (go_simp; with_reducible rfl))); try simp only[Act.put,qg,qe,qf,qd,qh,qi,Nat.reduceAdd])
                           refine nx9 ?_;clear hHeld;refine wpAnyT_seq 32 (by omega) (by rfl) (by kernel_rfl) ?_;simp only[List.drop_succ_cons,List.drop_zero];go_wp2_with fail;refine NoPanic.normal ?_
                           cases wt with
                           | false=>
                             have HR:Hid (errS s=2):=qq (errS_no (Hfe.out (by rw[Hfq.out,Hwt.out]; simp)))
                             go_wp2_with fail;go_ret;exact⟨ret_int HR.out.symm,HW5.out _ H10.out⟩
                           | true=>
                             have hfo2:∀ p,p<q+1→fldOk s cd p=true:=fun p hp=>by
                              rcases Nat.lt_or_ge p q with h | h
                              · exact Hfo.out p h
                              · obtain rfl:p=q:=by omega
                                rw[Hfq.out,Hwt.out,Hme.out]
                                simp; omega
                             have Hfo2:=qq hfo2;clear hfo2 p1 p2;go_wp2_with fail;go_roundg (mm - (q+1))
                             case measure=>omega
                             case rel=>exact⟨q+1,by omega,rfl,by go_num,Hfo2.out,H10.out⟩
                         · have b7:(me != 0)=true:=by simpa using p3
                           have HR:Hid (errS s=2):=qq (errS_no (Hfe.out (by rw[Hfq.out,hme]; simp[p3])))
                           clear p1 p2 p3 hme;refine wp_region_noPanic ?_;refine wp_region_T (fun w'=>w'.cell? ⟨w.heap.size,0,none⟩=some (.slice (some ⟨bd,od,none⟩) n c)∧w'.cell? ⟨w.heap.size,1,none⟩=some (.slice (some ⟨b,off,none⟩) n2 c2)∧w'.cell? ⟨bx,1,none⟩=some (.int .i64 (j:Nat))∧w'.cell? ⟨bx,3,none⟩=some (.slice (some ⟨bm,om,none⟩) mm cm)∧w'.cell? ⟨tb,0,none⟩=some (.int .u8 t.k)∧w'.cell? ⟨tb,1,none⟩=some (.int .i64 t.n)∧w'.cell? ⟨tb,2,none⟩=some (.int .i64 t.v)∧w'.cell? ⟨tb,3,none⟩=some (.int .u8 t.c)∧w'.cell? ⟨tb,4,none⟩=some (.slice A' m' c')∧w'.cell? ⟨bm,om+q,none⟩=some (.int .u8 mu)∧w'.cell? ⟨bd,od+j * 3+1,none⟩=some (.int .i64 pv)) 32 (by kernel_rfl) Hh7.out (fun hHeld=>?_);have hbd8:Below w7.heap.size w7 w7.drew:=Below.drew (Below.refl _ _);have H8:=qq (H7.out.trans (hbd8.mono H7.out.size));clear hbd8 Hh7;generalize w7.drew=w8 at hHeld H8 ⊢;clear H7;refine nx0 0 ?_
                           iterate 16 (refine nx (v:=?_) rfl (by kernel_rfl) (fun _ _ _ h=>h) (by kernel_rfl) ?_ (by assumption) ?_; rotate_left; (focus (intro w hSw; (try dsimp only at hSw); first | (go_simp; done) | (go_simp; with_reducible rfl))); try simp only[Act.put,qg,qe,qf,qd,qh,qi,Nat.reduceAdd])
                           refine nx9 ?_;refine wpAnyT_step (i:=16) (by kernel_rfl) rfl (fun K hK=>?_)
                           (go_simp; refine(tyMay_any t _ w8 ⟨A',m',c',rfl,tysV_sl.2 (HT.out.fresh (HW5.out _ H8.out))⟩).mono ?_; rintro e w9 ⟨rfl,hq9⟩; have H9:=qq (H8.out.trans (hq9.mono H8.out.size)); replace hHeld:=HeldM.below hHeld hq9; rw[Hme.out]; clear hq9)
                           refine hK.out _ _ hHeld ?_;clear hK K
                           try simp only[Act.put,qg,qe,qf,qd,qh,qi]
                           clear H8;refine nx0 17 ?_
                           iterate 3 (refine nx (v:=?_) rfl (by kernel_rfl) (fun _ _ _ h=>h) (by kernel_rfl) ?_ (by assumption) ?_; rotate_left; (focus (intro w hSw; (try dsimp only at hSw); first | (go_simp; done) | (go_simp; with_reducible rfl))); try simp only[Act.put,qg,qe,qf,qd,qh,qi,Nat.reduceAdd])
                           refine nx9 ?_;refine nx0 20 ?_
                           iterate 11 (refine nxk rfl (by kernel_rfl) (fun _ _ _ h=>h) (by kernel_rfl) (by assumption) ?_; try simp only[Act.put,qg,qe,qf,qd,qh,qi,Nat.reduceAdd])
                           refine nx9 ?_;refine nx0 31 ?_
                           iterate 1 (refine nx (v:=?_) rfl (by kernel_rfl) (fun _ _ _ h=>h) (by kernel_rfl) ?_ (by assumption) ?_; rotate_left; (focus (intro w hSw; (try dsimp only at hSw); first | (go_simp; done) | (go_simp; with_reducible rfl))); try simp only[Act.put,qg,qe,qf,qd,qh,qi,Nat.reduceAdd])
                           refine nx9 ?_;clear hHeld;refine wpAnyT_seq 32 (by omega) (by rfl) (by kernel_rfl) ?_;simp only[List.drop_succ_cons,List.drop_zero];go_wp2_with fail;refine NoPanic.normal ?_;go_wp2_with fail;go_ret;exact⟨ret_int HR.out.symm,HW5.out _ H9.out⟩
                   · have d1:decide (q<mm)=false:=by simpa using hqm
                     have hqe:q=mm:=by omega
                     subst hqe;have hB7:=HB5.out.below hb6
                     have hok2:∀ i,i<k+1→conOk s i=true:=fun i hi=>by
                      rcases Nat.lt_or_ge i k with h | h
                      · exact Hok.out i h
                      · obtain rfl:i=k:=by omega
                        rw[HcE.out,Hr.out,range_all.2 (fun p hp=>Hfo.out p (by omega)),decide_eq_true (show cd.fields.length≤8 by omega),decide_eq_true (show cd.mults.length=cd.fields.length by omega),decide_eq_true (show cd.data<s.datas.length by have:=Hj.out; omega),decide_eq_true (show 0≤cd.data by have:=Hj.out; omega)]
                        rfl
                     have Hok2:=qq hok2;have HB7:Hid (CutM w s (some ⟨bd,od,none⟩) n c (some ⟨b,off,none⟩) n2 c2 (k+1) wp):=qq ⟨_,hB7⟩;clear hok2 hB7 hb6;go_wp2_with fail;go_roundg (n2 - (k+1))
                     case measure=>omega
                     case rel=>exact⟨k+1,by omega,rfl,by go_num,Hok2.out,HB7.out⟩
              · have b4:((mm:Int) != (mf:Int))=true:=by simp; omega
                have HR:Hid (errS s=2):=qq (errS_no (HcN.out (by rw[HcE.out]; simp; omega)))
                clear hmm h8;go_wp2_with fail;go_ret;exact⟨ret_int HR.out.symm,(HB1.out).bel⟩
            · have b3:decide ((mf:Int)>8)=true:=by simp; omega
              have b3':decide (8<mf)=true:=by simp; omega
              have HR:Hid (errS s=2):=qq (errS_no (HcN.out (by rw[HcE.out]; simp; omega)))
              clear h8;go_wp2_with fail;go_ret;exact⟨ret_int HR.out.symm,(HB1.out).bel⟩
          · have b2:decide ((j:Int)≥(n:Int))=true:=by simp; omega
            have b2':decide ((n:Int)≤(j:Int))=true:=by simp; omega
            have b2n:decide (n≤j)=true:=by simp; omega
            have HR:Hid (errS s=2):=qq (errS_no (HcN.out (by rw[HcE.out]; simp; omega)))
            clear hjn;go_wp2_with fail;go_ret;exact⟨ret_int HR.out.symm,(HB1.out).bel⟩
      · have d0:decide (k<n2)=false:=by simpa using hkn
        have hke:k=n2:=by omega
        subst hke
        have hB0:CutD w s A n c A2 k c2 0 wo:=⟨vs,by rw[seenD_0,hln2]; exact hB⟩
        have HB0:=qq hB0;have x0:wo.cell? ⟨w.heap.size,0,none⟩=some (.slice A n c):=hB.sig.cell 0;clear hB hB0;go_wp2_with fail;clear x0
        go_loopg [126] n (fun gh i wr=>∃ k':Nat,k'≤n∧gh=n - k'∧i=.int .i64 (k':Nat)∧(∀ i,i<k'→datOk s i=true)∧CutD w s A n c A2 k c2 k' wr)
        case atStart=>exact⟨0,Nat.zero_le _,rfl,rfl,fun i hi=>absurd hi (by omega),HB0.out⟩
        case round=>
         clear HB0;obtain⟨l,hl,rfl,rfl,hdo,vs2,hB⟩:=hrel;obtain⟨wp,hwp⟩:∃ z,z=wr:=⟨_,rfl⟩;subst hwp;have Hdo:=qq hdo;clear hdo
         by_cases hln':l<n
         · have d1:decide (l<n)=true:=by simpa using hln'
           have hl':l<s.datas.length:=by omega
           obtain⟨bd,od,rfl,hbd,hc⟩:=datas_at H.out.datas (by omega);obtain⟨q0,q1,Ac,mc,cc,q2,hC⟩:=hc l hl';have hcw:∀ o,wp.cell? ⟨bd,o,none⟩=w.cell? ⟨bd,o,none⟩:=fun o=>hB.bel.cell (p:=⟨bd,o,none⟩) hbd;have hsD:=seenD_succ hl';have hdE:=datOk_eq hl';have hdN:=mayS_dat (s:=s) hl';have hnm:=Hnd.out _ (List.getElem_mem hl');obtain⟨dd,hdd⟩:∃ x,s.datas[l]=x:=⟨_,rfl⟩;rw[hdd] at q0 q1 hC hsD hdE hnm;have e0:=(hcw _).trans q0;have e1:=(hcw _).trans q1;have e2:=(hcw _).trans q2
           have k1:(0:Int)≤(l:Int):=by omega
           have k2:(l:Int)<n:=by omega
           have hlv:l<vs2.length:=by rw[hB.len]; exact hln'
           obtain⟨Av,cv,hv,hov⟩:=hB.frm.row l hlv;have hcl:=hB.frm.cell l hlv;obtain⟨L,hL⟩:∃ L,(ofN s l s.cons.length).length=L:=⟨_,rfl⟩;rw[hL] at hv hov;rw[hv] at hcl;have hvb:∀ b',(Value.slice Av L cv).ownBlock=some b'→w.heap.size+4≤b'∧b'<wp.heap.size:=fun b' e=>own_lt hov e;go_upto_region 22 with fail;have hbx:=below_box (w:=wp) (Obj.cells #[.string dd.name,.int .i64 dd.params,.slice Ac mc cc] 52);have hkx:=blk_new wp #[.string dd.name,.int .i64 dd.params,.slice Ac mc cc] 52;obtain⟨w7,hw7⟩:∃ q,wp.alloc (Obj.cells #[.string dd.name,.int .i64 dd.params,.slice Ac mc cc] 52)=q:=⟨_,rfl⟩;rw[hw7] at hbx hkx ⊢;obtain⟨bx,hbxn⟩:∃ q,wp.heap.size=q:=⟨_,rfl⟩;have hB7:=hB.below hbx;have ho7:=ownsRow_beyond hov hbx;have hwp4:=hB.size;have hcl7:=(hbx.cell (block_lt_of_cell hcl)).trans hcl;rw[hbxn] at hkx hwp4 hvb ⊢;have hh7:HeldW w.heap.size bx l dd.name dd.params Ac mc cc Av L cv w7:=⟨hkx.cell 0,hkx.cell 1,hkx.cell 2,hcl7⟩;have Hh7:=qq hh7;have HB7:=qq hB7;have HO7:=qq ho7;have HC:=qq hC;have HsD:=qq hsD;have HdE:=qq hdE;have HdN:=qq hdN;have Hnm:=qq hnm;have HL:=qq hL
           have j1:(0:Int)≤(l:Int):=by omega
           have j2:(l:Int)<n:=by omega
           have l63:(L:Int)≤9223372036854775807:=by have:=ofN_len s l s.cons.length; omega
           clear q0 q1 q2 hc e0 e1 e2 hC hcw hsD hdE hdN hnm hov hcl hcl7 hbx hkx hw7 hbxn hB7 ho7 hh7 hB hL hdd hv
           by_cases p1:dd.params<0
           · have b1:decide (dd.params<0)=true:=by simpa using p1
             have HR:Hid (errS s=2):=qq (errS_no (HdN.out (by rw[HdE.out]; simp; omega)))
             clear p1;refine wp_region_noPanic ?_;refine wp_region_T (fun w'=>w'.cell? ⟨bx,0,none⟩=some (.string dd.name)∧w'.cell? ⟨bx,1,none⟩=some (.int .i64 dd.params)∧w'.cell? ⟨bx,2,none⟩=some (.slice Ac mc cc)∧w'.cell? ⟨w.heap.size+1,l,none⟩=some (.slice Av L cv)) 33 (by kernel_rfl) Hh7.out (fun hHeld=>?_);have hbd8:Below w7.heap.size w7 w7.drew:=Below.drew (Below.refl _ _);have H8:=qq (HB7.out.below hbd8);have HO8:=qq (ownsRow_beyond HO7.out hbd8);clear hbd8 Hh7;generalize w7.drew=w8 at hHeld H8 HO8 ⊢;clear HB7 HO7;refine nx0 0 ?_
             iterate 4 (refine nx (v:=?_) rfl (by kernel_rfl) (fun _ _ _ h=>h) (by kernel_rfl) ?_ (by assumption) ?_; rotate_left; (focus (intro w hSw; (try dsimp only at hSw); first | (go_simp; done) | (go_simp; with_reducible rfl))); try simp only[Act.put,qg,qe,qf,qd,qh,qi,Nat.reduceAdd])
             refine nx9 ?_;refine nx0 4 ?_
             iterate 3 (refine nxk rfl (by kernel_rfl) (fun _ _ _ h=>h) (by kernel_rfl) (by assumption) ?_; try simp only[Act.put,qg,qe,qf,qd,qh,qi,Nat.reduceAdd])
             refine nx9 ?_;refine nx0 7 ?_
             iterate 2 (refine nx (v:=?_) rfl (by kernel_rfl) (fun _ _ _ h=>h) (by kernel_rfl) ?_ (by assumption) ?_; rotate_left; (focus (intro w hSw; (try dsimp only at hSw); first | (go_simp; done) | (go_simp; with_reducible rfl))); try simp only[Act.put,qg,qe,qf,qd,qh,qi,Nat.reduceAdd])
             refine nx9 ?_;refine nx0 9 ?_
             iterate 6 (refine nxk rfl (by kernel_rfl) (fun _ _ _ h=>h) (by kernel_rfl) (by assumption) ?_; try simp only[Act.put,qg,qe,qf,qd,qh,qi,Nat.reduceAdd])
             refine nx9 ?_;refine nx0 15 ?_
             iterate 2 (refine nx (v:=?_) rfl (by kernel_rfl) (fun _ _ _ h=>h) (by kernel_rfl) ?_ (by assumption) ?_; rotate_left; (focus (intro w hSw; (try dsimp only at hSw); first | (go_simp; done) | (go_simp; with_reducible rfl))); try simp only[Act.put,qg,qe,qf,qd,qh,qi,Nat.reduceAdd])
             refine nx9 ?_;refine nx0 17 ?_
             iterate 8 (refine nxk rfl (by kernel_rfl) (fun _ _ _ h=>h) (by kernel_rfl) (by assumption) ?_; try simp only[Act.put,qg,qe,qf,qd,qh,qi,Nat.reduceAdd])
             refine nx9 ?_;refine nx0 25 ?_
             iterate 2 (refine nx (v:=?_) rfl (by kernel_rfl) (fun _ _ _ h=>h) (by kernel_rfl) ?_ (by assumption) ?_; rotate_left; (focus (intro w hSw; (try dsimp only at hSw); first | (go_simp; done) | (go_simp; with_reducible rfl))); try simp only[Act.put,qg,qe,qf,qd,qh,qi,Nat.reduceAdd])
             refine nx9 ?_;refine nx0 27 ?_
             iterate 5 (refine nxk rfl (by kernel_rfl) (fun _ _ _ h=>h) (by kernel_rfl) (by assumption) ?_; try simp only[Act.put,qg,qe,qf,qd,qh,qi,Nat.reduceAdd])
             refine nx9 ?_;refine nx0 32 ?_
             iterate 1 (refine nx (v:=?_) rfl (by kernel_rfl) (fun _ _ _ h=>h) (by kernel_rfl) ?_ (by assumption) ?_; rotate_left; (focus (intro w hSw; (try dsimp only at hSw); first | (go_simp; done) | (go_simp; with_reducible rfl))); try simp only[Act.put,qg,qe,qf,qd,qh,qi,Nat.reduceAdd])
             refine nx9 ?_;clear hHeld;refine wpAnyT_seq 33 (by omega) (by rfl) (by kernel_rfl) ?_;simp only[List.drop_succ_cons,List.drop_zero];go_wp2_with fail;refine NoPanic.normal ?_;go_wp2_with fail;go_ret;exact⟨ret_int HR.out.symm,(H8.out).bel⟩
           · have b1:decide (dd.params<0)=false:=by simpa using p1
             by_cases p2:dd.params>4
             · have b2:decide (dd.params>4)=true:=by simpa using p2
               have b2':decide (4<dd.params)=true:=by simpa using p2
               have HR:Hid (errS s=2):=qq (errS_no (HdN.out (by rw[HdE.out]; simp; omega)))
               clear p1 p2;refine wp_region_noPanic ?_;refine wp_region_T (fun w'=>w'.cell? ⟨bx,0,none⟩=some (.string dd.name)∧w'.cell? ⟨bx,1,none⟩=some (.int .i64 dd.params)∧w'.cell? ⟨bx,2,none⟩=some (.slice Ac mc cc)∧w'.cell? ⟨w.heap.size+1,l,none⟩=some (.slice Av L cv)) 33 (by kernel_rfl) Hh7.out (fun hHeld=>?_);have hbd8:Below w7.heap.size w7 w7.drew:=Below.drew (Below.refl _ _);have H8:=qq (HB7.out.below hbd8);have HO8:=qq (ownsRow_beyond HO7.out hbd8);clear hbd8 Hh7;generalize w7.drew=w8 at hHeld H8 HO8 ⊢;clear HB7 HO7;refine nx0 0 ?_
               iterate 9 (refine nx (v:=?_) rfl (by kernel_rfl) (fun _ _ _ h=>h) (by kernel_rfl) ?_ (by assumption) ?_; rotate_left; (focus (intro w hSw; (try dsimp only at hSw); first | (go_simp; done) | (go_simp; with_reducible rfl))); try simp only[Act.put,qg,qe,qf,qd,qh,qi,Nat.reduceAdd])
               refine nx9 ?_;refine nx0 9 ?_
               iterate 6 (refine nxk rfl (by kernel_rfl) (fun _ _ _ h=>h) (by kernel_rfl) (by assumption) ?_; try simp only[Act.put,qg,qe,qf,qd,qh,qi,Nat.reduceAdd])
               refine nx9 ?_;refine nx0 15 ?_
               iterate 2 (refine nx (v:=?_) rfl (by kernel_rfl) (fun _ _ _ h=>h) (by kernel_rfl) ?_ (by assumption) ?_; rotate_left; (focus (intro w hSw; (try dsimp only at hSw); first | (go_simp; done) | (go_simp; with_reducible rfl))); try simp only[Act.put,qg,qe,qf,qd,qh,qi,Nat.reduceAdd])
               refine nx9 ?_;refine nx0 17 ?_
               iterate 8 (refine nxk rfl (by kernel_rfl) (fun _ _ _ h=>h) (by kernel_rfl) (by assumption) ?_; try simp only[Act.put,qg,qe,qf,qd,qh,qi,Nat.reduceAdd])
               refine nx9 ?_;refine nx0 25 ?_
               iterate 2 (refine nx (v:=?_) rfl (by kernel_rfl) (fun _ _ _ h=>h) (by kernel_rfl) ?_ (by assumption) ?_; rotate_left; (focus (intro w hSw; (try dsimp only at hSw); first | (go_simp; done) | (go_simp; with_reducible rfl))); try simp only[Act.put,qg,qe,qf,qd,qh,qi,Nat.reduceAdd])
               refine nx9 ?_;refine nx0 27 ?_
               iterate 5 (refine nxk rfl (by kernel_rfl) (fun _ _ _ h=>h) (by kernel_rfl) (by assumption) ?_; try simp only[Act.put,qg,qe,qf,qd,qh,qi,Nat.reduceAdd])
               refine nx9 ?_;refine nx0 32 ?_
               iterate 1 (refine nx (v:=?_) rfl (by kernel_rfl) (fun _ _ _ h=>h) (by kernel_rfl) ?_ (by assumption) ?_; rotate_left; (focus (intro w hSw; (try dsimp only at hSw); first | (go_simp; done) | (go_simp; with_reducible rfl))); try simp only[Act.put,qg,qe,qf,qd,qh,qi,Nat.reduceAdd])
               refine nx9 ?_;clear hHeld;refine wpAnyT_seq 33 (by omega) (by rfl) (by kernel_rfl) ?_;simp only[List.drop_succ_cons,List.drop_zero];go_wp2_with fail;refine NoPanic.normal ?_;go_wp2_with fail;go_ret;exact⟨ret_int HR.out.symm,(H8.out).bel⟩
             · have b2:decide (dd.params>4)=false:=by simpa using p2
               have b2':decide (4<dd.params)=false:=by simpa using p2
               by_cases p3:L=0
               · have b3:((L:Int)==0)=true:=by simp[p3]
                 have HR:Hid (errS s=2):=qq (errS_no (HdN.out (by rw[HdE.out,List.eq_nil_of_length_eq_zero (HL.out.trans p3)]; simp)))
                 clear p1 p2 p3;refine wp_region_noPanic ?_;refine wp_region_T (fun w'=>w'.cell? ⟨bx,0,none⟩=some (.string dd.name)∧w'.cell? ⟨bx,1,none⟩=some (.int .i64 dd.params)∧w'.cell? ⟨bx,2,none⟩=some (.slice Ac mc cc)∧w'.cell? ⟨w.heap.size+1,l,none⟩=some (.slice Av L cv)) 33 (by kernel_rfl) Hh7.out (fun hHeld=>?_);have hbd8:Below w7.heap.size w7 w7.drew:=Below.drew (Below.refl _ _);have H8:=qq (HB7.out.below hbd8);have HO8:=qq (ownsRow_beyond HO7.out hbd8);clear hbd8 Hh7;generalize w7.drew=w8 at hHeld H8 HO8 ⊢;clear HB7 HO7;refine nx0 0 ?_
                 iterate 17 (refine nx (v:=?_) rfl (by kernel_rfl) (fun _ _ _ h=>h) (by kernel_rfl) ?_ (by assumption) ?_; rotate_left; (focus (intro w hSw; (try dsimp only at hSw); first | (go_simp; done) | (go_simp; with_reducible rfl))); try simp only[Act.put,qg,qe,qf,qd,qh,qi,Nat.reduceAdd])
                 refine nx9 ?_;refine nx0 17 ?_
                 iterate 8 (refine nxk rfl (by kernel_rfl) (fun _ _ _ h=>h) (by kernel_rfl) (by assumption) ?_; try simp only[Act.put,qg,qe,qf,qd,qh,qi,Nat.reduceAdd])
                 refine nx9 ?_;refine nx0 25 ?_
                 iterate 2 (refine nx (v:=?_) rfl (by kernel_rfl) (fun _ _ _ h=>h) (by kernel_rfl) ?_ (by assumption) ?_; rotate_left; (focus (intro w hSw; (try dsimp only at hSw); first | (go_simp; done) | (go_simp; with_reducible rfl))); try simp only[Act.put,qg,qe,qf,qd,qh,qi,Nat.reduceAdd])
                 refine nx9 ?_;refine nx0 27 ?_
                 iterate 5 (refine nxk rfl (by kernel_rfl) (fun _ _ _ h=>h) (by kernel_rfl) (by assumption) ?_; try simp only[Act.put,qg,qe,qf,qd,qh,qi,Nat.reduceAdd])
                 refine nx9 ?_;refine nx0 32 ?_
                 iterate 1 (refine nx (v:=?_) rfl (by kernel_rfl) (fun _ _ _ h=>h) (by kernel_rfl) ?_ (by assumption) ?_; rotate_left; (focus (intro w hSw; (try dsimp only at hSw); first | (go_simp; done) | (go_simp; with_reducible rfl))); try simp only[Act.put,qg,qe,qf,qd,qh,qi,Nat.reduceAdd])
                 refine nx9 ?_;clear hHeld;refine wpAnyT_seq 33 (by omega) (by rfl) (by kernel_rfl) ?_;simp only[List.drop_succ_cons,List.drop_zero];go_wp2_with fail;refine NoPanic.normal ?_;go_wp2_with fail;go_ret;exact⟨ret_int HR.out.symm,(H8.out).bel⟩
               · have b3:((L:Int)==0)=false:=by simp; omega
                 have hne:(ofN s l s.cons.length).isEmpty=false:=by
                  cases e:ofN s l s.cons.length with
                  | nil=>rw[e] at HL; exact absurd HL.out.symm p3
                  | cons _ _=>rfl
                 have Hne:=qq hne;obtain⟨re,hre⟩:∃ q,decide (ofN s l s.cons.length=dd.cons)=q:=⟨_,rfl⟩;have Hre:=qq hre
                 have hc1:decide (0≤dd.params)=true:=by simp; omega
                 have hc2:decide (dd.params≤4)=true:=by simp; omega
                 have Hc1:=qq hc1;have Hc2:=qq hc2;clear hne hre p1 p2 p3 hc1 hc2;refine wp_region_noPanic ?_;refine wp_region_T (fun w'=>w'.cell? ⟨bx,0,none⟩=some (.string dd.name)∧w'.cell? ⟨bx,1,none⟩=some (.int .i64 dd.params)∧w'.cell? ⟨bx,2,none⟩=some (.slice Ac mc cc)∧w'.cell? ⟨w.heap.size+1,l,none⟩=some (.slice Av L cv)) 33 (by kernel_rfl) Hh7.out (fun hHeld=>?_);have hbd8:Below w7.heap.size w7 w7.drew:=Below.drew (Below.refl _ _);have H8:=qq (HB7.out.below hbd8);have HO8:=qq (ownsRow_beyond HO7.out hbd8);clear hbd8 Hh7;generalize w7.drew=w8 at hHeld H8 HO8 ⊢;clear HB7 HO7;refine nx0 0 ?_
                 iterate 23 (refine nx (v:=?_) rfl (by kernel_rfl) (fun _ _ _ h=>h) (by kernel_rfl) ?_ (by assumption) ?_; rotate_left; (focus (intro w hSw; (try dsimp only at hSw); first | (go_simp; done) | (go_simp; with_reducible rfl))); try simp only[Act.put,qg,qe,qf,qd,qh,qi,Nat.reduceAdd])
                 refine nx9 ?_;refine wpAnyT_step (i:=23) (by kernel_rfl) rfl (fun K hK=>?_)
                 (go_simp; refine(equalI13 (rdI_own HO8.out) (slI_rd (HC.out.fresh H8.out.bel)) Hre.out).mono ?_; rintro e w9 ⟨rfl,hq9⟩; have H9:=qq (H8.out.below hq9); replace hHeld:=HeldW.below hHeld hq9; clear hq9)
                 refine hK.out _ _ hHeld ?_;clear hK K
                 try simp only[Act.put,qg,qe,qf,qd,qh,qi]
                 clear H8 HO8
                 cases re with
                 | false=>
                   have HR:Hid (errS s=2):=qq (errS_no (HdN.out (by rw[HdE.out,Hre.out]; simp)))
                   refine nx0 24 ?_
                   iterate 3 (refine nx (v:=?_) rfl (by kernel_rfl) (fun _ _ _ h=>h) (by kernel_rfl) ?_ (by assumption) ?_; rotate_left; (focus (intro w hSw; (try dsimp only at hSw); first | (go_simp; done) | (go_simp; with_reducible rfl))); try simp only[Act.put,qg,qe,qf,qd,qh,qi,Nat.reduceAdd])
                   refine nx9 ?_;refine nx0 27 ?_
                   iterate 5 (refine nxk rfl (by kernel_rfl) (fun _ _ _ h=>h) (by kernel_rfl) (by assumption) ?_; try simp only[Act.put,qg,qe,qf,qd,qh,qi,Nat.reduceAdd])
                   refine nx9 ?_;refine nx0 32 ?_
                   iterate 1 (refine nx (v:=?_) rfl (by kernel_rfl) (fun _ _ _ h=>h) (by kernel_rfl) ?_ (by assumption) ?_; rotate_left; (focus (intro w hSw; (try dsimp only at hSw); first | (go_simp; done) | (go_simp; with_reducible rfl))); try simp only[Act.put,qg,qe,qf,qd,qh,qi,Nat.reduceAdd])
                   refine nx9 ?_;clear hHeld;refine wpAnyT_seq 33 (by omega) (by rfl) (by kernel_rfl) ?_;simp only[List.drop_succ_cons,List.drop_zero];go_wp2_with fail;refine NoPanic.normal ?_;go_wp2_with fail;go_ret;exact⟨ret_int HR.out.symm,(H9.out).bel⟩
                 | true=>
                   have z99:¬ (9223372036854775807<1+dd.name.size):=by have:=Hnm.out; unfold maxLen at this; omega
                   obtain⟨r,hr⟩:∃ r,((seenD s l).any fun x=>decide (x=(⟨#[100]⟩:ByteArray)++dd.name))=r:=⟨_,rfl⟩
                   have hq:=twice_any (w.heap.size+3) (w.heap.size+2) (seenD s l).length (seenD s l) ((⟨#[100]⟩:ByteArray)++dd.name) r hr w9 H9.out.mbx H9.out.map (by have:=seenD_len s l; omega) (by have:=Hnm.out; rw[size_pre]; exact this) (by have:=seenD_len s l; omega) (by omega)
                   rw[seenD_any] at hr;have Hq:=qq hq;have Hr:=qq hr;clear hq hr;refine nx0 24 ?_
                   iterate 7 (refine nx (v:=?_) rfl (by kernel_rfl) (fun _ _ _ h=>h) (by kernel_rfl) ?_ (by assumption) ?_; rotate_left; (focus (intro w hSw; (try dsimp only at hSw); first | (go_simp; done) | (go_simp; with_reducible rfl))); try simp only[Act.put,qg,qe,qf,qd,qh,qi,Nat.reduceAdd])
                   refine nx9 ?_;refine wpAnyT_step (i:=31) (by kernel_rfl) rfl (fun K hK=>?_)
                   (go_simp; refine Hq.out.mono ?_; rintro e w10 ⟨rfl,hm10,hg10⟩; have H10:=qq (H9.out.named hm10 hg10); replace hHeld:=HeldW.grown hHeld hg10 (by simp; omega) (by simp); clear hm10 hg10)
                   refine hK.out _ _ hHeld ?_;clear hK K
                   try simp only[Act.put,qg,qe,qf,qd,qh,qi]
                   clear H9 Hq;refine nx0 32 ?_
                   iterate 1 (refine nx (v:=?_) rfl (by kernel_rfl) (fun _ _ _ h=>h) (by kernel_rfl) ?_ (by assumption) ?_; rotate_left; (focus (intro w hSw; (try dsimp only at hSw); first | (go_simp; done) | (go_simp; with_reducible rfl))); try simp only[Act.put,qg,qe,qf,qd,qh,qi,Nat.reduceAdd])
                   refine nx9 ?_;clear hHeld;refine wpAnyT_seq 33 (by omega) (by rfl) (by kernel_rfl) ?_;simp only[List.drop_succ_cons,List.drop_zero];go_wp2_with fail;refine NoPanic.normal ?_
                   cases r with
                   | true=>
                     have HR:Hid (errS s=2):=qq (errS_no (HdN.out (by rw[HdE.out,Hr.out]; simp)))
                     go_wp2_with fail;go_ret;exact⟨ret_int HR.out.symm,(H10.out).bel⟩
                   | false=>
                     have hdo2:∀ i,i<l+1→datOk s i=true:=fun i hi=>by
                      rcases Nat.lt_or_ge i l with h | h
                      · exact Hdo.out i h
                      · obtain rfl:i=l:=by omega
                        rw[HdE.out,Hr.out,Hre.out,Hne.out,Hc1.out,Hc2.out];rfl
                     have Hdo2:=qq hdo2;have hB11:=H10.out;rw[← HsD.out] at hB11;have HB11:Hid (CutD w s (some ⟨bd,od,none⟩) n c A2 k c2 (l+1) w10):=qq ⟨_,hB11⟩;clear hdo2 hB11 H10;go_wp2_with fail;go_roundg (n - (l+1))
                     case measure=>omega
                     case rel=>exact⟨l+1,by omega,rfl,by go_num,Hdo2.out,HB11.out⟩
         · have d1:decide (l<n)=false:=by simpa using hln'
           have HR:Hid (errS s=0):=qq (mayS_yes (by omega) (by omega) (fun i hi=>Hok.out i (by omega)) (fun i hi=>Hdo.out i (by omega)));have HB:=qq hB;clear hB;go_wp2_with fail;go_ret;exact⟨ret_int HR.out.symm,(HB.out).bel⟩
   · have d100:decide ((n2:Int)>100)=true:=by simp; omega
     have d100':decide (100<n2)=true:=by simp; omega
     have HR:Hid (errS s=2):=qq (errS_no (by unfold mayS; rw[decide_eq_false (show ¬ s.cons.length≤100 by omega)]; simp))
     go_enter Tryd.func22,Tryd.ntmps22
     go_upto_region 1 with fail;rw[HW1.out];go_wp2_with fail;go_ret;exact⟨ret_int HR.out.symm,Hb1.out⟩
 · have d40:decide ((n:Int)>40)=true:=by simp; omega
   have d40':decide (40<n)=true:=by simp; omega
   have HR:Hid (errS s=2):=qq (errS_no (by unfold mayS; rw[decide_eq_false (show ¬ s.datas.length≤40 by omega)]; simp))
   go_enter Tryd.func22,Tryd.ntmps22
   go_upto_region 1 with fail;rw[HW1.out];go_wp2_with fail;go_ret;exact⟨ret_int HR.out.symm,Hb1.out⟩
end Go.Proofs.YtgpeijkjmkocgaaDoor
