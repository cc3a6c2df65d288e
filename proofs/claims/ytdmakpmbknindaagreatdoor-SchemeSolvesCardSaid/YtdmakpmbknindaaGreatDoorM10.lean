import Derived.Test.YtdmakpmbknindaaGreatDoorM8
set_option linter.unusedVariables false
set_option linter.unusedSimpArgs false
set_option maxHeartbeats 1000000
set_option maxRecDepth 100000
namespace Go.Proofs.YtdmakpmbknindaaGreatDoor
open Go.RowKit
theorem RowC.of_own {w:World} {base g n c:Nat} {t:TypeId} {k:IntKind} {us:List Int} (h:w.ownsRow base t 1 (.slice (some ⟨g,0,none⟩) n c) n (us.map (Value.int k))):RowC w g t k us∧us.length=n∧n≤c∧c≤maxLen∧base≤g:=by
 have hl:us.length=n:=by have:=h.1; simpa using this
 rcases h.2 with ⟨e0,_⟩ | ⟨g',cap,cur,e0,hb,hg,hn,hm,hs,ht⟩
 · cases e0
 · injection e0 with e1 _ e3
   injection e1 with e1
   injection e1 with e1
   subst e1; subst e3
   refine⟨⟨cur,hg,by omega,fun i hi=>?_⟩,hl,hn,hm,hb⟩
   have h1:(cur.toList.take (n * 1))[i]?=some (.int k us[i]):=by rw[ht]; simp[hi]
   rw[List.getElem?_take] at h1
   split at h1
   · simpa using h1
   · cases h1
theorem RowC.of_rep {w:World} {g n:Nat} {t:TypeId} {k:IntKind} {u:Int} (h:Blk w g t (List.replicate n (Value.int k u)).toArray):RowC w g t k (List.replicate n u):=
 ⟨_,h,by simp,fun i hi=>by
  have:i<n:=by simpa using hi
  simp[this]⟩
theorem clone_mult (a:Addr) (n c:Nat) (us:List Int) (w:World) (hr:RdI .u8 w w.heap.size (some a) n c us) (hbig:n≤1099511627776):
 Calls Tryz.prog 81 #[.slice (some a) n c] w fun e w'=>∃ g cc,e=.returned (.slice (some ⟨g,0,none⟩) n cc)∧w'.ownsRow w.heap.size 22 1 (.slice (some ⟨g,0,none⟩) n cc) n (us.map (Value.int .u8))∧Below w.heap.size w w':=by
 obtain⟨i0,hi0,hz0,hz1,hz2⟩:=info_parts multInfo;have hq:=fun w a n c n' c'=>Lib.run_eql_slice_nil (P:=Tryz.prog) w 35 22 a n c n' c' Tryz.underlying35;have hr1:=hr.1.keep (w':=w.alloc (Obj.cells #[] 22)) (fun p hp=>World.cell?_alloc_lt _ _ p hp)
 go_enter Tryz.func81,Tryz.ntmps81
 go_wp2_with (at_builtin; refine wpList_append_rd _ rfl _ _ 35 rfl w.heap.size 22 i0 _ 1 1 Tryz.underlying35 hi0 hz0 hz1 hz2 rfl (by omega) _ 0 [] rfl (World.ownsRow_lit w #[] 0 (Nat.le_refl _) (Nat.zero_le _) rfl) w.heap.size (some a) n c (us.map (Value.int .u8)) rfl hr1 (by intro v hv; obtain⟨x,_,rfl⟩:=List.mem_map.1 hv; rfl) (by unfold maxLen; omega) (by omega) (by simp) ?_; intro v1 w1 hown1 hg1 hat1)
 go_ret
 have hown:v1.ownBlock≠none:=by
  intro e
  rcases hat1 with h | h
  · rw[e] at h; cases h
  · rw[e] at h; cases h
 rcases hown1.2 with ⟨e0,_⟩ | ⟨g,cap,cur,e0,_⟩
 · rw[e0] at hown; exact absurd rfl hown
 · subst e0
   rw[Nat.zero_add] at hown1 ⊢
   exact⟨g,cap,rfl,by simpa using hown1,((Below.refl _ _).alloc (Nat.le_refl _) _).grown hg1 (by simp) (fun k hk=>by have hk':some w.heap.size=some k:=hk; injection hk' with h; omega)⟩
theorem notMay_any (x:IneqD) (n:Int) (b:Nat) (w:World) (hb:w.cell? ⟨b,0,none⟩=some (.int .i64 n)):
 Calls Tryz.prog 79 #[.agg #[.int .i64 x.lv,.int .u8 x.lc,.int .u8 x.c,.int .i64 x.r],.pointer (some ⟨b,0,none⟩)] w fun e w'=>e=.returned (.bool (!mayL x n))∧Below w.heap.size w w':=by
 have hbl:=block_lt_of_cell hb;have hX:=blk_new w #[.int .i64 x.lv,.int .u8 x.lc,.int .u8 x.c,.int .i64 x.r] 70;have hb0:=below_box (w:=w) (Obj.cells #[.int .i64 x.lv,.int .u8 x.lc,.int .u8 x.c,.int .i64 x.r] 70);have hb1:(w.alloc (Obj.cells #[.int .i64 x.lv,.int .u8 x.lc,.int .u8 x.c,.int .i64 x.r] 70)).cell? ⟨b,0,none⟩=some (.int .i64 n):=(World.cell?_alloc_lt _ _ ⟨b,0,none⟩ hbl).trans hb
 go_enter Tryz.func79,Tryz.ntmps79
 go_wp2_with fail;refine(leastMay_any x n _).mono ?_;rintro e w1 ⟨rfl,hb2⟩;have hw:=hb0.trans (hb2.mono hb0.size);obtain⟨m,hm⟩:∃ m,mayL x n=m:=⟨_,rfl⟩;rw[hm];have HM:=qq hm;clear hm;go_wp2_with fail;go_ret
 exact⟨by rw[HM.out]; rfl,hw⟩
theorem indexL_any (b:Nat) (n:Int) (A:Option Addr) (nl c:Nat) (xs:List IneqD) (w:World) (hr:IneqsV w w.heap.size A nl c xs) (hb:w.cell? ⟨b,0,none⟩=some (.int .i64 n)):
 Calls Tryz.prog 128 #[.slice A nl c,.func (.func 79) #[] #[.pointer (some ⟨b,0,none⟩)]] w fun e w'=>∃ z:Int,e=.returned (.int .i64 z)∧decide (z≥0)=xs.any (fun x=>!mayL x n)∧Below w.heap.size w w':=by
 have hlen:=hr.len;have hcm:=hr.2.2.1;have hnc:=hr.2.1;have Hr:=qq hr;have Hb:=qq hb;have hbl:=block_lt_of_cell hb;clear hr hb;unfold maxLen at hcm
 go_enter Tryz.func128,Tryz.ntmps128
 go_wp2_with fail
 go_loopg [5,8] nl (fun g _ i wr=>∃ k:Nat,k≤nl∧g=nl - k∧i=.int .i64 k∧(∀ j (h:j<xs.length),j<k→mayL xs[j] n=true)∧Below w.heap.size w wr)
 case atStart=>exact⟨0,Nat.zero_le _,rfl,rfl,fun j _ h=>absurd h (by omega),Below.refl _ _⟩
 case round=>
  obtain⟨k,hk,rfl,rfl,hno,hbel⟩:=hrel;have Hno:=qq hno;have Hbel:=qq hbel;clear hno
  by_cases hlt:k<nl
  · obtain⟨b',off,rfl,hb',hcell⟩:=(Hr.out.below hbel).at_ (by omega)
    have hk':k<xs.length:=by omega
    obtain⟨e0,e1,e2,e3⟩:=hcell k hk';have hq:=notMay_any xs[k] n b wr ((hbel.cell (p:=⟨b,0,none⟩) hbl).trans Hb.out);generalize hx:xs[k]=x at e0 e1 e2 e3 hq;have Hx:=qq hx;have Hq:=qq hq
    have i1:(0:Int)≤(k:Int):=by omega
    have i2:(k:Int)<nl:=by omega
    clear hcell hq hx hbel;go_wp2_with fail
    refine Hq.out.mono ?_; rintro e w1 ⟨rfl,hb1⟩
    have hw1:=Hbel.out.trans (hb1.mono Hbel.out.size)
    cases hm:mayL x n
    · have HF:Hid (xs.any (fun x=>!mayL x n)=true):=List.any_eq_true.2 ⟨_,List.getElem_mem hk',by rw[Hx.out,hm]; rfl⟩
      clear hm hb1;go_wp2_with fail;go_ret
      exact⟨_,rfl,by rw[HF.out]; simp,hw1⟩
    · have Hm:=qq hm
      clear hm hb1;go_wp2_with fail;go_roundg (nl - (k+1))
      case measure=>omega
      case rel=>
       refine⟨k+1,by omega,rfl,by go_num,fun j hj hjk=>?_,hw1⟩
       rcases Nat.lt_or_ge j k with h | h
       · exact Hno.out j hj h
       · have:j=k:=by omega
         subst this
         rw[Hx.out]; exact Hm.out
  · have HF:Hid (xs.any (fun x=>!mayL x n)=false):=by
     show _=_;rw[List.any_eq_false];intro x hx;obtain⟨j,hj,rfl⟩:=List.getElem_of_mem hx
     rw[Hno.out j hj (by omega)]; simp
    clear hbel;go_wp2_with fail;go_ret
    exact⟨-1,rfl,by rw[HF.out]; simp,Hbel.out⟩
theorem containsL_any (b:Nat) (n:Int) (A:Option Addr) (nl c:Nat) (xs:List IneqD) (w:World) (hr:IneqsV w w.heap.size A nl c xs) (hb:w.cell? ⟨b,0,none⟩=some (.int .i64 n)):
 Calls Tryz.prog 78 #[.slice A nl c,.func (.func 79) #[] #[.pointer (some ⟨b,0,none⟩)]] w fun e w'=>e=.returned (.bool (xs.any (fun x=>!mayL x n)))∧Below w.heap.size w w':=by
 go_enter Tryz.func78,Tryz.ntmps78
 go_wp2_with fail
 refine(indexL_any b n A nl c xs _ hr hb).mono ?_; rintro e w1 ⟨z,rfl,hz,hb1⟩
 have HZ:=qq hz;clear hz;go_wp2_with fail;go_ret
 exact⟨by rw[← HZ.out]; rfl,hb1⟩
end Go.Proofs.YtdmakpmbknindaaGreatDoor
namespace Go.Proofs.YtdmakpmbknindaaGreatDoor
open Go.ChangeShapes Go.WideShapes Go.ChangeAt Go.RowKit Go.Deep Go.Joins
section
variable {H:Type} {enc:TypeId × Value→H} {w:World}
instance:Inhabited IneqD:=⟨⟨0,0,0,0⟩⟩
def WfQ (x:IneqD):Prop:=(-9223372036854775808≤x.lv∧x.lv≤9223372036854775807)∧(0≤x.lc∧x.lc≤255)∧(0≤x.c∧x.c≤255)∧(-9223372036854775808≤x.r∧x.r≤9223372036854775807)
theorem ineq_cells {base:Nat} {spare:Nat→Bool} {held:Bool} {fuel:Nat} {cs:List Value} {x:DataW H × List MemPlace} (h:DataW.trod enc Tryz.prog w base spare held fuel 70 cs=some x):
 ∃ q:IneqD,cs=[.int .i64 q.lv,.int .u8 q.lc,.int .u8 q.c,.int .i64 q.r]∧WfQ q:=by
 obtain⟨xs,n,rfl,rfl,hl,hxl,hf⟩:=DataW.trod_struct Tryz.underlying70 h;have hl4:cs.length=4:=hl.trans (by kernel_rfl);have hx3:xs.length=3:=hxl
 obtain⟨a,b,c,d,rfl⟩:∃ a b c d,cs=[a,b,c,d]:=by
  match cs,hl4 with
  | [a,b,c,d],_=>exact⟨a,b,c,d,rfl⟩
 obtain⟨y0,y1,y2,rfl⟩:∃ a b c,xs=[a,b,c]:=by
  match xs,hx3 with
  | [a,b,c],_=>exact⟨a,b,c,rfl⟩
 have k0:DataW.trod enc Tryz.prog w base spare held n 24 (([a,b,c,d].drop 0).take (Tryz.prog.cellsOf 24))=some y0:=hf 0 _ rfl
 rw[show Tryz.prog.cellsOf 24=2 from by kernel_rfl] at k0
 have k1:DataW.trod enc Tryz.prog w base spare held n 22 (([a,b,c,d].drop 2).take (Tryz.prog.cellsOf 22))=some y1:=hf 1 _ rfl
 rw[show Tryz.prog.cellsOf 22=1 from by kernel_rfl] at k1
 have k2:DataW.trod enc Tryz.prog w base spare held n 3 (([a,b,c,d].drop 3).take (Tryz.prog.cellsOf 3))=some y2:=hf 2 _ rfl
 rw[show Tryz.prog.cellsOf 3=1 from by kernel_rfl] at k2
 obtain⟨zs,m,rfl,hz,_,hzl,hg⟩:=DataW.trod_struct Tryz.underlying24 k0;have hz2:zs.length=2:=hzl
 obtain⟨z0,z1,rfl⟩:∃ a b,zs=[a,b]:=by
  match zs,hz2 with
  | [a,b],_=>exact⟨a,b,rfl⟩
 have j0:DataW.trod enc Tryz.prog w base spare held m 3 (([a,b].drop 0).take (Tryz.prog.cellsOf 3))=some z0:=hg 0 _ rfl
 rw[show Tryz.prog.cellsOf 3=1 from by kernel_rfl] at j0
 have j1:DataW.trod enc Tryz.prog w base spare held m 22 (([a,b].drop 1).take (Tryz.prog.cellsOf 22))=some z1:=hg 1 _ rfl
 rw[show Tryz.prog.cellsOf 22=1 from by kernel_rfl] at j1
 obtain⟨n0,e0,_,w0⟩:=DataW.trod_int Tryz.underlying3 j0;obtain⟨n1,e1,_,w1⟩:=DataW.trod_int Tryz.underlying22 j1;obtain⟨n2,e2,_,w2⟩:=DataW.trod_int Tryz.underlying22 k1;obtain⟨n3,e3,_,w3⟩:=DataW.trod_int Tryz.underlying3 k2
 injection e0 with e0 _
 injection e1 with e1 _
 injection e2 with e2 _
 injection e3 with e3 _
 subst e0; subst e1; subst e2; subst e3
 exact⟨⟨n0,n1,n2,n3⟩,rfl,bounds_i64 w0,bounds_u8 w1,bounds_u8 w2,bounds_i64 w3⟩
def IneqsIn (w:World) (v:Value):Prop:=∃ A n c xs,v=.slice A n c∧IneqsV w w.heap.size A n c xs∧∀ x∈xs,WfQ x
theorem rd_ineqs {r:Reach} {b0:Nat} {v:Value} {d:DataW H} {ps:List MemPlace} (hval:Value.okWide Tryz.prog w r b0 28 v) (h:DataW.Trod enc Tryz.prog w 0 (fun _=>true) true 28 v d ps):IneqsIn w v:=by
 obtain⟨A,n,c,rfl⟩:=okWide_slice Tryz.underlying28 hval;obtain⟨fuel,hf⟩:=h
 rcases open_slice Tryz.underlying28 hf with ⟨hcs,_⟩ | ⟨a,l,c',m,n',D,Pl,hcs,hb,hl,hm,hmm,hx,hi⟩
 · simp[Value.cells] at hcs
   obtain⟨rfl,rfl,rfl⟩:=hcs
   exact⟨none,0,0,[],rfl,IneqsV.nil,by simp⟩
 · simp[Value.cells] at hcs
   obtain⟨rfl,rfl,rfl⟩:=hcs;simp only[if_true] at hmm;subst hmm
   have hall:∀ i,i<n→∃ x:IneqD,∃ b off,a=⟨b,off,none⟩∧b<w.heap.size∧IneqAt w b (off+i * 4) x∧WfQ x:=by
    intro i hin;obtain⟨cs',hc,ht'⟩:=hi i (by omega)
    rw[show Tryz.prog.cellsOf 70=4 from by kernel_rfl] at hc
    obtain⟨q,rfl,hw⟩:=ineq_cells ht';obtain⟨_,hcl,hat⟩:=World.cells?_some hc;have h0:=hat 0 (by omega);have h1:=hat 1 (by omega);have h2:=hat 2 (by omega);have h3:=hat 3 (by omega);simp only[Go.Deep.add_add] at h0 h1 h2 h3;obtain⟨b,off,sp⟩:=a
    have hs:sp=none:=by
     obtain⟨cs0,hc0,ht0⟩:=hi 0 (by omega)
     rw[show Tryz.prog.cellsOf 70=4 from by kernel_rfl] at hc0
     obtain⟨q0,rfl,_⟩:=ineq_cells ht0;have d0:=(World.cells?_some hc0).2.2 0 (by omega);simp only[Nat.zero_mul,Nat.add_zero,Addr.add,if_true] at d0;exact spot_none d0
    subst hs;rw[addr_add] at h0 h1 h2 h3
    exact⟨q,b,off,rfl,World.block_lt_of_cell? _ _ h0,⟨h0,by rw[Nat.add_assoc]; exact h1,by rw[Nat.add_assoc]; exact h2,by rw[Nat.add_assoc]; exact h3⟩,hw⟩
   obtain⟨f,hf⟩:=choose_lt hall
   refine⟨some a,n,m,(List.range n).map f,rfl,⟨by simp,hl,hm,fun hn=>?_⟩,fun x hx=>?_⟩
   · obtain⟨b,off,rfl,hb,_⟩:=hf 0 hn
     refine⟨b,off,rfl,hb,fun i hi=>?_⟩;rw[List.length_map,List.length_range] at hi;obtain⟨b',off',e,_,h',_⟩:=hf i hi
     injection e with e1 e2 _
     subst e1; subst e2
     simpa using h'
   · obtain⟨i,hi,rfl⟩:=List.mem_map.1 hx
     obtain⟨_,_,_,_,_,hw⟩:=hf i (List.mem_range.1 hi);exact hw
end
end Go.Proofs.YtdmakpmbknindaaGreatDoor
namespace Go.Proofs.YtdmakpmbknindaaGreatDoor
theorem cons_of_len {l:List Value} {n:Nat} (h:l.length=n+1):∃ v t,l=v :: t∧t.length=n:=by
 cases l with
 | nil=>simp at h
 | cons v t=>exact⟨v,t,rfl,by simpa using h⟩
theorem split112 (P:Act→Prop) (a:Act) (k0 k2 k3 k4:Value) (h:a.tmps.size=112) (q0:a.tmps[0]?=some k0) (q2:a.tmps[2]?=some k2) (q3:a.tmps[3]?=some k3) (q4:a.tmps[4]?=some k4) (hd:a.defers=[]) (H:∀ v1 v5 v6 v7 v8 v9 v10 v11 v12 v13 v14 v15 v16 v17 v18 v19 v20 v21 v22 v23 v24 v25 v26 v27 v28 v29 v30 v31 v32 v33 v34 v35 v36 v37 v38 v39 v40 v41 v42 v43 v44 v45 v46 v47 v48 v49 v50 v51 v52 v53 v54 v55 v56 v57 v58 v59 v60 v61 v62 v63 v64 v65 v66 v67 v68 v69 v70 v71 v72 v73 v74 v75 v76 v77 v78 v79 v80 v81 v82 v83 v84 v85 v86 v87 v88 v89 v90 v91 v92 v93 v94 v95 v96 v97 v98 v99 v100 v101 v102 v103 v104 v105 v106 v107 v108 v109 v110 v111:Value,P ⟨#[k0,v1,k2,k3,k4,v5,v6,v7,v8,v9,v10,v11,v12,v13,v14,v15,v16,v17,v18,v19,v20,v21,v22,v23,v24,v25,v26,v27,v28,v29,v30,v31,v32,v33,v34,v35,v36,v37,v38,v39,v40,v41,v42,v43,v44,v45,v46,v47,v48,v49,v50,v51,v52,v53,v54,v55,v56,v57,v58,v59,v60,v61,v62,v63,v64,v65,v66,v67,v68,v69,v70,v71,v72,v73,v74,v75,v76,v77,v78,v79,v80,v81,v82,v83,v84,v85,v86,v87,v88,v89,v90,v91,v92,v93,v94,v95,v96,v97,v98,v99,v100,v101,v102,v103,v104,v105,v106,v107,v108,v109,v110,v111],[]⟩):P a:=by
 obtain⟨tm,df⟩:=a;dsimp only at hd h q0 q2 q3 q4;subst hd;obtain⟨l⟩:=tm;replace h:l.length=112:=h
 replace q0:l[0]?=some k0:=by rw[← qc]; exact q0
 replace q2:l[2]?=some k2:=by rw[← qc]; exact q2
 replace q3:l[3]?=some k3:=by rw[← qc]; exact q3
 replace q4:l[4]?=some k4:=by rw[← qc]; exact q4
 obtain⟨v0,l0,e0,h0⟩:=cons_of_len h;rw[e0,qa] at q2;rw[e0,qa] at q3;rw[e0,qa] at q4;rw[e0,qb] at q0;obtain rfl:=Option.some.inj q0;obtain⟨v1,l1,e1,h1⟩:=cons_of_len h0;rw[e1,qa] at q2;rw[e1,qa] at q3;rw[e1,qa] at q4;obtain⟨v2,l2,e2,h2⟩:=cons_of_len h1;rw[e2,qa] at q3;rw[e2,qa] at q4;rw[e2,qb] at q2;obtain rfl:=Option.some.inj q2;obtain⟨v3,l3,e3,h3⟩:=cons_of_len h2;rw[e3,qa] at q4;rw[e3,qb] at q3;obtain rfl:=Option.some.inj q3;obtain⟨v4,l4,e4,h4⟩:=cons_of_len h3;rw[e4,qb] at q4;obtain rfl:=Option.some.inj q4;obtain⟨v5,l5,e5,h5⟩:=cons_of_len h4;obtain⟨v6,l6,e6,h6⟩:=cons_of_len h5;obtain⟨v7,l7,e7,h7⟩:=cons_of_len h6;obtain⟨v8,l8,e8,h8⟩:=cons_of_len h7;obtain⟨v9,l9,e9,h9⟩:=cons_of_len h8;obtain⟨v10,l10,e10,h10⟩:=cons_of_len h9;obtain⟨v11,l11,e11,h11⟩:=cons_of_len h10;obtain⟨v12,l12,e12,h12⟩:=cons_of_len h11;obtain⟨v13,l13,e13,h13⟩:=cons_of_len h12;obtain⟨v14,l14,e14,h14⟩:=cons_of_len h13;obtain⟨v15,l15,e15,h15⟩:=cons_of_len h14;obtain⟨v16,l16,e16,h16⟩:=cons_of_len h15;obtain⟨v17,l17,e17,h17⟩:=cons_of_len h16;obtain⟨v18,l18,e18,h18⟩:=cons_of_len h17;obtain⟨v19,l19,e19,h19⟩:=cons_of_len h18;obtain⟨v20,l20,e20,h20⟩:=cons_of_len h19;obtain⟨v21,l21,e21,h21⟩:=cons_of_len h20;obtain⟨v22,l22,e22,h22⟩:=cons_of_len h21;obtain⟨v23,l23,e23,h23⟩:=cons_of_len h22;obtain⟨v24,l24,e24,h24⟩:=cons_of_len h23;obtain⟨v25,l25,e25,h25⟩:=cons_of_len h24;obtain⟨v26,l26,e26,h26⟩:=cons_of_len h25;obtain⟨v27,l27,e27,h27⟩:=cons_of_len h26;obtain⟨v28,l28,e28,h28⟩:=cons_of_len h27;obtain⟨v29,l29,e29,h29⟩:=cons_of_len h28;obtain⟨v30,l30,e30,h30⟩:=cons_of_len h29;obtain⟨v31,l31,e31,h31⟩:=cons_of_len h30;obtain⟨v32,l32,e32,h32⟩:=cons_of_len h31;obtain⟨v33,l33,e33,h33⟩:=cons_of_len h32;obtain⟨v34,l34,e34,h34⟩:=cons_of_len h33;obtain⟨v35,l35,e35,h35⟩:=cons_of_len h34;obtain⟨v36,l36,e36,h36⟩:=cons_of_len h35;obtain⟨v37,l37,e37,h37⟩:=cons_of_len h36;obtain⟨v38,l38,e38,h38⟩:=cons_of_len h37;obtain⟨v39,l39,e39,h39⟩:=cons_of_len h38;obtain⟨v40,l40,e40,h40⟩:=cons_of_len h39;obtain⟨v41,l41,e41,h41⟩:=cons_of_len h40;obtain⟨v42,l42,e42,h42⟩:=cons_of_len h41;obtain⟨v43,l43,e43,h43⟩:=cons_of_len h42;obtain⟨v44,l44,e44,h44⟩:=cons_of_len h43;obtain⟨v45,l45,e45,h45⟩:=cons_of_len h44;obtain⟨v46,l46,e46,h46⟩:=cons_of_len h45;obtain⟨v47,l47,e47,h47⟩:=cons_of_len h46;obtain⟨v48,l48,e48,h48⟩:=cons_of_len h47;obtain⟨v49,l49,e49,h49⟩:=cons_of_len h48;obtain⟨v50,l50,e50,h50⟩:=cons_of_len h49;obtain⟨v51,l51,e51,h51⟩:=cons_of_len h50;obtain⟨v52,l52,e52,h52⟩:=cons_of_len h51;obtain⟨v53,l53,e53,h53⟩:=cons_of_len h52;obtain⟨v54,l54,e54,h54⟩:=cons_of_len h53;obtain⟨v55,l55,e55,h55⟩:=cons_of_len h54;obtain⟨v56,l56,e56,h56⟩:=cons_of_len h55;obtain⟨v57,l57,e57,h57⟩:=cons_of_len h56;obtain⟨v58,l58,e58,h58⟩:=cons_of_len h57;obtain⟨v59,l59,e59,h59⟩:=cons_of_len h58;obtain⟨v60,l60,e60,h60⟩:=cons_of_len h59;obtain⟨v61,l61,e61,h61⟩:=cons_of_len h60;obtain⟨v62,l62,e62,h62⟩:=cons_of_len h61;obtain⟨v63,l63,e63,h63⟩:=cons_of_len h62;obtain⟨v64,l64,e64,h64⟩:=cons_of_len h63;obtain⟨v65,l65,e65,h65⟩:=cons_of_len h64
 obtain⟨v66,l66,e66,h66⟩:=cons_of_len h65;obtain⟨v67,l67,e67,h67⟩:=cons_of_len h66;obtain⟨v68,l68,e68,h68⟩:=cons_of_len h67;obtain⟨v69,l69,e69,h69⟩:=cons_of_len h68;obtain⟨v70,l70,e70,h70⟩:=cons_of_len h69;obtain⟨v71,l71,e71,h71⟩:=cons_of_len h70;obtain⟨v72,l72,e72,h72⟩:=cons_of_len h71;obtain⟨v73,l73,e73,h73⟩:=cons_of_len h72;obtain⟨v74,l74,e74,h74⟩:=cons_of_len h73;obtain⟨v75,l75,e75,h75⟩:=cons_of_len h74;obtain⟨v76,l76,e76,h76⟩:=cons_of_len h75;obtain⟨v77,l77,e77,h77⟩:=cons_of_len h76;obtain⟨v78,l78,e78,h78⟩:=cons_of_len h77;obtain⟨v79,l79,e79,h79⟩:=cons_of_len h78;obtain⟨v80,l80,e80,h80⟩:=cons_of_len h79;obtain⟨v81,l81,e81,h81⟩:=cons_of_len h80;obtain⟨v82,l82,e82,h82⟩:=cons_of_len h81;obtain⟨v83,l83,e83,h83⟩:=cons_of_len h82;obtain⟨v84,l84,e84,h84⟩:=cons_of_len h83;obtain⟨v85,l85,e85,h85⟩:=cons_of_len h84;obtain⟨v86,l86,e86,h86⟩:=cons_of_len h85;obtain⟨v87,l87,e87,h87⟩:=cons_of_len h86;obtain⟨v88,l88,e88,h88⟩:=cons_of_len h87;obtain⟨v89,l89,e89,h89⟩:=cons_of_len h88;obtain⟨v90,l90,e90,h90⟩:=cons_of_len h89;obtain⟨v91,l91,e91,h91⟩:=cons_of_len h90;obtain⟨v92,l92,e92,h92⟩:=cons_of_len h91;obtain⟨v93,l93,e93,h93⟩:=cons_of_len h92;obtain⟨v94,l94,e94,h94⟩:=cons_of_len h93;obtain⟨v95,l95,e95,h95⟩:=cons_of_len h94;obtain⟨v96,l96,e96,h96⟩:=cons_of_len h95;obtain⟨v97,l97,e97,h97⟩:=cons_of_len h96;obtain⟨v98,l98,e98,h98⟩:=cons_of_len h97;obtain⟨v99,l99,e99,h99⟩:=cons_of_len h98;obtain⟨v100,l100,e100,h100⟩:=cons_of_len h99;obtain⟨v101,l101,e101,h101⟩:=cons_of_len h100;obtain⟨v102,l102,e102,h102⟩:=cons_of_len h101;obtain⟨v103,l103,e103,h103⟩:=cons_of_len h102;obtain⟨v104,l104,e104,h104⟩:=cons_of_len h103;obtain⟨v105,l105,e105,h105⟩:=cons_of_len h104;obtain⟨v106,l106,e106,h106⟩:=cons_of_len h105;obtain⟨v107,l107,e107,h107⟩:=cons_of_len h106;obtain⟨v108,l108,e108,h108⟩:=cons_of_len h107;obtain⟨v109,l109,e109,h109⟩:=cons_of_len h108;obtain⟨v110,l110,e110,h110⟩:=cons_of_len h109;obtain⟨v111,l111,e111,h111⟩:=cons_of_len h110;have e:l111=[]:=List.eq_nil_of_length_eq_zero h111;rw[e0,e1,e2,e3,e4,e5,e6,e7,e8,e9,e10,e11,e12,e13,e14,e15,e16,e17,e18,e19,e20,e21,e22,e23,e24,e25,e26,e27,e28,e29,e30,e31,e32,e33,e34,e35,e36,e37,e38,e39,e40,e41,e42,e43,e44,e45,e46,e47,e48,e49,e50,e51,e52,e53,e54,e55,e56,e57,e58,e59,e60,e61,e62,e63,e64,e65,e66,e67,e68,e69,e70,e71,e72,e73,e74,e75,e76,e77,e78,e79,e80,e81,e82,e83,e84,e85,e86,e87,e88,e89,e90,e91,e92,e93,e94,e95,e96,e97,e98,e99,e100,e101,e102,e103,e104,e105,e106,e107,e108,e109,e110,e111,e];exact H v1 v5 v6 v7 v8 v9 v10 v11 v12 v13 v14 v15 v16 v17 v18 v19 v20 v21 v22 v23 v24 v25 v26 v27 v28 v29 v30 v31 v32 v33 v34 v35 v36 v37 v38 v39 v40 v41 v42 v43 v44 v45 v46 v47 v48 v49 v50 v51 v52 v53 v54 v55 v56 v57 v58 v59 v60 v61 v62 v63 v64 v65 v66 v67 v68 v69 v70 v71 v72 v73 v74 v75 v76 v77 v78 v79 v80 v81 v82 v83 v84 v85 v86 v87 v88 v89 v90 v91 v92 v93 v94 v95 v96 v97 v98 v99 v100 v101 v102 v103 v104 v105 v106 v107 v108 v109 v110 v111
theorem split97 (P:Act→Prop) (a:Act) (k1 k2 k3 k6 k7 k8 k45 k46 k48 k51 k53:Value) (h:a.tmps.size=97) (q1:a.tmps[1]?=some k1) (q2:a.tmps[2]?=some k2) (q3:a.tmps[3]?=some k3) (q6:a.tmps[6]?=some k6) (q7:a.tmps[7]?=some k7) (q8:a.tmps[8]?=some k8) (q45:a.tmps[45]?=some k45) (q46:a.tmps[46]?=some k46) (q48:a.tmps[48]?=some k48) (q51:a.tmps[51]?=some k51) (q53:a.tmps[53]?=some k53) (hd:a.defers=[]) (H:∀ v0 v4 v5 v9 v10 v11 v12 v13 v14 v15 v16 v17 v18 v19 v20 v21 v22 v23 v24 v25 v26 v27 v28 v29 v30 v31 v32 v33 v34 v35 v36 v37 v38 v39 v40 v41 v42 v43 v44 v47 v49 v50 v52 v54 v55 v56 v57 v58 v59 v60 v61 v62 v63 v64 v65 v66 v67 v68 v69 v70 v71 v72 v73 v74 v75 v76 v77 v78 v79 v80 v81 v82 v83 v84 v85 v86 v87 v88 v89 v90 v91 v92 v93 v94 v95 v96:Value,P ⟨#[v0,k1,k2,k3,v4,v5,k6,k7,k8,v9,v10,v11,v12,v13,v14,v15,v16,v17,v18,v19,v20,v21,v22,v23,v24,v25,v26,v27,v28,v29,v30,v31,v32,v33,v34,v35,v36,v37,v38,v39,v40,v41,v42,v43,v44,k45,k46,v47,k48,v49,v50,k51,v52,k53,v54,v55,v56,v57,v58,v59,v60,v61,v62,v63,v64,v65,v66,v67,v68,v69,v70,v71,v72,v73,v74,v75,v76,v77,v78,v79,v80,v81,v82,v83,v84,v85,v86,v87,v88,v89,v90,v91,v92,v93,v94,v95,v96],[]⟩):P a:=by
 obtain⟨tm,df⟩:=a;dsimp only at hd h q1 q2 q3 q6 q7 q8 q45 q46 q48 q51 q53;subst hd;obtain⟨l⟩:=tm;replace h:l.length=97:=h
 replace q1:l[1]?=some k1:=by rw[← qc]; exact q1
 replace q2:l[2]?=some k2:=by rw[← qc]; exact q2
 replace q3:l[3]?=some k3:=by rw[← qc]; exact q3
 replace q6:l[6]?=some k6:=by rw[← qc]; exact q6
 replace q7:l[7]?=some k7:=by rw[← qc]; exact q7
 replace q8:l[8]?=some k8:=by rw[← qc]; exact q8
 replace q45:l[45]?=some k45:=by rw[← qc]; exact q45
 replace q46:l[46]?=some k46:=by rw[← qc]; exact q46
 replace q48:l[48]?=some k48:=by rw[← qc]; exact q48
 replace q51:l[51]?=some k51:=by rw[← qc]; exact q51
 replace q53:l[53]?=some k53:=by rw[← qc]; exact q53
 obtain⟨v0,l0,e0,h0⟩:=cons_of_len h;rw[e0,qa] at q1;rw[e0,qa] at q2;rw[e0,qa] at q3;rw[e0,qa] at q6;rw[e0,qa] at q7;rw[e0,qa] at q8;rw[e0,qa] at q45;rw[e0,qa] at q46;rw[e0,qa] at q48;rw[e0,qa] at q51;rw[e0,qa] at q53;obtain⟨v1,l1,e1,h1⟩:=cons_of_len h0;rw[e1,qa] at q2;rw[e1,qa] at q3;rw[e1,qa] at q6;rw[e1,qa] at q7;rw[e1,qa] at q8;rw[e1,qa] at q45;rw[e1,qa] at q46;rw[e1,qa] at q48;rw[e1,qa] at q51;rw[e1,qa] at q53;rw[e1,qb] at q1;obtain rfl:=Option.some.inj q1;obtain⟨v2,l2,e2,h2⟩:=cons_of_len h1;rw[e2,qa] at q3;rw[e2,qa] at q6;rw[e2,qa] at q7;rw[e2,qa] at q8;rw[e2,qa] at q45;rw[e2,qa] at q46;rw[e2,qa] at q48;rw[e2,qa] at q51;rw[e2,qa] at q53;rw[e2,qb] at q2;obtain rfl:=Option.some.inj q2;obtain⟨v3,l3,e3,h3⟩:=cons_of_len h2;rw[e3,qa] at q6;rw[e3,qa] at q7;rw[e3,qa] at q8;rw[e3,qa] at q45;rw[e3,qa] at q46;rw[e3,qa] at q48;rw[e3,qa] at q51;rw[e3,qa] at q53;rw[e3,qb] at q3;obtain rfl:=Option.some.inj q3;obtain⟨v4,l4,e4,h4⟩:=cons_of_len h3;rw[e4,qa] at q6;rw[e4,qa] at q7;rw[e4,qa] at q8;rw[e4,qa] at q45;rw[e4,qa] at q46;rw[e4,qa] at q48;rw[e4,qa] at q51;rw[e4,qa] at q53;obtain⟨v5,l5,e5,h5⟩:=cons_of_len h4;rw[e5,qa] at q6;rw[e5,qa] at q7;rw[e5,qa] at q8;rw[e5,qa] at q45;rw[e5,qa] at q46;rw[e5,qa] at q48;rw[e5,qa] at q51;rw[e5,qa] at q53;obtain⟨v6,l6,e6,h6⟩:=cons_of_len h5;rw[e6,qa] at q7;rw[e6,qa] at q8;rw[e6,qa] at q45;rw[e6,qa] at q46;rw[e6,qa] at q48;rw[e6,qa] at q51;rw[e6,qa] at q53;rw[e6,qb] at q6;obtain rfl:=Option.some.inj q6;obtain⟨v7,l7,e7,h7⟩:=cons_of_len h6;rw[e7,qa] at q8;rw[e7,qa] at q45;rw[e7,qa] at q46;rw[e7,qa] at q48;rw[e7,qa] at q51;rw[e7,qa] at q53;rw[e7,qb] at q7;obtain rfl:=Option.some.inj q7;obtain⟨v8,l8,e8,h8⟩:=cons_of_len h7;rw[e8,qa] at q45;rw[e8,qa] at q46;rw[e8,qa] at q48;rw[e8,qa] at q51;rw[e8,qa] at q53;rw[e8,qb] at q8;obtain rfl:=Option.some.inj q8;obtain⟨v9,l9,e9,h9⟩:=cons_of_len h8;rw[e9,qa] at q45;rw[e9,qa] at q46;rw[e9,qa] at q48;rw[e9,qa] at q51;rw[e9,qa] at q53;obtain⟨v10,l10,e10,h10⟩:=cons_of_len h9;rw[e10,qa] at q45;rw[e10,qa] at q46;rw[e10,qa] at q48;rw[e10,qa] at q51;rw[e10,qa] at q53;obtain⟨v11,l11,e11,h11⟩:=cons_of_len h10;rw[e11,qa] at q45;rw[e11,qa] at q46;rw[e11,qa] at q48;rw[e11,qa] at q51;rw[e11,qa] at q53;obtain⟨v12,l12,e12,h12⟩:=cons_of_len h11;rw[e12,qa] at q45;rw[e12,qa] at q46;rw[e12,qa] at q48;rw[e12,qa] at q51;rw[e12,qa] at q53;obtain⟨v13,l13,e13,h13⟩:=cons_of_len h12;rw[e13,qa] at q45;rw[e13,qa] at q46;rw[e13,qa] at q48;rw[e13,qa] at q51;rw[e13,qa] at q53;obtain⟨v14,l14,e14,h14⟩:=cons_of_len h13;rw[e14,qa] at q45;rw[e14,qa] at q46;rw[e14,qa] at q48;rw[e14,qa] at q51;rw[e14,qa] at q53;obtain⟨v15,l15,e15,h15⟩:=cons_of_len h14;rw[e15,qa] at q45;rw[e15,qa] at q46;rw[e15,qa] at q48;rw[e15,qa] at q51;rw[e15,qa] at q53;obtain⟨v16,l16,e16,h16⟩:=cons_of_len h15;rw[e16,qa] at q45;rw[e16,qa] at q46;rw[e16,qa] at q48;rw[e16,qa] at q51;rw[e16,qa] at q53;obtain⟨v17,l17,e17,h17⟩:=cons_of_len h16;rw[e17,qa] at q45;rw[e17,qa] at q46;rw[e17,qa] at q48;rw[e17,qa] at q51;rw[e17,qa] at q53
 obtain⟨v18,l18,e18,h18⟩:=cons_of_len h17;rw[e18,qa] at q45;rw[e18,qa] at q46;rw[e18,qa] at q48;rw[e18,qa] at q51;rw[e18,qa] at q53;obtain⟨v19,l19,e19,h19⟩:=cons_of_len h18;rw[e19,qa] at q45;rw[e19,qa] at q46;rw[e19,qa] at q48;rw[e19,qa] at q51;rw[e19,qa] at q53;obtain⟨v20,l20,e20,h20⟩:=cons_of_len h19;rw[e20,qa] at q45;rw[e20,qa] at q46;rw[e20,qa] at q48;rw[e20,qa] at q51;rw[e20,qa] at q53;obtain⟨v21,l21,e21,h21⟩:=cons_of_len h20;rw[e21,qa] at q45;rw[e21,qa] at q46;rw[e21,qa] at q48;rw[e21,qa] at q51;rw[e21,qa] at q53;obtain⟨v22,l22,e22,h22⟩:=cons_of_len h21;rw[e22,qa] at q45;rw[e22,qa] at q46;rw[e22,qa] at q48;rw[e22,qa] at q51;rw[e22,qa] at q53;obtain⟨v23,l23,e23,h23⟩:=cons_of_len h22;rw[e23,qa] at q45;rw[e23,qa] at q46;rw[e23,qa] at q48;rw[e23,qa] at q51;rw[e23,qa] at q53;obtain⟨v24,l24,e24,h24⟩:=cons_of_len h23;rw[e24,qa] at q45;rw[e24,qa] at q46;rw[e24,qa] at q48;rw[e24,qa] at q51;rw[e24,qa] at q53;obtain⟨v25,l25,e25,h25⟩:=cons_of_len h24;rw[e25,qa] at q45;rw[e25,qa] at q46;rw[e25,qa] at q48;rw[e25,qa] at q51;rw[e25,qa] at q53;obtain⟨v26,l26,e26,h26⟩:=cons_of_len h25;rw[e26,qa] at q45;rw[e26,qa] at q46;rw[e26,qa] at q48;rw[e26,qa] at q51;rw[e26,qa] at q53;obtain⟨v27,l27,e27,h27⟩:=cons_of_len h26;rw[e27,qa] at q45;rw[e27,qa] at q46;rw[e27,qa] at q48;rw[e27,qa] at q51;rw[e27,qa] at q53;obtain⟨v28,l28,e28,h28⟩:=cons_of_len h27;rw[e28,qa] at q45;rw[e28,qa] at q46;rw[e28,qa] at q48;rw[e28,qa] at q51;rw[e28,qa] at q53;obtain⟨v29,l29,e29,h29⟩:=cons_of_len h28;rw[e29,qa] at q45;rw[e29,qa] at q46;rw[e29,qa] at q48;rw[e29,qa] at q51;rw[e29,qa] at q53;obtain⟨v30,l30,e30,h30⟩:=cons_of_len h29;rw[e30,qa] at q45;rw[e30,qa] at q46;rw[e30,qa] at q48;rw[e30,qa] at q51;rw[e30,qa] at q53;obtain⟨v31,l31,e31,h31⟩:=cons_of_len h30;rw[e31,qa] at q45;rw[e31,qa] at q46;rw[e31,qa] at q48;rw[e31,qa] at q51;rw[e31,qa] at q53;obtain⟨v32,l32,e32,h32⟩:=cons_of_len h31;rw[e32,qa] at q45;rw[e32,qa] at q46;rw[e32,qa] at q48;rw[e32,qa] at q51;rw[e32,qa] at q53;obtain⟨v33,l33,e33,h33⟩:=cons_of_len h32;rw[e33,qa] at q45;rw[e33,qa] at q46;rw[e33,qa] at q48;rw[e33,qa] at q51;rw[e33,qa] at q53;obtain⟨v34,l34,e34,h34⟩:=cons_of_len h33;rw[e34,qa] at q45;rw[e34,qa] at q46;rw[e34,qa] at q48;rw[e34,qa] at q51;rw[e34,qa] at q53;obtain⟨v35,l35,e35,h35⟩:=cons_of_len h34;rw[e35,qa] at q45;rw[e35,qa] at q46;rw[e35,qa] at q48;rw[e35,qa] at q51;rw[e35,qa] at q53;obtain⟨v36,l36,e36,h36⟩:=cons_of_len h35;rw[e36,qa] at q45;rw[e36,qa] at q46;rw[e36,qa] at q48;rw[e36,qa] at q51;rw[e36,qa] at q53;obtain⟨v37,l37,e37,h37⟩:=cons_of_len h36;rw[e37,qa] at q45;rw[e37,qa] at q46;rw[e37,qa] at q48;rw[e37,qa] at q51;rw[e37,qa] at q53;obtain⟨v38,l38,e38,h38⟩:=cons_of_len h37;rw[e38,qa] at q45;rw[e38,qa] at q46;rw[e38,qa] at q48;rw[e38,qa] at q51;rw[e38,qa] at q53;obtain⟨v39,l39,e39,h39⟩:=cons_of_len h38;rw[e39,qa] at q45;rw[e39,qa] at q46;rw[e39,qa] at q48;rw[e39,qa] at q51;rw[e39,qa] at q53;obtain⟨v40,l40,e40,h40⟩:=cons_of_len h39;rw[e40,qa] at q45;rw[e40,qa] at q46;rw[e40,qa] at q48;rw[e40,qa] at q51
 rw[e40,qa] at q53;obtain⟨v41,l41,e41,h41⟩:=cons_of_len h40;rw[e41,qa] at q45;rw[e41,qa] at q46;rw[e41,qa] at q48;rw[e41,qa] at q51;rw[e41,qa] at q53;obtain⟨v42,l42,e42,h42⟩:=cons_of_len h41;rw[e42,qa] at q45;rw[e42,qa] at q46;rw[e42,qa] at q48;rw[e42,qa] at q51;rw[e42,qa] at q53;obtain⟨v43,l43,e43,h43⟩:=cons_of_len h42;rw[e43,qa] at q45;rw[e43,qa] at q46;rw[e43,qa] at q48;rw[e43,qa] at q51;rw[e43,qa] at q53;obtain⟨v44,l44,e44,h44⟩:=cons_of_len h43;rw[e44,qa] at q45;rw[e44,qa] at q46;rw[e44,qa] at q48;rw[e44,qa] at q51;rw[e44,qa] at q53;obtain⟨v45,l45,e45,h45⟩:=cons_of_len h44;rw[e45,qa] at q46;rw[e45,qa] at q48;rw[e45,qa] at q51;rw[e45,qa] at q53;rw[e45,qb] at q45;obtain rfl:=Option.some.inj q45;obtain⟨v46,l46,e46,h46⟩:=cons_of_len h45;rw[e46,qa] at q48;rw[e46,qa] at q51;rw[e46,qa] at q53;rw[e46,qb] at q46;obtain rfl:=Option.some.inj q46;obtain⟨v47,l47,e47,h47⟩:=cons_of_len h46;rw[e47,qa] at q48;rw[e47,qa] at q51;rw[e47,qa] at q53;obtain⟨v48,l48,e48,h48⟩:=cons_of_len h47;rw[e48,qa] at q51;rw[e48,qa] at q53;rw[e48,qb] at q48;obtain rfl:=Option.some.inj q48;obtain⟨v49,l49,e49,h49⟩:=cons_of_len h48;rw[e49,qa] at q51;rw[e49,qa] at q53;obtain⟨v50,l50,e50,h50⟩:=cons_of_len h49;rw[e50,qa] at q51;rw[e50,qa] at q53;obtain⟨v51,l51,e51,h51⟩:=cons_of_len h50;rw[e51,qa] at q53;rw[e51,qb] at q51;obtain rfl:=Option.some.inj q51;obtain⟨v52,l52,e52,h52⟩:=cons_of_len h51;rw[e52,qa] at q53;obtain⟨v53,l53,e53,h53⟩:=cons_of_len h52;rw[e53,qb] at q53;obtain rfl:=Option.some.inj q53;obtain⟨v54,l54,e54,h54⟩:=cons_of_len h53;obtain⟨v55,l55,e55,h55⟩:=cons_of_len h54;obtain⟨v56,l56,e56,h56⟩:=cons_of_len h55;obtain⟨v57,l57,e57,h57⟩:=cons_of_len h56;obtain⟨v58,l58,e58,h58⟩:=cons_of_len h57;obtain⟨v59,l59,e59,h59⟩:=cons_of_len h58;obtain⟨v60,l60,e60,h60⟩:=cons_of_len h59;obtain⟨v61,l61,e61,h61⟩:=cons_of_len h60;obtain⟨v62,l62,e62,h62⟩:=cons_of_len h61;obtain⟨v63,l63,e63,h63⟩:=cons_of_len h62;obtain⟨v64,l64,e64,h64⟩:=cons_of_len h63;obtain⟨v65,l65,e65,h65⟩:=cons_of_len h64;obtain⟨v66,l66,e66,h66⟩:=cons_of_len h65;obtain⟨v67,l67,e67,h67⟩:=cons_of_len h66;obtain⟨v68,l68,e68,h68⟩:=cons_of_len h67;obtain⟨v69,l69,e69,h69⟩:=cons_of_len h68;obtain⟨v70,l70,e70,h70⟩:=cons_of_len h69;obtain⟨v71,l71,e71,h71⟩:=cons_of_len h70;obtain⟨v72,l72,e72,h72⟩:=cons_of_len h71;obtain⟨v73,l73,e73,h73⟩:=cons_of_len h72;obtain⟨v74,l74,e74,h74⟩:=cons_of_len h73;obtain⟨v75,l75,e75,h75⟩:=cons_of_len h74;obtain⟨v76,l76,e76,h76⟩:=cons_of_len h75;obtain⟨v77,l77,e77,h77⟩:=cons_of_len h76;obtain⟨v78,l78,e78,h78⟩:=cons_of_len h77;obtain⟨v79,l79,e79,h79⟩:=cons_of_len h78;obtain⟨v80,l80,e80,h80⟩:=cons_of_len h79;obtain⟨v81,l81,e81,h81⟩:=cons_of_len h80;obtain⟨v82,l82,e82,h82⟩:=cons_of_len h81;obtain⟨v83,l83,e83,h83⟩:=cons_of_len h82;obtain⟨v84,l84,e84,h84⟩:=cons_of_len h83;obtain⟨v85,l85,e85,h85⟩:=cons_of_len h84;obtain⟨v86,l86,e86,h86⟩:=cons_of_len h85;obtain⟨v87,l87,e87,h87⟩:=cons_of_len h86;obtain⟨v88,l88,e88,h88⟩:=cons_of_len h87;obtain⟨v89,l89,e89,h89⟩:=cons_of_len h88
 obtain⟨v90,l90,e90,h90⟩:=cons_of_len h89;obtain⟨v91,l91,e91,h91⟩:=cons_of_len h90;obtain⟨v92,l92,e92,h92⟩:=cons_of_len h91;obtain⟨v93,l93,e93,h93⟩:=cons_of_len h92;obtain⟨v94,l94,e94,h94⟩:=cons_of_len h93;obtain⟨v95,l95,e95,h95⟩:=cons_of_len h94;obtain⟨v96,l96,e96,h96⟩:=cons_of_len h95;have e:l96=[]:=List.eq_nil_of_length_eq_zero h96;rw[e0,e1,e2,e3,e4,e5,e6,e7,e8,e9,e10,e11,e12,e13,e14,e15,e16,e17,e18,e19,e20,e21,e22,e23,e24,e25,e26,e27,e28,e29,e30,e31,e32,e33,e34,e35,e36,e37,e38,e39,e40,e41,e42,e43,e44,e45,e46,e47,e48,e49,e50,e51,e52,e53,e54,e55,e56,e57,e58,e59,e60,e61,e62,e63,e64,e65,e66,e67,e68,e69,e70,e71,e72,e73,e74,e75,e76,e77,e78,e79,e80,e81,e82,e83,e84,e85,e86,e87,e88,e89,e90,e91,e92,e93,e94,e95,e96,e];exact H v0 v4 v5 v9 v10 v11 v12 v13 v14 v15 v16 v17 v18 v19 v20 v21 v22 v23 v24 v25 v26 v27 v28 v29 v30 v31 v32 v33 v34 v35 v36 v37 v38 v39 v40 v41 v42 v43 v44 v47 v49 v50 v52 v54 v55 v56 v57 v58 v59 v60 v61 v62 v63 v64 v65 v66 v67 v68 v69 v70 v71 v72 v73 v74 v75 v76 v77 v78 v79 v80 v81 v82 v83 v84 v85 v86 v87 v88 v89 v90 v91 v92 v93 v94 v95 v96
end Go.Proofs.YtdmakpmbknindaaGreatDoor
