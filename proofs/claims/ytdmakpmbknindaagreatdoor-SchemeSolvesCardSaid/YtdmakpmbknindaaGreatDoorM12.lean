import Derived.Test.YtdmakpmbknindaaGreatDoorM11
set_option linter.unusedVariables false
set_option linter.unusedSimpArgs false
set_option maxHeartbeats 4000000
set_option maxRecDepth 100000
namespace Go.Proofs.YtdmakpmbknindaaGreatDoor
open Go.RowKit
def low0 (n:Int) (low:List Int):List Int:=if low=[] then List.replicate n.toNat 1 else low
structure OkS (n:Int) (low:List Int) (xs:List IneqD):Prop where
 n0:0≤n
 len:low=[]∨(low.length:Int)=n
 may:∀ x∈xs,mayL x n=true
 rng:∀ z∈low,1≤z∧z≤3
def SolveR (n:Int) (low:List Int) (xs:List IneqD) (a core:List Int) (e:Int):Prop:=
 ((1048576<n∨1048576<xs.length)∧a=[]∧core=[]∧e=3) ∨
 (n≤1048576∧xs.length≤1048576∧¬ OkS n low xs∧a=[]∧core=[]∧e=2) ∨
 (n≤1048576∧xs.length≤1048576∧OkS n low xs∧∃ is why,EndL xs (low0 n low) is why ∧
   ((∃ i x l,xs[i]?=some x∧x.r<0∧x.c<leftL is x∧ChainL xs (low0 n low) why x x.c l∧a=[]∧core=(natI (i :: l)).mergeSort (fun a b=>decide (a≤b))∧e=40) ∨
    ((∀ x∈xs,x.r<0→leftL is x≤x.c)∧a=is∧core=[]∧e=0)))
def SolvePost (n:Int) (low:List Int) (xs:List IneqD) (w:World) (e:Ending) (w':World):Prop:=
 ∃ A m c A2 m2 c2 a core er,e=.returned (.tuple #[.slice A m c,.slice A2 m2 c2,.int .i64 er])∧RdI .u8 w' w'.heap.size A m c a∧RdI .i64 w' w'.heap.size A2 m2 c2 core∧SolveR n low xs a core er∧Below w.heap.size w w'
theorem OverL.of_may {x:IneqD} {n:Nat} (h:mayL x (n:Int)=true):OverL n x:=by
 unfold mayL at h;simp only[Bool.and_eq_true,Bool.or_eq_true,bne_iff_ne,ne_eq,decide_eq_true_eq] at h;obtain⟨⟨h1,h2⟩,h3⟩:=h;unfold mayX mayQ isB oneB at h1;simp only[Bool.and_eq_true,Bool.or_eq_true,decide_eq_true_eq,beq_iff_eq] at h1;refine⟨fun h0=>?_,h3,?_⟩
 · rcases h2 with h2 | h2
   · exact absurd h0 h2
   · rcases h1.1.1.1.1 with q | q
     · omega
     · omega
 · rcases h1.1.1.1.1 with q | q
   · omega
   · omega
theorem solve_any (n:Int) (Aw:Option Addr) (nw cw:Nat) (low:List Int) (Al:Option Addr) (nl cl:Nat) (xs:List IneqD) (w:World) (hlw:RdI .u8 w w.heap.size Aw nw cw low) (hx:IneqsV w w.heap.size Al nl cl xs):
 Calls Tryz.prog 33 #[.int .i64 n,.slice Aw nw cw,.slice Al nl cl] w (SolvePost n low xs w):=by
 have hll:=hlw.len;have hxl:=hx.len;have hb0:=below_box (w:=w) (Obj.cells #[.int .i64 n] 3);have hN:=blk_new w #[.int .i64 n] 3;have y0:(w.alloc (Obj.cells #[.int .i64 n] 3)).cell? ⟨w.heap.size,0,none⟩=some (.int .i64 n):=hN.cell 0
 by_cases h1:n>1048576
 · have d1:decide (n>1048576)=true:=by simp; omega
   have hR:SolveR n low xs [] [] 3:=Or.inl ⟨Or.inl (by omega),rfl,rfl,rfl⟩;clear h1;have HR:=qq hR;have Hb:=qq hb0;clear hR hN hb0 hlw hx
   go_enter Tryz.func33,Tryz.ntmps33
   go_wp2_with fail;exact bodyPost_ret (v:=.tuple #[.slice none 0 0,.slice none 0 0,.int .i64 3]) (by simp[results,Tryz.results33,go_sem]) rfl ⟨_,_,_,_,_,_,_,_,_,rfl,RdI.nil,RdI.nil,HR.out,Hb.out⟩
 · have d1:decide (n>1048576)=false:=by simp; omega
   by_cases h2:nl>1048576
   · have d2:decide ((nl:Int)>1048576)=true:=by simp; omega
     have hR:SolveR n low xs [] [] 3:=Or.inl ⟨Or.inr (by omega),rfl,rfl,rfl⟩;clear h1 h2;have HR:=qq hR;have Hb:=qq hb0;clear hR hN hb0 hlw hx
     go_enter Tryz.func33,Tryz.ntmps33
     go_wp2_with fail;exact bodyPost_ret (v:=.tuple #[.slice none 0 0,.slice none 0 0,.int .i64 3]) (by simp[results,Tryz.results33,go_sem]) rfl ⟨_,_,_,_,_,_,_,_,_,rfl,RdI.nil,RdI.nil,HR.out,Hb.out⟩
   · have d2:decide ((nl:Int)>1048576)=false:=by simp; omega
     by_cases h3:n<0
     · have d3:decide (n<0)=true:=by simp; omega
       have hR:SolveR n low xs [] [] 2:=Or.inr (Or.inl ⟨by omega,by omega,fun h=>by have:=h.n0; omega,rfl,rfl,rfl⟩)
       clear h1 h2 h3;have HR:=qq hR;have Hb:=qq hb0;clear hR hN hb0 hlw hx
       go_enter Tryz.func33,Tryz.ntmps33
       go_wp2_with fail;exact bodyPost_ret (v:=.tuple #[.slice none 0 0,.slice none 0 0,.int .i64 2]) (by simp[results,Tryz.results33,go_sem]) rfl ⟨_,_,_,_,_,_,_,_,_,rfl,RdI.nil,RdI.nil,HR.out,Hb.out⟩
     · have d3:decide (n<0)=false:=by simp; omega
       by_cases h4:0<nw∧(nw:Int)≠n
       · have d4:decide ((nw:Int)>0)=true:=by simp; omega
         have d4':0<nw:=by omega
         have d5:((nw:Int) != n)=true:=by simp; omega
         have hR:SolveR n low xs [] [] 2:=Or.inr (Or.inl ⟨by omega,by omega,fun h=>by rcases h.len with e | e; (rw[e] at hll; simp at hll; omega); omega,rfl,rfl,rfl⟩)
         clear h1 h2 h3 h4;have HR:=qq hR;have Hb:=qq hb0;clear hR hN hb0 hlw hx
         go_enter Tryz.func33,Tryz.ntmps33
         go_wp2_with fail;exact bodyPost_ret (v:=.tuple #[.slice none 0 0,.slice none 0 0,.int .i64 2]) (by simp[results,Tryz.results33,go_sem]) rfl ⟨_,_,_,_,_,_,_,_,_,rfl,RdI.nil,RdI.nil,HR.out,Hb.out⟩
       · have hco:=containsL_any w.heap.size n Al nl cl xs (w.alloc (Obj.cells #[.int .i64 n] 3)) ((hx.below hb0).more hb0.size) y0
         have Hco:=qq hco;clear hco
         cases hm:xs.any (fun x=>!mayL x n) with
         | true=>
           have hR:SolveR n low xs [] [] 2:=Or.inr (Or.inl ⟨by omega,by omega,fun h=>(by obtain⟨x,hx1,hx2⟩:=List.any_eq_true.1 hm; rw[h.may x hx1] at hx2; cases hx2),rfl,rfl,rfl⟩)
           by_cases h5:nw=0
           · have d4:decide ((nw:Int)>0)=false:=by simp; omega
             clear h1 h2 h3 h4;have HR:=qq hR;have Hb:=qq hb0;have Hm:=qq hm;clear hR hN hb0 hlw hx hm
             go_enter Tryz.func33,Tryz.ntmps33
             go_wp2_with fail;refine Hco.out.mono ?_;rintro e w1 ⟨rfl,hb1⟩;rw[Hm.out];have hb9:=Hb.out.trans (hb1.mono Hb.out.size);go_wp2_with fail;exact bodyPost_ret (v:=.tuple #[.slice none 0 0,.slice none 0 0,.int .i64 2]) (by simp[results,Tryz.results33,go_sem]) rfl ⟨_,_,_,_,_,_,_,_,_,rfl,RdI.nil,RdI.nil,HR.out,hb9⟩
           · have d4:decide ((nw:Int)>0)=true:=by simp; omega
             have d4':0<nw:=by omega
             have d5:((nw:Int) != n)=false:=by simp; omega
             clear h1 h2 h3 h4;have HR:=qq hR;have Hb:=qq hb0;have Hm:=qq hm;clear hR hN hb0 hlw hx hm
             go_enter Tryz.func33,Tryz.ntmps33
             go_wp2_with fail;refine Hco.out.mono ?_;rintro e w1 ⟨rfl,hb1⟩;rw[Hm.out];have hb9:=Hb.out.trans (hb1.mono Hb.out.size);go_wp2_with fail;exact bodyPost_ret (v:=.tuple #[.slice none 0 0,.slice none 0 0,.int .i64 2]) (by simp[results,Tryz.results33,go_sem]) rfl ⟨_,_,_,_,_,_,_,_,_,rfl,RdI.nil,RdI.nil,HR.out,hb9⟩
         | false=>
           obtain⟨N,rfl⟩:∃ N:Nat,n=(N:Int):=⟨n.toNat,(Int.toNat_of_nonneg (by omega)).symm⟩
           have hmay:∀ x∈xs,mayL x (N:Int)=true:=fun x hx=>by
            have:=List.any_eq_false.1 hm x hx
            simpa using this
           have Hm:=qq hm;have Hmay:=qq hmay;have Hx:=qq hx;have Hlw:=qq hlw;have Hb:=qq hb0;clear hm hmay hx hlw hb0 hN
           have hN20:N≤1048576:=by omega
           have hnl20:nl≤1048576:=by omega
           clear h1 h2 h3
           by_cases h5:nw=0
           · subst h5
             obtain rfl:low=[]:=List.eq_nil_of_length_eq_zero hll
             have Hlow0:Hid (low0 (N:Int) []=List.replicate N 1):=qq (by unfold low0; simp)
             have HOK:Hid ((∀ z∈List.replicate N (1:Int),1≤z∧z≤3)↔OkS (N:Int) [] xs):=qq ⟨fun _=>⟨by omega,Or.inl rfl,Hmay.out,fun z hz=>by cases hz⟩,fun _ z hz=>by rw[List.eq_of_mem_replicate hz]; omega⟩
             clear h4
             go_enter Tryz.func33,Tryz.ntmps33
             go_wp2_with fail;refine Hco.out.mono ?_;rintro e wa ⟨rfl,hb1⟩;rw[Hm.out];have hba:Below w.heap.size w wa:=Hb.out.trans (hb1.mono Hb.out.size);have hya:wa.cell? ⟨w.heap.size,0,none⟩=some (.int .i64 (N:Int)):=(hb1.cell (p:=⟨w.heap.size,0,none⟩) (by simp)).trans y0;have hOne:=blk_new wa #[.int .u8 1] 22;have hbx:=below_box (w:=wa) (Obj.cells #[.int .u8 1] 22);have hyb:=(World.cell?_alloc_lt wa (Obj.cells #[.int .u8 1] 22) ⟨w.heap.size,0,none⟩ (block_lt_of_cell hya)).trans hya;clear y0 Hco;go_wp2_with fail;refine(repeat_mult (.int .u8 1) rfl N hN20 ⟨wa.heap.size,0,none⟩ 1 _ (hOne.cell 0) hOne.lt).mono ?_;rintro e w1 ⟨gL,rfl,hkL,hgL,hbL⟩;have hbw:Below w.heap.size w w1:=hba.trans ((hbx.trans (hbL.mono hbx.size)).mono hba.size);have hy:w1.cell? ⟨w.heap.size,0,none⟩=some (.int .i64 (N:Int)):=(hbL.cell (p:=⟨w.heap.size,0,none⟩) (block_lt_of_cell hyb)).trans hyb
             have hlow:RdI .u8 w1 w1.heap.size (some ⟨gL,0,none⟩) N N (List.replicate N 1):=(RowC.of_rep hkL).rd (by simp) (Nat.le_refl _) (by unfold maxLen; omega)
             have hxs:IneqsV w1 w.heap.size Al nl cl xs:=Hx.out.below hbw;clear hba hya hOne hbx hyb hkL hgL hbL hb1;go_wp2_with fail;refine wp_region_noPanic ?_;refine wp_region_T (fun w'=>w'.cell? ⟨w.heap.size,0,none⟩=some (.int .i64 (N:Int))) 12 (by kernel_rfl) hy (fun hHeld=>?_);refine nx0 0 ?_
             iterate 3 (refine nx (v:=?_) rfl (by kernel_rfl) (fun _ _ _ h=>h) (by rfl) ?_ (by assumption) ?_; rotate_left; focus (intro w hSw; (try dsimp only at hSw); first | (go_simp; done) | (go_simp; with_reducible rfl)); try simp only[Act.put,qg,qe,qf,qd,qh,qi,Nat.reduceAdd])
             refine nx9 ?_
             refine wpAnyT_take (i:=5) (v:=?_) rfl (by kernel_rfl) (by kernel_rfl) (by kernel_rfl) (by kernel_rfl) (fun _ _ _ h=>h) (Or.inl ⟨by rfl,?_⟩) (by assumption) ?_
             rotate_left
             · (intro w hSw; (try dsimp only at hSw); first | (go_simp; done) | (go_simp; with_reducible rfl))
             try simp only[Act.put,qg,qe,qf,qd,qh,qi]
             refine wpAnyT_take (i:=7) (v:=?_) rfl (by kernel_rfl) (by kernel_rfl) (by kernel_rfl) (by kernel_rfl) (fun _ _ _ h=>h) (Or.inl ⟨by rfl,?_⟩) (by assumption) ?_
             rotate_left
             · (intro w hSw; (try dsimp only at hSw); first | (go_simp; done) | (go_simp; with_reducible rfl))
             try simp only[Act.put,qg,qe,qf,qd,qh,qi]
             refine wpAnyT_J (fuel:=3) (JL w1 w.heap.size N nl cl N Al ⟨gL,0,none⟩ (List.replicate N 1)) ?_ ?_ 4 _ _ _ ⟨false,false,false,false,by kernel_rfl,by decide,rfl,JS.start ⟨by rfl,rfl,rfl,rfl,rfl,rfl,rfl,rfl,rfl,rfl,rfl,rfl,rfl⟩ (Below.refl _ _).drew⟩
             · skip
               intro l a w2 hJ;obtain⟨b3,b4,b6,b8,rfl,_,hm,hJS⟩:=hJ
               obtain⟨rfl,rfl,rfl,rfl⟩:b3=true∧b4=true∧b6=true∧b8=true:=by revert hm; cases b3 <;> cases b4 <;> cases b6 <;> cases b8 <;> simp
               have hS:w2.cell? ⟨w.heap.size,0,none⟩=some (.int .i64 (N:Int)):=(hJS.bel.cell (p:=⟨w.heap.size,0,none⟩) (block_lt_of_cell hy)).trans hy;obtain⟨jt,bel,I,ci,G,Y,F,h3,h4,h6,h8,e1,e2,e3⟩:=hJS;obtain⟨t48,hoI,hIl⟩:=h3 rfl;obtain⟨t51,hbY,hY1⟩:=h6 rfl;obtain⟨t53,hbF,hF1⟩:=h8 rfl;have hIY:=e1 rfl rfl;have hIF:=e2 rfl rfl;have hYF:=e3 rfl rfl;refine split97 (fun a=>wpAnyT _ _ _ _ _ _ _ _ a w2) a _ _ _ _ _ _ _ _ _ _ _ jt.sz jt.t1 jt.t2 jt.t3 jt.t6 jt.t7 jt.t8 jt.t45 jt.t46 t48 t51 t53 jt.df ?_;clear jt t48 t51 t53 h3 h4 h6 h8 e1 e2 e3 hm a;intro s0 s4 s5 s9 s10 s11 s12 s13 s14 s15 s16 s17 s18 s19 s20 s21 s22 s23 s24 s25 s26 s27 s28 s29 s30 s31 s32 s33 s34 s35 s36 s37 s38 s39 s40 s41 s42 s43 s44 s47 s49 s50 s52 s54 s55 s56 s57 s58 s59 s60 s61 s62 s63 s64 s65 s66 s67 s68 s69 s70 s71 s72 s73 s74 s75 s76 s77 s78 s79 s80 s81 s82 s83 s84 s85 s86 s87 s88 s89 s90 s91 s92 s93 s94 s95 s96;have hsb:=blk_new w2 #[.slice Al nl cl,.slice (some ⟨gL,0,none⟩) N N,.slice (some ⟨I,0,none⟩) N ci,.slice (some ⟨Y,0,none⟩) N N,.slice (some ⟨F,0,none⟩) N N] 130;have hsw:=below_box (w:=w2) (Obj.cells #[.slice Al nl cl,.slice (some ⟨gL,0,none⟩) N N,.slice (some ⟨I,0,none⟩) N ci,.slice (some ⟨Y,0,none⟩) N N,.slice (some ⟨F,0,none⟩) N N] 130);have hS3:=(hsw.cell (p:=⟨w.heap.size,0,none⟩) (block_lt_of_cell hS)).trans hS;refine wpAnyT_step (i:=9) (by kernel_rfl) rfl (fun K hK=>?_);go_simp;refine hK.out _ _ hS ?_;clear hK K
               try simp only[Act.put,qg,qe,qf,qd,qh,qi]
               refine wpAnyT_step (i:=10) (by kernel_rfl) rfl (fun K hK=>?_);go_simp;refine hK.out _ _ hS3 ?_;clear hK K
               try simp only[Act.put,qg,qe,qf,qd,qh,qi]
               refine wpAnyT_step (i:=11) (by kernel_rfl) rfl (fun K hK=>?_);go_simp;refine hK.out _ _ hS3 ?_;clear hK K
               try simp only[Act.put,qg,qe,qf,qd,qh,qi]
               refine wpAnyT_seq 12 (by omega) (by rfl) (by kernel_rfl) ?_;simp only[List.drop_succ_cons,List.drop_zero];go_wp2_with fail;refine NoPanic.normal ?_;generalize hW3:w2.alloc (Obj.cells #[.slice Al nl cl,.slice (some ⟨gL,0,none⟩) N N,.slice (some ⟨I,0,none⟩) N ci,.slice (some ⟨Y,0,none⟩) N N,.slice (some ⟨F,0,none⟩) N N] 130)=w3 at hsb hsw hS3 ⊢;clear hW3;have hb3:Below w1.heap.size w1 w3:=bel.trans (hsw.mono bel.size);have hIc:=RowC.of_own hoI;have hI1:=(ownsRow_lt hoI (b:=I) rfl).1;have hI3:RowC w3 I 22 .u8 (List.replicate N (1:Int)):=hIc.1.below hsw hIl;have hY3:RowC w3 Y 3 .i64 (List.replicate N (-1)):=(RowC.of_rep hbY).below hsw hbY.lt;have hF3:=hbF.below hsw hbF.lt;have hYl:=hbY.lt;have hIl2:=hIl;have hFl:=hbF.lt;have hs2:=bel.size;have hw1:=hbw.size;have hlow3:RdI .u8 w3 w1.heap.size (some ⟨gL,0,none⟩) N N (List.replicate N (1:Int)):=hlow.below hb3;have hxs3:IneqsV w3 w.heap.size Al nl cl xs:=hxs.below (hb3.mono hw1);have hs3:=hsw.size;have hgl:=hsb.lt
               have hrun:=fun h3=>run_any w2.heap.size I Y F w.heap.size N nl cl ci N N Al (.slice (some ⟨gL,0,none⟩) N N) xs (List.replicate N (1:Int)) w3 hsb hxs3 (by omega) (by simp; omega) (by intro b hb; simp at hb; omega) hN20 (by omega) hIc.2.2.1 hIc.2.2.2.1 hIc.2.1 h3 hI3 hY3 hF3 (fun x hx=>OverL.of_may (Hmay.out x hx))
               have Hrun:=qq hrun;have Hb3:=qq hb3;have Hlow3:=qq hlow3;have Hxs3:=qq hxs3;have Hsb:=qq hsb;have Hlvl:Hid (((List.replicate N (1:Int))).length=N):=qq hIc.2.1;have Hci:Hid (N≤ci∧ci≤maxLen):=qq ⟨hIc.2.2.1,hIc.2.2.2.1⟩;have Hbw:=qq hbw
               have n63:N≤9223372036854775807:=by omega
               have nl63:nl≤9223372036854775807:=by omega
               clear hrun hb3 hlow3 hxs3 hsb hsw hS3 hS hlow hxs hy hoI hIl hbY hbF bel hIc hI3 hY3 hF3 hbw;go_wp2_with fail
               go_loopg [58] N (fun gh i wr=>∃ k,k≤N∧gh=N - k∧i=.int .i64 (k:Nat)∧wr=w3∧∀ j (h:j<((List.replicate N (1:Int))).length),j<k→1≤((List.replicate N (1:Int)))[j]∧((List.replicate N (1:Int)))[j]≤3)
               case atStart=>exact⟨0,Nat.zero_le _,rfl,rfl,rfl,fun j _ h=>absurd h (by omega)⟩
               case round=>
                obtain⟨k,hk,rfl,rfl,hwr,hrg⟩:=hrel;rw[hwr];clear hwr;have Hrg:=qq hrg;clear hrg
                by_cases hkN:k<N
                · have hkl:k<((List.replicate N (1:Int))).length:=by rw[Hlvl.out]; exact hkN
                  obtain⟨_,_,q,_,hcell⟩:=Hlow3.out.at_ (by omega)
                  cases q
                  have e0:=hcell k hkl
                  try rw[Nat.zero_add] at e0
                  obtain⟨z,hz⟩:∃ z,((List.replicate N (1:Int)))[k]=z:=⟨_,rfl⟩;rw[hz] at e0;have Hz:=qq hz
                  have i1:(0:Int)≤(k:Int):=by omega
                  have i2:(k:Int)<(N:Int):=by omega
                  clear hz hcell
                  by_cases hz1:1≤z∧z≤3
                  · have f1:decide (z<1)=false:=by simp; omega
                    have f2:decide (z>3)=false:=by simp; omega
                    have Hz1:=qq hz1;clear hz1;go_wp2_with fail;go_roundg (N - (k+1))
                    case measure=>omega
                    case rel=>
                     refine⟨k+1,by omega,rfl,by simp,rfl,fun j hj hjk=>?_⟩
                     rcases Nat.lt_or_ge j k with h | h
                     · exact Hrg.out j hj h
                     · have:j=k:=by omega
                       subst this
                       rw[Hz.out]; exact Hz1.out
                  · have hR:SolveR (N:Int) [] xs [] [] 2:=Or.inr (Or.inl ⟨by omega,by omega,fun h=>hz1 (by have:=HOK.out.2 h _ (List.getElem_mem hkl); rw[Hz.out] at this; exact this),rfl,rfl,rfl⟩)
                    have HR:=qq hR;have hb9:=Hbw.out.trans (Hb3.out.mono hw1);have Hb9:=qq hb9;clear hR hb9
                    by_cases hz2:z<1
                    · have f1:decide (z<1)=true:=by simp; omega
                      clear hz1 hz2;go_wp2_with fail;exact bodyPost_ret (v:=.tuple #[.slice none 0 0,.slice none 0 0,.int .i64 2]) (by simp[results,Tryz.results33,go_sem]) rfl ⟨_,_,_,_,_,_,_,_,_,rfl,RdI.nil,RdI.nil,HR.out,Hb9.out⟩
                    · have f1:decide (z<1)=false:=by simp; omega
                      have f2:decide (z>3)=true:=by simp; omega
                      clear hz1 hz2;go_wp2_with fail;exact bodyPost_ret (v:=.tuple #[.slice none 0 0,.slice none 0 0,.int .i64 2]) (by simp[results,Tryz.results33,go_sem]) rfl ⟨_,_,_,_,_,_,_,_,_,rfl,RdI.nil,RdI.nil,HR.out,Hb9.out⟩
                · have hall:∀ z∈(List.replicate N (1:Int)),1≤z∧z≤3:=fun z hz=>by
                   obtain⟨j,hj,rfl⟩:=List.getElem_of_mem hz
                   exact Hrg.out j hj (by have:=Hlvl.out; omega)
                  have hlv3:∀ v,v<((List.replicate N (1:Int))).length→((List.replicate N (1:Int))).getD v 0≤3:=fun v hv=>by
                   have:=hall _ (List.getElem_mem hv);rw[List.getD_eq_getElem?_getD,qj hv];exact this.2
                  have Hlv3:=qq hlv3;have HOK1:=qq (HOK.out.1 hall);clear hall hlv3;go_wp2_with fail;refine(Hrun.out Hlv3.out).mono ?_;rintro e w4 ⟨rfl,is,why,hI4,hY4,hE4,ho4⟩
                  have hg4:w2.heap.size∉[I,Y,F]:=by simp; omega
                  have hS4:∀ s∈[I,Y,F],w1.heap.size≤s:=by intro s hs; simp at hs; omega
                  have hsb4:=Hsb.out.off ho4 hg4;have hb34:=ho4.below hS4 (by omega);have hb4:Below w1.heap.size w1 w4:=Hb3.out.trans hb34;have hlow4:=Hlow3.out.below hb34;have hxs4:=Hxs3.out.below (hb34.mono hw1);have hw4:w1.heap.size≤w4.heap.size:=hb4.size
                  have hisl:is.length=N:=by rw[hE4.inv.il]; exact Hlvl.out
                  have hRI:=hI4.rd hisl Hci.out.1 Hci.out.2;have hgl4:=hsb4.lt;have Hb4:=qq hb4;have Hsb4:=qq hsb4;have Hlow4:=qq hlow4;have Hxs4:=qq hxs4;have HRI:=qq hRI;have HY4:=qq hY4;have HE4:=qq hE4;clear hI4 hY4 hE4 ho4 hg4 hS4 hsb4 hb34 hb4 hlow4 hxs4 hRI;go_wp2_with fail
                  go_loopg [73] nl (fun gh i wr=>∃ k,k≤nl∧gh=nl - k∧i=.int .i64 (k:Nat)∧Below w4.heap.size w4 wr∧∀ (j:Nat) x,j<k→xs[j]?=some x→x.r<0→leftL is x≤x.c)
                  case atStart=>exact⟨0,Nat.zero_le _,rfl,rfl,Below.refl _ _,fun j x h=>absurd h (by omega)⟩
                  case round=>
                   obtain⟨k,hk,rfl,rfl,hbr,hdone⟩:=hrel;have Hdone:=qq hdone;clear hdone;have Hbr:=qq hbr
                   by_cases hkl:k<nl
                   · have hkx:k<xs.length:=by omega
                     obtain⟨_,_,_,_,hcell⟩:=(Hxs4.out.below (hbr.mono (by omega))).at_ (by omega)
                     rename_i bl offl hAl hbl
                     subst hAl;obtain⟨e0,e1,e2,e3⟩:=hcell k hkx;have hxi:xs[k]?=some xs[k]:=qj hkx;have hov:=OverL.of_may (Hmay.out _ (List.getElem_mem hkx));generalize xs[k]=x at e0 e1 e2 e3 hxi hov;have Hxi:=qq hxi;have Hov:=qq hov
                     have i1:(0:Int)≤(k:Int):=by omega
                     have i2:(k:Int)<nl:=by omega
                     have hX:=blk_new wr #[.int .i64 x.lv,.int .u8 x.lc,.int .u8 x.c,.int .i64 x.r] 70;have hbx:=below_box (w:=wr) (Obj.cells #[.int .i64 x.lv,.int .u8 x.lc,.int .u8 x.c,.int .i64 x.r] 70);have hb5:Below w4.heap.size w4 (wr.alloc (Obj.cells #[.int .i64 x.lv,.int .u8 x.lc,.int .u8 x.c,.int .i64 x.r] 70)):=hbr.trans (hbx.mono hbr.size);have HX:=qq hX;have Hb5:=qq hb5;clear hcell hxi hov hX hbx hb5 hbr
                     by_cases hr0:x.r<0
                     · have f1:decide (x.r<0)=true:=by simp; omega
                       obtain⟨L,hL⟩:∃ L,leftL is x=L:=⟨_,rfl⟩;have HL:=qq hL;have Hr0:=qq hr0;clear hL hr0
                       by_cases hLc:L>x.c
                       · have f2:decide (L>x.c)=true:=by simp; omega
                         have HLc:=qq hLc;clear hLc;go_wp2_with fail;generalize hW5:wr.alloc (Obj.cells #[.int .i64 x.lv,.int .u8 x.lc,.int .u8 x.c,.int .i64 x.r] 70)=w5 at HX Hb5 ⊢;clear hW5;have y2:w5.cell? ⟨w2.heap.size,2,none⟩=some (.slice (some ⟨I,0,none⟩) N ci):=(Hb5.out.cell (p:=⟨w2.heap.size,2,none⟩) hgl4).trans (Hsb4.out.cell 2);have hr5:=(HRI.out.below Hb5.out).more Hb5.out.size;have hg5:w2.heap.size<w5.heap.size:=Nat.lt_of_lt_of_le hgl4 Hb5.out.size
                         have hq:∀ d os,Calls Tryz.prog 84 #[.pointer (some ⟨w2.heap.size,0,none⟩),.agg #[.int .i64 x.lv,.int .u8 x.lc,.int .u8 x.c,.int .i64 x.r]] («Sort».grow (redrawn w5 d) os) (fun e w'=>e=.returned (.int .u8 L)∧Below («Sort».grow (redrawn w5 d) os).heap.size («Sort».grow (redrawn w5 d) os) w'):=fun d os=>
                          left_at (x:=x) HL.out (cell_regrown y2 d os) ((hr5.below (below_regrown w5 d os)).more (below_regrown w5 d os).size) (Nat.lt_of_lt_of_le hg5 (below_regrown w5 d os).size) Hov.out.lv
                         replace hq:=qq hq;have kx0:=fun d os=>cell_regrown (HX.out.cell 0) d os;have kx1:=fun d os=>cell_regrown (HX.out.cell 1) d os;have kx2:=fun d os=>cell_regrown (HX.out.cell 2) d os;have kx3:=fun d os=>cell_regrown (HX.out.cell 3) d os;clear y2 hr5 hg5;refine wp_region_quiet_below (by kernel_rfl) (by kernel_rfl) ?_
                         repeat (go_big_quiet_step ((first | (go_at_call 84; exact Calls.regrown_of (hq.out _ _)))))
                         refine wpQuiet_nil ?_;intro _ hw';obtain⟨⟨dq,osq⟩,hw''⟩:=hw';subst hw'';have hb6:=Hb5.out.trans ((below_regrown w5 dq osq).mono Hb5.out.size);clear kx0 kx1 kx2 kx3 hq;generalize «Sort».grow (redrawn w5 dq) osq=w6 at hb6 ⊢;have Hb6:=qq hb6;clear hb6;go_wp2_with fail;have hsb6:=Hsb4.out.below Hb6.out hgl4
                         have hcore:=core_any w2.heap.size Y N N N nl cl (some ⟨bl,offl,none⟩) (some ⟨gL,0,none⟩) xs (List.replicate N (1:Int)) is why k x w6 (hsb6.cell 0) (hsb6.cell 1) (hsb6.cell 3) ((Hxs4.out.below (Hb6.out.mono (by omega))).more (Nat.le_trans (by omega) Hb6.out.size)) ((Hlow4.out.below (Hb6.out.mono hw4)).more (Nat.le_trans hw4 Hb6.out.size)) (HY4.out.below Hb6.out HY4.out.lt) hsb6.lt (by omega) HE4.out Hlv3.out Hxi.out Hr0.out (by have:=HL.out; have:=HLc.out; omega)
                         refine hcore.mono ?_;rintro e w7 ⟨A7,m7,c7,l7,rfl,hch7,hr7,hb7⟩
                         have hR:SolveR (N:Int) [] xs [] ((natI (k :: l7)).mergeSort fun a b=>decide (a≤b)) 40:=Or.inr (Or.inr ⟨by omega,by omega,HOK1.out,is,why,by rw[Hlow0.out]; exact HE4.out,Or.inl ⟨k,x,l7,Hxi.out,Hr0.out,(by have:=HL.out; have:=HLc.out; omega),by rw[Hlow0.out]; exact hch7,rfl,rfl,rfl⟩⟩)
                         have HR:=qq hR;have hb9:=((Hbw.out.trans (Hb4.out.mono hw1)).trans (Hb6.out.mono (by omega))).trans (hb7.mono (Nat.le_trans (by omega) Hb6.out.size));have Hr7:=qq hr7;have Hb9:=qq hb9;clear hR hb9 hr7 hb7 hch7 hcore hsb6;go_wp2_with fail;exact bodyPost_ret (v:=.tuple #[.slice none 0 0,.slice A7 m7 c7,.int .i64 40]) (by simp[results,Tryz.results33,go_sem]) rfl ⟨_,_,_,_,_,_,_,_,_,rfl,RdI.nil,Hr7.out,HR.out,Hb9.out⟩
                       · have f2:decide (L>x.c)=false:=by simp; omega
                         have HLc:=qq hLc;clear hLc;go_wp2_with fail;generalize hW5:wr.alloc (Obj.cells #[.int .i64 x.lv,.int .u8 x.lc,.int .u8 x.c,.int .i64 x.r] 70)=w5 at HX Hb5 ⊢;clear hW5;have y2:w5.cell? ⟨w2.heap.size,2,none⟩=some (.slice (some ⟨I,0,none⟩) N ci):=(Hb5.out.cell (p:=⟨w2.heap.size,2,none⟩) hgl4).trans (Hsb4.out.cell 2);have hr5:=(HRI.out.below Hb5.out).more Hb5.out.size;have hg5:w2.heap.size<w5.heap.size:=Nat.lt_of_lt_of_le hgl4 Hb5.out.size
                         have hq:∀ d os,Calls Tryz.prog 84 #[.pointer (some ⟨w2.heap.size,0,none⟩),.agg #[.int .i64 x.lv,.int .u8 x.lc,.int .u8 x.c,.int .i64 x.r]] («Sort».grow (redrawn w5 d) os) (fun e w'=>e=.returned (.int .u8 L)∧Below («Sort».grow (redrawn w5 d) os).heap.size («Sort».grow (redrawn w5 d) os) w'):=fun d os=>
                          left_at (x:=x) HL.out (cell_regrown y2 d os) ((hr5.below (below_regrown w5 d os)).more (below_regrown w5 d os).size) (Nat.lt_of_lt_of_le hg5 (below_regrown w5 d os).size) Hov.out.lv
                         replace hq:=qq hq;have kx0:=fun d os=>cell_regrown (HX.out.cell 0) d os;have kx1:=fun d os=>cell_regrown (HX.out.cell 1) d os;have kx2:=fun d os=>cell_regrown (HX.out.cell 2) d os;have kx3:=fun d os=>cell_regrown (HX.out.cell 3) d os;clear y2 hr5 hg5;refine wp_region_quiet_below (by kernel_rfl) (by kernel_rfl) ?_
                         repeat (go_big_quiet_step ((first | (go_at_call 84; exact Calls.regrown_of (hq.out _ _)))))
                         refine wpQuiet_nil ?_;intro _ hw';obtain⟨⟨dq,osq⟩,hw''⟩:=hw';subst hw'';have hb6:=Hb5.out.trans ((below_regrown w5 dq osq).mono Hb5.out.size);clear kx0 kx1 kx2 kx3 hq;generalize «Sort».grow (redrawn w5 dq) osq=w6 at hb6 ⊢;have Hb6:=qq hb6;clear hb6;go_wp2_with fail;go_roundg (nl - (k+1))
                         case measure=>omega
                         case rel=>
                          refine⟨k+1,by omega,rfl,by simp,Hb6.out,fun j y hj hy hr=>?_⟩
                          rcases Nat.lt_or_ge j k with h | h
                          · exact Hdone.out j y h hy hr
                          · have:j=k:=by omega
                            subst this;rw[Hxi.out] at hy
                            cases hy
                            have:=HL.out;have:=HLc.out;omega
                     · have f1:decide (x.r<0)=false:=by simp; omega
                       go_wp2_with fail;generalize hW5:wr.alloc (Obj.cells #[.int .i64 x.lv,.int .u8 x.lc,.int .u8 x.c,.int .i64 x.r] 70)=w5 at HX Hb5 ⊢;clear hW5;have x3:w5.cell? ⟨wr.heap.size,3,none⟩=some (.int .i64 x.r):=HX.out.cell 3
                       go_quiet (fail)
                       go_wp2_with fail;go_roundg (nl - (k+1))
                       case measure=>omega
                       case rel=>
                        refine⟨k+1,by omega,rfl,by simp,below_drewN_t Hb5.out _,fun j y hj hy hr=>?_⟩
                        rcases Nat.lt_or_ge j k with h | h
                        · exact Hdone.out j y h hy hr
                        · have:j=k:=by omega
                          subst this;rw[Hxi.out] at hy
                          cases hy
                          omega
                   · have hend:∀ x∈xs,x.r<0→leftL is x≤x.c:=fun x hx hr=>by
                      obtain⟨j,hj⟩:=List.getElem?_of_mem hx
                      exact Hdone.out j x (by have:=(List.getElem?_eq_some_iff.1 hj).1; omega) hj hr
                     have hR:SolveR (N:Int) [] xs is [] 0:=Or.inr (Or.inr ⟨by omega,by omega,HOK1.out,is,why,by rw[Hlow0.out]; exact HE4.out,Or.inr ⟨hend,rfl,rfl,rfl⟩⟩)
                     have HR:=qq hR;have hr9:=(HRI.out.below hbr).more hbr.size;have hb9:=(Hbw.out.trans (Hb4.out.mono hw1)).trans (hbr.mono (by omega));have x2:wr.cell? ⟨w2.heap.size,2,none⟩=some (.slice (some ⟨I,0,none⟩) N ci):=(hbr.cell (p:=⟨w2.heap.size,2,none⟩) hgl4).trans (Hsb4.out.cell 2);have Hr9:=qq hr9;have Hb9:=qq hb9;clear hend hR hr9 hb9 hbr;go_wp2_with fail;exact bodyPost_ret (v:=.tuple #[.slice (some ⟨I,0,none⟩) N ci,.slice none 0 0,.int .i64 0]) (by simp[results,Tryz.results33,go_sem]) rfl ⟨_,_,_,_,_,_,_,_,_,rfl,Hr9.out,RdI.nil,HR.out,Hb9.out⟩
             · skip
               intro m l a w2 hJ;obtain⟨b3,b4,b6,b8,rfl,h6,hm,hJS⟩:=hJ;have hS:w2.cell? ⟨w.heap.size,0,none⟩=some (.int .i64 (N:Int)):=(hJS.bel.cell (p:=⟨w.heap.size,0,none⟩) (block_lt_of_cell hy)).trans hy;have hlow2:=(hlow.below hJS.bel).more hJS.bel.size
               cases b3 <;> cases b4 <;> cases b6 <;> cases b8 <;> simp only[Bool.toNat_true,Bool.toNat_false,Bool.false_eq_true,true_and,false_and,and_false,and_true,and_self,forall_const,reduceCtorEq,Nat.add_zero,imp_false,not_true,not_false_iff,implies_true] at hm h6
               refine ready_3 3 4 8 (by kernel_rfl) ?_ ?_ ?_;rotate_left 3;refine ready_2 3 4 (by kernel_rfl) ?_ ?_;rotate_left 2;refine ready_2 3 8 (by kernel_rfl) ?_ ?_;rotate_left 2;refine ready_1 3 (by kernel_rfl) ?_;rotate_left 1;refine ready_2 4 8 (by kernel_rfl) ?_ ?_;rotate_left 2;refine ready_1 4 (by kernel_rfl) ?_;rotate_left 1;refine ready_2 6 8 (by kernel_rfl) ?_ ?_;rotate_left 2;refine ready_1 6 (by kernel_rfl) ?_;rotate_left 1;refine ready_1 8 (by kernel_rfl) ?_;rotate_left 1;omega
               all_goals first
                | skip
                  refine wpOp_step (i:=3) rfl (fun K hK=>?_);have t47:=hJS.jt.t47;go_simp;refine(clone_mult _ N N (List.replicate N (1:Int)) w2 hlow2 (by omega)).mono ?_;rintro e w5 ⟨I,ci,rfl,ho,hb5⟩;have hJ5:=hJS.put3 hb5 ho;refine hK.out _ _ ?_
                  exact⟨fun _=>(hb5.cell (p:=⟨w.heap.size,0,none⟩) (block_lt_of_cell hS)).trans hS,_,_,_,_,by kernel_rfl,by decide,by simp only[Bool.toNat_true,Bool.toNat_false]; omega,hJ5⟩
                | skip
                  refine wpOp_step (i:=4) rfl (fun K hK=>?_);go_simp;have hb5:=below_box (w:=w2) (Obj.cells #[.int .i64 (-1)] 3);have hJ5:=hJS.put4 hb5 ((blk_new w2 #[.int .i64 (-1)] 3).cell 0);refine hK.out _ _ ?_
                  exact⟨fun _=>(hb5.cell (p:=⟨w.heap.size,0,none⟩) (block_lt_of_cell hS)).trans hS,_,_,_,_,by kernel_rfl,by decide,by simp only[Bool.toNat_true,Bool.toNat_false]; omega,hJ5⟩
                | skip
                  refine wpOp_step (i:=6) rfl (fun K hK=>?_);have t50:=hJS.jt.t50;obtain⟨I,ci,G,Y,F,_,h4,_⟩:=hJS.ex;obtain⟨t49,hG,hGl⟩:=h4 rfl;go_simp;refine(repeat_int (.int .i64 (-1)) rfl N hN20 ⟨G,0,none⟩ 1 w2 hG hGl).mono ?_;rintro e w5 ⟨g,rfl,hk5,hg5,hb5⟩;have hJ5:=hJS.put6 hb5 hk5 hg5;refine hK.out _ _ ?_
                  exact⟨fun _=>(hb5.cell (p:=⟨w.heap.size,0,none⟩) (block_lt_of_cell hS)).trans hS,_,_,_,_,by kernel_rfl,by decide,by simp only[Bool.toNat_true,Bool.toNat_false]; omega,hJ5⟩
                | skip
                  refine wpOp_step (i:=8) rfl (fun K hK=>?_);have t52:=hJS.jt.t52;have hmr:=make_rows N hN20 w2;go_simp;have hb5:=below_box (w:=w2) (Obj.cells (Array.replicate N (Value.slice none 0 0)) 30)
                  have hJ5:=hJS.put8 hb5 (F:=w2.heap.size) (by rw[List.toArray_replicate]; exact blk_new _ _ _) (Nat.le_refl _)
                  refine hK.out _ _ ?_
                  exact⟨fun _=>(hb5.cell (p:=⟨w.heap.size,0,none⟩) (block_lt_of_cell hS)).trans hS,_,_,_,_,by kernel_rfl,by decide,by simp only[Bool.toNat_true,Bool.toNat_false]; omega,hJ5⟩
           · have hnN:nw=N:=by omega
             subst hnN
             have d4:decide ((nw:Int)>0)=true:=by simp; omega
             have d4':0<nw:=by omega
             have d6:((nw:Int)==0)=false:=by simp; omega
             obtain⟨ba,oa,hAw,_⟩:=Hlw.out.at_ (by omega);subst hAw
             have hlow0:low0 (nw:Int) low=low:=by unfold low0; rw[if_neg (fun e=>by rw[e] at hll; simp at hll; omega)]
             clear h4 h5
             go_enter Tryz.func33,Tryz.ntmps33
             go_wp2_with fail;refine Hco.out.mono ?_;rintro e w1 ⟨rfl,hb1⟩;rw[Hm.out];have hbw:Below w.heap.size w w1:=Hb.out.trans (hb1.mono Hb.out.size);have hy:w1.cell? ⟨w.heap.size,0,none⟩=some (.int .i64 (nw:Int)):=(hb1.cell (p:=⟨w.heap.size,0,none⟩) (by simp)).trans y0;have hlow:RdI .u8 w1 w1.heap.size (some ⟨ba,oa,none⟩) nw cw low:=(Hlw.out.below hbw).more hbw.size
             have HOK:Hid ((∀ z∈low,1≤z∧z≤3)↔OkS (nw:Int) low xs):=qq ⟨fun h=>⟨by omega,Or.inr (by omega),Hmay.out,h⟩,fun h=>h.rng⟩
             have Hlow0:=qq hlow0;clear hlow0;have hxs:IneqsV w1 w.heap.size Al nl cl xs:=Hx.out.below hbw;clear y0 Hco;go_wp2_with fail;refine wp_region_noPanic ?_;refine wp_region_T (fun w'=>w'.cell? ⟨w.heap.size,0,none⟩=some (.int .i64 (nw:Int))) 12 (by kernel_rfl) hy (fun hHeld=>?_);refine nx0 0 ?_
             iterate 3 (refine nx (v:=?_) rfl (by kernel_rfl) (fun _ _ _ h=>h) (by rfl) ?_ (by assumption) ?_; rotate_left; focus (intro w hSw; (try dsimp only at hSw); first | (go_simp; done) | (go_simp; with_reducible rfl)); try simp only[Act.put,qg,qe,qf,qd,qh,qi,Nat.reduceAdd])
             refine nx9 ?_
             refine wpAnyT_take (i:=5) (v:=?_) rfl (by kernel_rfl) (by kernel_rfl) (by kernel_rfl) (by kernel_rfl) (fun _ _ _ h=>h) (Or.inl ⟨by rfl,?_⟩) (by assumption) ?_
             rotate_left
             · (intro w hSw; (try dsimp only at hSw); first | (go_simp; done) | (go_simp; with_reducible rfl))
             try simp only[Act.put,qg,qe,qf,qd,qh,qi]
             refine wpAnyT_take (i:=7) (v:=?_) rfl (by kernel_rfl) (by kernel_rfl) (by kernel_rfl) (by kernel_rfl) (fun _ _ _ h=>h) (Or.inl ⟨by rfl,?_⟩) (by assumption) ?_
             rotate_left
             · (intro w hSw; (try dsimp only at hSw); first | (go_simp; done) | (go_simp; with_reducible rfl))
             try simp only[Act.put,qg,qe,qf,qd,qh,qi]
             refine wpAnyT_J (fuel:=3) (JL w1 w.heap.size nw nl cl cw Al ⟨ba,oa,none⟩ low) ?_ ?_ 4 _ _ _ ⟨false,false,false,false,by kernel_rfl,by decide,rfl,JS.start ⟨by rfl,rfl,rfl,rfl,rfl,rfl,rfl,rfl,rfl,rfl,rfl,rfl,rfl⟩ (Below.refl _ _).drew⟩
             · skip
               intro l a w2 hJ;obtain⟨b3,b4,b6,b8,rfl,_,hm,hJS⟩:=hJ
               obtain⟨rfl,rfl,rfl,rfl⟩:b3=true∧b4=true∧b6=true∧b8=true:=by revert hm; cases b3 <;> cases b4 <;> cases b6 <;> cases b8 <;> simp
               have hS:w2.cell? ⟨w.heap.size,0,none⟩=some (.int .i64 (nw:Int)):=(hJS.bel.cell (p:=⟨w.heap.size,0,none⟩) (block_lt_of_cell hy)).trans hy;obtain⟨jt,bel,I,ci,G,Y,F,h3,h4,h6,h8,e1,e2,e3⟩:=hJS;obtain⟨t48,hoI,hIl⟩:=h3 rfl;obtain⟨t51,hbY,hY1⟩:=h6 rfl;obtain⟨t53,hbF,hF1⟩:=h8 rfl;have hIY:=e1 rfl rfl;have hIF:=e2 rfl rfl;have hYF:=e3 rfl rfl;refine split97 (fun a=>wpAnyT _ _ _ _ _ _ _ _ a w2) a _ _ _ _ _ _ _ _ _ _ _ jt.sz jt.t1 jt.t2 jt.t3 jt.t6 jt.t7 jt.t8 jt.t45 jt.t46 t48 t51 t53 jt.df ?_;clear jt t48 t51 t53 h3 h4 h6 h8 e1 e2 e3 hm a;intro s0 s4 s5 s9 s10 s11 s12 s13 s14 s15 s16 s17 s18 s19 s20 s21 s22 s23 s24 s25 s26 s27 s28 s29 s30 s31 s32 s33 s34 s35 s36 s37 s38 s39 s40 s41 s42 s43 s44 s47 s49 s50 s52 s54 s55 s56 s57 s58 s59 s60 s61 s62 s63 s64 s65 s66 s67 s68 s69 s70 s71 s72 s73 s74 s75 s76 s77 s78 s79 s80 s81 s82 s83 s84 s85 s86 s87 s88 s89 s90 s91 s92 s93 s94 s95 s96;have hsb:=blk_new w2 #[.slice Al nl cl,.slice (some ⟨ba,oa,none⟩) nw cw,.slice (some ⟨I,0,none⟩) nw ci,.slice (some ⟨Y,0,none⟩) nw nw,.slice (some ⟨F,0,none⟩) nw nw] 130;have hsw:=below_box (w:=w2) (Obj.cells #[.slice Al nl cl,.slice (some ⟨ba,oa,none⟩) nw cw,.slice (some ⟨I,0,none⟩) nw ci,.slice (some ⟨Y,0,none⟩) nw nw,.slice (some ⟨F,0,none⟩) nw nw] 130);have hS3:=(hsw.cell (p:=⟨w.heap.size,0,none⟩) (block_lt_of_cell hS)).trans hS;refine wpAnyT_step (i:=9) (by kernel_rfl) rfl (fun K hK=>?_);go_simp;refine hK.out _ _ hS ?_;clear hK K
               try simp only[Act.put,qg,qe,qf,qd,qh,qi]
               refine wpAnyT_step (i:=10) (by kernel_rfl) rfl (fun K hK=>?_);go_simp;refine hK.out _ _ hS3 ?_;clear hK K
               try simp only[Act.put,qg,qe,qf,qd,qh,qi]
               refine wpAnyT_step (i:=11) (by kernel_rfl) rfl (fun K hK=>?_);go_simp;refine hK.out _ _ hS3 ?_;clear hK K
               try simp only[Act.put,qg,qe,qf,qd,qh,qi]
               refine wpAnyT_seq 12 (by omega) (by rfl) (by kernel_rfl) ?_;simp only[List.drop_succ_cons,List.drop_zero];go_wp2_with fail;refine NoPanic.normal ?_;generalize hW3:w2.alloc (Obj.cells #[.slice Al nl cl,.slice (some ⟨ba,oa,none⟩) nw cw,.slice (some ⟨I,0,none⟩) nw ci,.slice (some ⟨Y,0,none⟩) nw nw,.slice (some ⟨F,0,none⟩) nw nw] 130)=w3 at hsb hsw hS3 ⊢;clear hW3;have hb3:Below w1.heap.size w1 w3:=bel.trans (hsw.mono bel.size);have hIc:=RowC.of_own hoI;have hI1:=(ownsRow_lt hoI (b:=I) rfl).1;have hI3:RowC w3 I 22 .u8 low:=hIc.1.below hsw hIl;have hY3:RowC w3 Y 3 .i64 (List.replicate nw (-1)):=(RowC.of_rep hbY).below hsw hbY.lt;have hF3:=hbF.below hsw hbF.lt;have hYl:=hbY.lt;have hIl2:=hIl;have hFl:=hbF.lt;have hs2:=bel.size;have hw1:=hbw.size;have hlow3:RdI .u8 w3 w1.heap.size (some ⟨ba,oa,none⟩) nw cw low:=hlow.below hb3;have hxs3:IneqsV w3 w.heap.size Al nl cl xs:=hxs.below (hb3.mono hw1);have hs3:=hsw.size;have hgl:=hsb.lt
               have hrun:=fun h3=>run_any w2.heap.size I Y F w.heap.size nw nl cl ci nw nw Al (.slice (some ⟨ba,oa,none⟩) nw cw) xs low w3 hsb hxs3 (by omega) (by simp; omega) (by intro b hb; simp at hb; omega) hN20 (by omega) hIc.2.2.1 hIc.2.2.2.1 hIc.2.1 h3 hI3 hY3 hF3 (fun x hx=>OverL.of_may (Hmay.out x hx))
               have Hrun:=qq hrun;have Hb3:=qq hb3;have Hlow3:=qq hlow3;have Hxs3:=qq hxs3;have Hsb:=qq hsb;have Hlvl:Hid ((low).length=nw):=qq hIc.2.1;have Hci:Hid (nw≤ci∧ci≤maxLen):=qq ⟨hIc.2.2.1,hIc.2.2.2.1⟩;have Hbw:=qq hbw
               have n63:nw≤9223372036854775807:=by omega
               have nl63:nl≤9223372036854775807:=by omega
               clear hrun hb3 hlow3 hxs3 hsb hsw hS3 hS hlow hxs hy hoI hIl hbY hbF bel hIc hI3 hY3 hF3 hbw;go_wp2_with fail
               go_loopg [58] nw (fun gh i wr=>∃ k,k≤nw∧gh=nw - k∧i=.int .i64 (k:Nat)∧wr=w3∧∀ j (h:j<(low).length),j<k→1≤(low)[j]∧(low)[j]≤3)
               case atStart=>exact⟨0,Nat.zero_le _,rfl,rfl,rfl,fun j _ h=>absurd h (by omega)⟩
               case round=>
                obtain⟨k,hk,rfl,rfl,hwr,hrg⟩:=hrel;rw[hwr];clear hwr;have Hrg:=qq hrg;clear hrg
                by_cases hkN:k<nw
                · have hkl:k<(low).length:=by rw[Hlvl.out]; exact hkN
                  obtain⟨_,_,q,_,hcell⟩:=Hlow3.out.at_ (by omega)
                  cases q
                  have e0:=hcell k hkl
                  try rw[Nat.zero_add] at e0
                  obtain⟨z,hz⟩:∃ z,(low)[k]=z:=⟨_,rfl⟩;rw[hz] at e0;have Hz:=qq hz
                  have i1:(0:Int)≤(k:Int):=by omega
                  have i2:(k:Int)<(nw:Int):=by omega
                  clear hz hcell
                  by_cases hz1:1≤z∧z≤3
                  · have f1:decide (z<1)=false:=by simp; omega
                    have f2:decide (z>3)=false:=by simp; omega
                    have Hz1:=qq hz1;clear hz1;go_wp2_with fail;go_roundg (nw - (k+1))
                    case measure=>omega
                    case rel=>
                     refine⟨k+1,by omega,rfl,by simp,rfl,fun j hj hjk=>?_⟩
                     rcases Nat.lt_or_ge j k with h | h
                     · exact Hrg.out j hj h
                     · have:j=k:=by omega
                       subst this
                       rw[Hz.out]; exact Hz1.out
                  · have hR:SolveR (nw:Int) low xs [] [] 2:=Or.inr (Or.inl ⟨by omega,by omega,fun h=>hz1 (by have:=HOK.out.2 h _ (List.getElem_mem hkl); rw[Hz.out] at this; exact this),rfl,rfl,rfl⟩)
                    have HR:=qq hR;have hb9:=Hbw.out.trans (Hb3.out.mono hw1);have Hb9:=qq hb9;clear hR hb9
                    by_cases hz2:z<1
                    · have f1:decide (z<1)=true:=by simp; omega
                      clear hz1 hz2;go_wp2_with fail;exact bodyPost_ret (v:=.tuple #[.slice none 0 0,.slice none 0 0,.int .i64 2]) (by simp[results,Tryz.results33,go_sem]) rfl ⟨_,_,_,_,_,_,_,_,_,rfl,RdI.nil,RdI.nil,HR.out,Hb9.out⟩
                    · have f1:decide (z<1)=false:=by simp; omega
                      have f2:decide (z>3)=true:=by simp; omega
                      clear hz1 hz2;go_wp2_with fail;exact bodyPost_ret (v:=.tuple #[.slice none 0 0,.slice none 0 0,.int .i64 2]) (by simp[results,Tryz.results33,go_sem]) rfl ⟨_,_,_,_,_,_,_,_,_,rfl,RdI.nil,RdI.nil,HR.out,Hb9.out⟩
                · have hall:∀ z∈low,1≤z∧z≤3:=fun z hz=>by
                   obtain⟨j,hj,rfl⟩:=List.getElem_of_mem hz
                   exact Hrg.out j hj (by have:=Hlvl.out; omega)
                  have hlv3:∀ v,v<(low).length→(low).getD v 0≤3:=fun v hv=>by
                   have:=hall _ (List.getElem_mem hv);rw[List.getD_eq_getElem?_getD,qj hv];exact this.2
                  have Hlv3:=qq hlv3;have HOK1:=qq (HOK.out.1 hall);clear hall hlv3;go_wp2_with fail;refine(Hrun.out Hlv3.out).mono ?_;rintro e w4 ⟨rfl,is,why,hI4,hY4,hE4,ho4⟩
                  have hg4:w2.heap.size∉[I,Y,F]:=by simp; omega
                  have hS4:∀ s∈[I,Y,F],w1.heap.size≤s:=by intro s hs; simp at hs; omega
                  have hsb4:=Hsb.out.off ho4 hg4;have hb34:=ho4.below hS4 (by omega);have hb4:Below w1.heap.size w1 w4:=Hb3.out.trans hb34;have hlow4:=Hlow3.out.below hb34;have hxs4:=Hxs3.out.below (hb34.mono hw1);have hw4:w1.heap.size≤w4.heap.size:=hb4.size
                  have hisl:is.length=nw:=by rw[hE4.inv.il]; exact Hlvl.out
                  have hRI:=hI4.rd hisl Hci.out.1 Hci.out.2;have hgl4:=hsb4.lt;have Hb4:=qq hb4;have Hsb4:=qq hsb4;have Hlow4:=qq hlow4;have Hxs4:=qq hxs4;have HRI:=qq hRI;have HY4:=qq hY4;have HE4:=qq hE4;clear hI4 hY4 hE4 ho4 hg4 hS4 hsb4 hb34 hb4 hlow4 hxs4 hRI;go_wp2_with fail
                  go_loopg [73] nl (fun gh i wr=>∃ k,k≤nl∧gh=nl - k∧i=.int .i64 (k:Nat)∧Below w4.heap.size w4 wr∧∀ (j:Nat) x,j<k→xs[j]?=some x→x.r<0→leftL is x≤x.c)
                  case atStart=>exact⟨0,Nat.zero_le _,rfl,rfl,Below.refl _ _,fun j x h=>absurd h (by omega)⟩
                  case round=>
                   obtain⟨k,hk,rfl,rfl,hbr,hdone⟩:=hrel;have Hdone:=qq hdone;clear hdone;have Hbr:=qq hbr
                   by_cases hkl:k<nl
                   · have hkx:k<xs.length:=by omega
                     obtain⟨_,_,_,_,hcell⟩:=(Hxs4.out.below (hbr.mono (by omega))).at_ (by omega)
                     rename_i bl offl hAl hbl
                     subst hAl;obtain⟨e0,e1,e2,e3⟩:=hcell k hkx;have hxi:xs[k]?=some xs[k]:=qj hkx;have hov:=OverL.of_may (Hmay.out _ (List.getElem_mem hkx));generalize xs[k]=x at e0 e1 e2 e3 hxi hov;have Hxi:=qq hxi;have Hov:=qq hov
                     have i1:(0:Int)≤(k:Int):=by omega
                     have i2:(k:Int)<nl:=by omega
                     have hX:=blk_new wr #[.int .i64 x.lv,.int .u8 x.lc,.int .u8 x.c,.int .i64 x.r] 70;have hbx:=below_box (w:=wr) (Obj.cells #[.int .i64 x.lv,.int .u8 x.lc,.int .u8 x.c,.int .i64 x.r] 70);have hb5:Below w4.heap.size w4 (wr.alloc (Obj.cells #[.int .i64 x.lv,.int .u8 x.lc,.int .u8 x.c,.int .i64 x.r] 70)):=hbr.trans (hbx.mono hbr.size);have HX:=qq hX;have Hb5:=qq hb5;clear hcell hxi hov hX hbx hb5 hbr
                     by_cases hr0:x.r<0
                     · have f1:decide (x.r<0)=true:=by simp; omega
                       obtain⟨L,hL⟩:∃ L,leftL is x=L:=⟨_,rfl⟩;have HL:=qq hL;have Hr0:=qq hr0;clear hL hr0
                       by_cases hLc:L>x.c
                       · have f2:decide (L>x.c)=true:=by simp; omega
                         have HLc:=qq hLc;clear hLc;go_wp2_with fail;generalize hW5:wr.alloc (Obj.cells #[.int .i64 x.lv,.int .u8 x.lc,.int .u8 x.c,.int .i64 x.r] 70)=w5 at HX Hb5 ⊢;clear hW5;have y2:w5.cell? ⟨w2.heap.size,2,none⟩=some (.slice (some ⟨I,0,none⟩) nw ci):=(Hb5.out.cell (p:=⟨w2.heap.size,2,none⟩) hgl4).trans (Hsb4.out.cell 2);have hr5:=(HRI.out.below Hb5.out).more Hb5.out.size;have hg5:w2.heap.size<w5.heap.size:=Nat.lt_of_lt_of_le hgl4 Hb5.out.size
                         have hq:∀ d os,Calls Tryz.prog 84 #[.pointer (some ⟨w2.heap.size,0,none⟩),.agg #[.int .i64 x.lv,.int .u8 x.lc,.int .u8 x.c,.int .i64 x.r]] («Sort».grow (redrawn w5 d) os) (fun e w'=>e=.returned (.int .u8 L)∧Below («Sort».grow (redrawn w5 d) os).heap.size («Sort».grow (redrawn w5 d) os) w'):=fun d os=>
                          left_at (x:=x) HL.out (cell_regrown y2 d os) ((hr5.below (below_regrown w5 d os)).more (below_regrown w5 d os).size) (Nat.lt_of_lt_of_le hg5 (below_regrown w5 d os).size) Hov.out.lv
                         replace hq:=qq hq;have kx0:=fun d os=>cell_regrown (HX.out.cell 0) d os;have kx1:=fun d os=>cell_regrown (HX.out.cell 1) d os;have kx2:=fun d os=>cell_regrown (HX.out.cell 2) d os;have kx3:=fun d os=>cell_regrown (HX.out.cell 3) d os;clear y2 hr5 hg5;refine wp_region_quiet_below (by kernel_rfl) (by kernel_rfl) ?_
                         repeat (go_big_quiet_step ((first | (go_at_call 84; exact Calls.regrown_of (hq.out _ _)))))
                         refine wpQuiet_nil ?_;intro _ hw';obtain⟨⟨dq,osq⟩,hw''⟩:=hw';subst hw'';have hb6:=Hb5.out.trans ((below_regrown w5 dq osq).mono Hb5.out.size);clear kx0 kx1 kx2 kx3 hq;generalize «Sort».grow (redrawn w5 dq) osq=w6 at hb6 ⊢;have Hb6:=qq hb6;clear hb6;go_wp2_with fail;have hsb6:=Hsb4.out.below Hb6.out hgl4
                         have hcore:=core_any w2.heap.size Y nw cw nw nl cl (some ⟨bl,offl,none⟩) (some ⟨ba,oa,none⟩) xs low is why k x w6 (hsb6.cell 0) (hsb6.cell 1) (hsb6.cell 3) ((Hxs4.out.below (Hb6.out.mono (by omega))).more (Nat.le_trans (by omega) Hb6.out.size)) ((Hlow4.out.below (Hb6.out.mono hw4)).more (Nat.le_trans hw4 Hb6.out.size)) (HY4.out.below Hb6.out HY4.out.lt) hsb6.lt (by omega) HE4.out Hlv3.out Hxi.out Hr0.out (by have:=HL.out; have:=HLc.out; omega)
                         refine hcore.mono ?_;rintro e w7 ⟨A7,m7,c7,l7,rfl,hch7,hr7,hb7⟩
                         have hR:SolveR (nw:Int) low xs [] ((natI (k :: l7)).mergeSort fun a b=>decide (a≤b)) 40:=Or.inr (Or.inr ⟨by omega,by omega,HOK1.out,is,why,by rw[Hlow0.out]; exact HE4.out,Or.inl ⟨k,x,l7,Hxi.out,Hr0.out,(by have:=HL.out; have:=HLc.out; omega),by rw[Hlow0.out]; exact hch7,rfl,rfl,rfl⟩⟩)
                         have HR:=qq hR;have hb9:=((Hbw.out.trans (Hb4.out.mono hw1)).trans (Hb6.out.mono (by omega))).trans (hb7.mono (Nat.le_trans (by omega) Hb6.out.size));have Hr7:=qq hr7;have Hb9:=qq hb9;clear hR hb9 hr7 hb7 hch7 hcore hsb6;go_wp2_with fail;exact bodyPost_ret (v:=.tuple #[.slice none 0 0,.slice A7 m7 c7,.int .i64 40]) (by simp[results,Tryz.results33,go_sem]) rfl ⟨_,_,_,_,_,_,_,_,_,rfl,RdI.nil,Hr7.out,HR.out,Hb9.out⟩
                       · have f2:decide (L>x.c)=false:=by simp; omega
                         have HLc:=qq hLc;clear hLc;go_wp2_with fail;generalize hW5:wr.alloc (Obj.cells #[.int .i64 x.lv,.int .u8 x.lc,.int .u8 x.c,.int .i64 x.r] 70)=w5 at HX Hb5 ⊢;clear hW5;have y2:w5.cell? ⟨w2.heap.size,2,none⟩=some (.slice (some ⟨I,0,none⟩) nw ci):=(Hb5.out.cell (p:=⟨w2.heap.size,2,none⟩) hgl4).trans (Hsb4.out.cell 2);have hr5:=(HRI.out.below Hb5.out).more Hb5.out.size;have hg5:w2.heap.size<w5.heap.size:=Nat.lt_of_lt_of_le hgl4 Hb5.out.size
                         have hq:∀ d os,Calls Tryz.prog 84 #[.pointer (some ⟨w2.heap.size,0,none⟩),.agg #[.int .i64 x.lv,.int .u8 x.lc,.int .u8 x.c,.int .i64 x.r]] («Sort».grow (redrawn w5 d) os) (fun e w'=>e=.returned (.int .u8 L)∧Below («Sort».grow (redrawn w5 d) os).heap.size («Sort».grow (redrawn w5 d) os) w'):=fun d os=>
                          left_at (x:=x) HL.out (cell_regrown y2 d os) ((hr5.below (below_regrown w5 d os)).more (below_regrown w5 d os).size) (Nat.lt_of_lt_of_le hg5 (below_regrown w5 d os).size) Hov.out.lv
                         replace hq:=qq hq;have kx0:=fun d os=>cell_regrown (HX.out.cell 0) d os;have kx1:=fun d os=>cell_regrown (HX.out.cell 1) d os;have kx2:=fun d os=>cell_regrown (HX.out.cell 2) d os;have kx3:=fun d os=>cell_regrown (HX.out.cell 3) d os;clear y2 hr5 hg5;refine wp_region_quiet_below (by kernel_rfl) (by kernel_rfl) ?_
                         repeat (go_big_quiet_step ((first | (go_at_call 84; exact Calls.regrown_of (hq.out _ _)))))
                         refine wpQuiet_nil ?_;intro _ hw';obtain⟨⟨dq,osq⟩,hw''⟩:=hw';subst hw'';have hb6:=Hb5.out.trans ((below_regrown w5 dq osq).mono Hb5.out.size);clear kx0 kx1 kx2 kx3 hq;generalize «Sort».grow (redrawn w5 dq) osq=w6 at hb6 ⊢;have Hb6:=qq hb6;clear hb6;go_wp2_with fail;go_roundg (nl - (k+1))
                         case measure=>omega
                         case rel=>
                          refine⟨k+1,by omega,rfl,by simp,Hb6.out,fun j y hj hy hr=>?_⟩
                          rcases Nat.lt_or_ge j k with h | h
                          · exact Hdone.out j y h hy hr
                          · have:j=k:=by omega
                            subst this;rw[Hxi.out] at hy
                            cases hy
                            have:=HL.out;have:=HLc.out;omega
                     · have f1:decide (x.r<0)=false:=by simp; omega
                       go_wp2_with fail;generalize hW5:wr.alloc (Obj.cells #[.int .i64 x.lv,.int .u8 x.lc,.int .u8 x.c,.int .i64 x.r] 70)=w5 at HX Hb5 ⊢;clear hW5;have x3:w5.cell? ⟨wr.heap.size,3,none⟩=some (.int .i64 x.r):=HX.out.cell 3
                       go_quiet (fail)
                       go_wp2_with fail;go_roundg (nl - (k+1))
                       case measure=>omega
                       case rel=>
                        refine⟨k+1,by omega,rfl,by simp,below_drewN_t Hb5.out _,fun j y hj hy hr=>?_⟩
                        rcases Nat.lt_or_ge j k with h | h
                        · exact Hdone.out j y h hy hr
                        · have:j=k:=by omega
                          subst this;rw[Hxi.out] at hy
                          cases hy
                          omega
                   · have hend:∀ x∈xs,x.r<0→leftL is x≤x.c:=fun x hx hr=>by
                      obtain⟨j,hj⟩:=List.getElem?_of_mem hx
                      exact Hdone.out j x (by have:=(List.getElem?_eq_some_iff.1 hj).1; omega) hj hr
                     have hR:SolveR (nw:Int) low xs is [] 0:=Or.inr (Or.inr ⟨by omega,by omega,HOK1.out,is,why,by rw[Hlow0.out]; exact HE4.out,Or.inr ⟨hend,rfl,rfl,rfl⟩⟩)
                     have HR:=qq hR;have hr9:=(HRI.out.below hbr).more hbr.size;have hb9:=(Hbw.out.trans (Hb4.out.mono hw1)).trans (hbr.mono (by omega));have x2:wr.cell? ⟨w2.heap.size,2,none⟩=some (.slice (some ⟨I,0,none⟩) nw ci):=(hbr.cell (p:=⟨w2.heap.size,2,none⟩) hgl4).trans (Hsb4.out.cell 2);have Hr9:=qq hr9;have Hb9:=qq hb9;clear hend hR hr9 hb9 hbr;go_wp2_with fail;exact bodyPost_ret (v:=.tuple #[.slice (some ⟨I,0,none⟩) nw ci,.slice none 0 0,.int .i64 0]) (by simp[results,Tryz.results33,go_sem]) rfl ⟨_,_,_,_,_,_,_,_,_,rfl,Hr9.out,RdI.nil,HR.out,Hb9.out⟩
             · skip
               intro m l a w2 hJ;obtain⟨b3,b4,b6,b8,rfl,h6,hm,hJS⟩:=hJ;have hS:w2.cell? ⟨w.heap.size,0,none⟩=some (.int .i64 (nw:Int)):=(hJS.bel.cell (p:=⟨w.heap.size,0,none⟩) (block_lt_of_cell hy)).trans hy;have hlow2:=(hlow.below hJS.bel).more hJS.bel.size
               cases b3 <;> cases b4 <;> cases b6 <;> cases b8 <;> simp only[Bool.toNat_true,Bool.toNat_false,Bool.false_eq_true,true_and,false_and,and_false,and_true,and_self,forall_const,reduceCtorEq,Nat.add_zero,imp_false,not_true,not_false_iff,implies_true] at hm h6
               refine ready_3 3 4 8 (by kernel_rfl) ?_ ?_ ?_;rotate_left 3;refine ready_2 3 4 (by kernel_rfl) ?_ ?_;rotate_left 2;refine ready_2 3 8 (by kernel_rfl) ?_ ?_;rotate_left 2;refine ready_1 3 (by kernel_rfl) ?_;rotate_left 1;refine ready_2 4 8 (by kernel_rfl) ?_ ?_;rotate_left 2;refine ready_1 4 (by kernel_rfl) ?_;rotate_left 1;refine ready_2 6 8 (by kernel_rfl) ?_ ?_;rotate_left 2;refine ready_1 6 (by kernel_rfl) ?_;rotate_left 1;refine ready_1 8 (by kernel_rfl) ?_;rotate_left 1;omega
               all_goals first
                | skip
                  refine wpOp_step (i:=3) rfl (fun K hK=>?_);have t47:=hJS.jt.t47;go_simp;refine(clone_mult _ nw cw low w2 hlow2 (by omega)).mono ?_;rintro e w5 ⟨I,ci,rfl,ho,hb5⟩;have hJ5:=hJS.put3 hb5 ho;refine hK.out _ _ ?_
                  exact⟨fun _=>(hb5.cell (p:=⟨w.heap.size,0,none⟩) (block_lt_of_cell hS)).trans hS,_,_,_,_,by kernel_rfl,by decide,by simp only[Bool.toNat_true,Bool.toNat_false]; omega,hJ5⟩
                | skip
                  refine wpOp_step (i:=4) rfl (fun K hK=>?_);go_simp;have hb5:=below_box (w:=w2) (Obj.cells #[.int .i64 (-1)] 3);have hJ5:=hJS.put4 hb5 ((blk_new w2 #[.int .i64 (-1)] 3).cell 0);refine hK.out _ _ ?_
                  exact⟨fun _=>(hb5.cell (p:=⟨w.heap.size,0,none⟩) (block_lt_of_cell hS)).trans hS,_,_,_,_,by kernel_rfl,by decide,by simp only[Bool.toNat_true,Bool.toNat_false]; omega,hJ5⟩
                | skip
                  refine wpOp_step (i:=6) rfl (fun K hK=>?_);have t50:=hJS.jt.t50;obtain⟨I,ci,G,Y,F,_,h4,_⟩:=hJS.ex;obtain⟨t49,hG,hGl⟩:=h4 rfl;go_simp;refine(repeat_int (.int .i64 (-1)) rfl nw hN20 ⟨G,0,none⟩ 1 w2 hG hGl).mono ?_;rintro e w5 ⟨g,rfl,hk5,hg5,hb5⟩;have hJ5:=hJS.put6 hb5 hk5 hg5;refine hK.out _ _ ?_
                  exact⟨fun _=>(hb5.cell (p:=⟨w.heap.size,0,none⟩) (block_lt_of_cell hS)).trans hS,_,_,_,_,by kernel_rfl,by decide,by simp only[Bool.toNat_true,Bool.toNat_false]; omega,hJ5⟩
                | skip
                  refine wpOp_step (i:=8) rfl (fun K hK=>?_);have t52:=hJS.jt.t52;have hmr:=make_rows nw hN20 w2;go_simp;have hb5:=below_box (w:=w2) (Obj.cells (Array.replicate nw (Value.slice none 0 0)) 30)
                  have hJ5:=hJS.put8 hb5 (F:=w2.heap.size) (by rw[List.toArray_replicate]; exact blk_new _ _ _) (Nat.le_refl _)
                  refine hK.out _ _ ?_
                  exact⟨fun _=>(hb5.cell (p:=⟨w.heap.size,0,none⟩) (block_lt_of_cell hS)).trans hS,_,_,_,_,by kernel_rfl,by decide,by simp only[Bool.toNat_true,Bool.toNat_false]; omega,hJ5⟩
end Go.Proofs.YtdmakpmbknindaaGreatDoor
