import Derived.Test.YtdmakpmbknindaaGreatDoorM30
set_option linter.unusedVariables false
set_option linter.unusedSimpArgs false
set_option maxHeartbeats 4000000
set_option maxRecDepth 100000
namespace Go.Proofs.YtdmakpmbknindaaGreatDoor
open Go.RowKit
attribute [local go_sem] run_store_func
theorem readT_none (w:World) (B:Nat):ReadT w B StM.none fun _=>none:=fun i=>.inl ⟨rfl,rfl⟩
theorem readM_none:ReadM StM.none fun _=>none:=fun i=>rfl
theorem match_mem (w:World) (T U:Array Value) (t1:TypeId):
 ∃ W,((((((w.alloc (Obj.cells T t1)).alloc (Obj.cells U t1)).alloc (Obj.map #[] 0)).alloc (Obj.map #[] 0)).alloc (Obj.cells #[.map (some (w.heap.size+1+1))] 104)).alloc (Obj.cells #[.map (some (w.heap.size+1+1+1))] 105)).alloc (Obj.cells #[.func (.func 123) #[] #[.pointer (some ⟨w.heap.size+1+1+1+1,0,none⟩),.pointer (some ⟨w.heap.size+1+1+1+1+1,0,none⟩),.pointer (some ⟨w.heap.size+1+1+1+1+1+1,0,none⟩)]] 58)=W ∧
  Blk W w.heap.size t1 T∧Blk W (w.heap.size+1) t1 U∧Below w.heap.size w W∧W.heap.size=w.heap.size+7 ∧
  MSt W w.heap.size (w.heap.size+1+1+1+1) (w.heap.size+1+1+1+1+1) (w.heap.size+1+1+1+1+1+1) (w.heap.size+1+1) (w.heap.size+1+1+1) 0 StM.none:=by
 obtain⟨W1,h1⟩:∃ x,w.alloc (Obj.cells T t1)=x:=⟨_,rfl⟩
 have s1:W1.heap.size=w.heap.size+1:=by rw[← h1]; simp
 have k1:=blk_new w T t1;have g1:=below_box (w:=w) (Obj.cells T t1);rw[h1] at k1 g1;obtain⟨W2,h2⟩:∃ x,W1.alloc (Obj.cells U t1)=x:=⟨_,rfl⟩
 have s2:W2.heap.size=w.heap.size+1+1:=by rw[← h2,← s1]; simp
 have k2:=blk_new W1 U t1;have g2:=below_box (w:=W1) (Obj.cells U t1);rw[h2,s1] at k2 g2;obtain⟨W3,h3⟩:∃ x,W2.alloc (Obj.map #[] 0)=x:=⟨_,rfl⟩
 have s3:W3.heap.size=w.heap.size+1+1+1:=by rw[← h3,← s2]; simp
 have k3:=MapV.made W2 Tryz.prog 3 zT;have g3:=below_box (w:=W2) (Obj.map #[] 0);rw[h3,s2] at k3 g3;obtain⟨W4,h4⟩:∃ x,W3.alloc (Obj.map #[] 0)=x:=⟨_,rfl⟩
 have s4:W4.heap.size=w.heap.size+1+1+1+1:=by rw[← h4,← s3]; simp
 have k4:=MapV.made W3 Tryz.prog 3 zM;have g4:=below_box (w:=W3) (Obj.map #[] 0);rw[h4,s3] at k4 g4;obtain⟨W5,h5⟩:∃ x,W4.alloc (Obj.cells #[.map (some (w.heap.size+1+1))] 104)=x:=⟨_,rfl⟩
 have s5:W5.heap.size=w.heap.size+1+1+1+1+1:=by rw[← h5,← s4]; simp
 have k5:=blk_new W4 #[.map (some (w.heap.size+1+1))] 104;have g5:=below_box (w:=W4) (Obj.cells #[.map (some (w.heap.size+1+1))] 104);rw[h5,s4] at k5 g5;obtain⟨W6,h6⟩:∃ x,W5.alloc (Obj.cells #[.map (some (w.heap.size+1+1+1))] 105)=x:=⟨_,rfl⟩
 have s6:W6.heap.size=w.heap.size+1+1+1+1+1+1:=by rw[← h6,← s5]; simp
 have k6:=blk_new W5 #[.map (some (w.heap.size+1+1+1))] 105;have g6:=below_box (w:=W5) (Obj.cells #[.map (some (w.heap.size+1+1+1))] 105);rw[h6,s5] at k6 g6
 obtain⟨F,hF⟩:∃ F:Value,.func (.func 123) #[] #[.pointer (some ⟨w.heap.size+1+1+1+1,0,none⟩),.pointer (some ⟨w.heap.size+1+1+1+1+1,0,none⟩),.pointer (some ⟨w.heap.size+1+1+1+1+1+1,0,none⟩)]=F:=⟨_,rfl⟩
 obtain⟨W7,h7⟩:∃ x,W6.alloc (Obj.cells #[F] 58)=x:=⟨_,rfl⟩
 have s7:W7.heap.size=w.heap.size+1+1+1+1+1+1+1:=by rw[← h7,← s6]; simp
 have k7:=blk_new W6 #[F] 58;have g7:=below_box (w:=W6) (Obj.cells #[F] 58);rw[h7,s6] at k7 g7;have G6:Below (w.heap.size+1+1+1+1+1) W5 W7:=g6.trans (g7.mono (by omega));have G5:Below (w.heap.size+1+1+1+1) W4 W7:=g5.trans (G6.mono (by omega));have G4:Below (w.heap.size+1+1+1) W3 W7:=g4.trans (G5.mono (by omega));have G3:Below (w.heap.size+1+1) W2 W7:=g3.trans (G4.mono (by omega));have G2:Below (w.heap.size+1) W1 W7:=g2.trans (G3.mono (by omega));have G1:Below w.heap.size w W7:=g1.trans (G2.mono (by omega));refine⟨_,rfl,?_⟩;rw[h1,h2,h3,h4,h5,h6,hF,h7]
 refine⟨k1.below G2 (by omega),k2.below G3 (by omega),G1,by omega,k5.below G6 (by omega),k6.below g7 (by omega),?_,⟨_,k3.below G4 (by omega),readT_none _ _⟩,⟨_,k4.below G5 (by omega),readM_none⟩,KeysS.none,by omega,by omega,by omega,by omega⟩
 rw[← hF] at k7;exact k7
def MatchPost (t u:TyD) (w:World) (e:Ending) (w':World):Prop:=
 ∃ b1 b2 f1 f2,e=.returned (.tuple #[.map (some b1),.map (some b2),.bool (fitsN (nodes t) t u StM.none).1])∧MapV w' Tryz.prog 3 b1 (capN (nodes t)) zT f1∧ReadT w' w.heap.size (fitsN (nodes t) t u StM.none).2 f1∧MapV w' Tryz.prog 3 b2 (capN (nodes t)) zM f2∧ReadM (fitsN (nodes t) t u StM.none).2 f2∧Below w.heap.size w w'
theorem match_any (t u:TyD) (hm:mayT t=true) (A:Option Addr) (m cp:Nat) (A':Option Addr) (m' cp':Nat) (w:World) (ht:TysV w w.heap.size A m cp t.l) (hu:TysV w w.heap.size A' m' cp' u.l):
 Calls Tryz.prog 68 #[.agg #[.int .u8 t.k,.int .i64 t.n,.int .i64 t.v,.int .u8 t.c,.slice A m cp],.agg #[.int .u8 u.k,.int .i64 u.n,.int .i64 u.v,.int .u8 u.c,.slice A' m' cp']] w (MatchPost t u w):=by
 have hmm:=@run_makeMap Tryz.prog;obtain⟨W,hW,k1,k2,hb,hs,hM⟩:=match_mem w #[.int .u8 t.k,.int .i64 t.n,.int .i64 t.v,.int .u8 t.c,.slice A m cp] #[.int .u8 u.k,.int .i64 u.n,.int .i64 u.v,.int .u8 u.c,.slice A' m' cp'] 27;have HW:=qq hW;have Hb:=qq hb;have HM:=qq hM;have HK1:=qq k1;have HK2:=qq k2;have Ht:=qq (ht.below hb);have Hu:=qq (hu.below hb);clear hW hb hM k1 k2 ht hu
 go_enter Tryz.func68,Tryz.ntmps68
 go_upto_region 4 with fail;rw[HW.out];clear hmm
 have HKS:Hid (∀ W',GrewM (w.heap.size+1+1) (w.heap.size+1+1+1) W W'→W'.cell? ⟨w.heap.size+1+1+1+1,0,none⟩=some (.map (some (w.heap.size+1+1)))∧W'.cell? ⟨w.heap.size+1+1+1+1+1,0,none⟩=some (.map (some (w.heap.size+1+1+1)))∧W'.cell? ⟨w.heap.size+1+1+1+1+1+1,0,none⟩=some (.func (.func 123) #[] #[.pointer (some ⟨w.heap.size+1+1+1+1,0,none⟩),.pointer (some ⟨w.heap.size+1+1+1+1+1,0,none⟩),.pointer (some ⟨w.heap.size+1+1+1+1+1+1,0,none⟩)])∧W'.cell? ⟨w.heap.size,0,none⟩=some (.int .u8 t.k)∧W'.cell? ⟨w.heap.size,1,none⟩=some (.int .i64 t.n)∧W'.cell? ⟨w.heap.size,2,none⟩=some (.int .i64 t.v)∧W'.cell? ⟨w.heap.size,3,none⟩=some (.int .u8 t.c)∧W'.cell? ⟨w.heap.size,4,none⟩=some (.slice A m cp)∧W'.cell? ⟨w.heap.size+1,0,none⟩=some (.int .u8 u.k)∧W'.cell? ⟨w.heap.size+1,1,none⟩=some (.int .i64 u.n)∧W'.cell? ⟨w.heap.size+1,2,none⟩=some (.int .i64 u.v)∧W'.cell? ⟨w.heap.size+1,3,none⟩=some (.int .u8 u.c)∧W'.cell? ⟨w.heap.size+1,4,none⟩=some (.slice A' m' cp')):=qq fun W' hW'=>by
  have hp:=HM.out.pne;have c1:=hW'.blk HM.out.c1 hp.1.1 hp.1.2;have c2:=hW'.blk HM.out.c2 hp.2.1.1 hp.2.1.2;have c3:=hW'.blk HM.out.c3 hp.2.2.1 hp.2.2.2;have k1:=hW'.blk HK1.out (by omega) (by omega);have k2:=hW'.blk HK2.out (by omega) (by omega);exact⟨c1.cell 0,c2.cell 0,c3.cell 0,k1.cell 0,k1.cell 1,k1.cell 2,k1.cell 3,k1.cell 4,k2.cell 0,k2.cell 1,k2.cell 2,k2.cell 3,k2.cell 4⟩
 refine wp_region_noPanic ?_
 refine wp_region_T (fun W'=>W'.cell? ⟨w.heap.size+1+1+1+1,0,none⟩=some (.map (some (w.heap.size+1+1)))∧W'.cell? ⟨w.heap.size+1+1+1+1+1,0,none⟩=some (.map (some (w.heap.size+1+1+1)))∧W'.cell? ⟨w.heap.size+1+1+1+1+1+1,0,none⟩=some (.func (.func 123) #[] #[.pointer (some ⟨w.heap.size+1+1+1+1,0,none⟩),.pointer (some ⟨w.heap.size+1+1+1+1+1,0,none⟩),.pointer (some ⟨w.heap.size+1+1+1+1+1+1,0,none⟩)])∧W'.cell? ⟨w.heap.size,0,none⟩=some (.int .u8 t.k)∧W'.cell? ⟨w.heap.size,1,none⟩=some (.int .i64 t.n)∧W'.cell? ⟨w.heap.size,2,none⟩=some (.int .i64 t.v)∧W'.cell? ⟨w.heap.size,3,none⟩=some (.int .u8 t.c)∧W'.cell? ⟨w.heap.size,4,none⟩=some (.slice A m cp)∧W'.cell? ⟨w.heap.size+1,0,none⟩=some (.int .u8 u.k)∧W'.cell? ⟨w.heap.size+1,1,none⟩=some (.int .i64 u.n)∧W'.cell? ⟨w.heap.size+1,2,none⟩=some (.int .i64 u.v)∧W'.cell? ⟨w.heap.size+1,3,none⟩=some (.int .u8 u.c)∧W'.cell? ⟨w.heap.size+1,4,none⟩=some (.slice A' m' cp')) 9 (by kernel_rfl) (HKS.out _ (GrewM.refl _ _ _).drew) (fun hHeld=>?_)
 have hMD:=HM.out.drew;have hGD:=(GrewM.refl (w.heap.size+1+1) (w.heap.size+1+1+1) W).drew;have hTD:TysV W.drew w.heap.size A m cp t.l:=Ht.out.below (Below.drew (Below.refl _ _));have hUD:TysV W.drew w.heap.size A' m' cp' u.l:=Hu.out.below (Below.drew (Below.refl _ _));generalize W.drew=W0 at hHeld hMD hGD hTD hUD ⊢;refine nx0 0 ?_
 iterate 5 (refine nx (v:=?_) rfl (by kernel_rfl) (fun _ _ _ h=>h) (by rfl) ?_ (by assumption) ?_; rotate_left; focus (intro w hSw; (try dsimp only at hSw); first | (go_simp; done) | (go_simp; with_reducible rfl)); try simp only[Act.put,qg,qe,qf,qd,qh,qi,Nat.reduceAdd])
 refine nx9 ?_;clear hHeld;refine wpAnyT_step (i:=5) (by kernel_rfl) rfl (fun K hK=>?_)
 (go_simp; refine(fits_go (nodes t) t u (Nat.le_refl _) hm A m cp A' m' cp' W0 w.heap.size _ _ _ _ _ 0 StM.none hTD hUD hMD).mono ?_; rintro e W1 ⟨rfl,hM1,hG1'⟩; have hG1:=hGD.trans hG1'; clear hG1')
 refine hK.out _ _ (HKS.out _ hG1) ?_;clear hK K
 try simp only[Act.put,qg,qe,qf,qd,qh,qi]
 have hHeld:=HKS.out _ hG1;refine nx0 6 ?_
 iterate 3 (refine nx (v:=?_) rfl (by kernel_rfl) (fun _ _ _ h=>h) (by rfl) ?_ (by assumption) ?_; rotate_left; focus (intro w hSw; (try dsimp only at hSw); first | (go_simp; done) | (go_simp; with_reducible rfl)); try simp only[Act.put,qg,qe,qf,qd,qh,qi,Nat.reduceAdd])
 refine nx9 ?_;obtain⟨f1,hm1,hr1⟩:=hM1.m1;obtain⟨f2,hm2,hr2⟩:=hM1.m2;rw[Nat.zero_add] at hm1 hm2;have Hm1:=qq hm1;have Hm2:=qq hm2;have Hr1:=qq hr1;have Hr2:=qq hr2;have Hend:=qq (Hb.out.trans (hG1.below HM.out.l1 HM.out.l2 HM.out.l0));clear hHeld hM1 hG1 hGD hMD hTD hUD hm1 hm2 hr1 hr2;refine wpAnyT_seq 9 (by omega) (by rfl) (by kernel_rfl) ?_;simp only[List.drop_succ_cons,List.drop_zero];go_wp2_with fail;refine NoPanic.normal ?_;go_wp2_with fail
 exact bodyPost_ret (v:=.tuple #[.map (some (w.heap.size+1+1)),.map (some (w.heap.size+1+1+1)),.bool (fitsN (nodes t) t u StM.none).1]) (by simp[results,Tryz.results68,go_sem]) rfl ⟨_,_,f1,f2,rfl,Hm1.out,Hr1.out,Hm2.out,Hr2.out,Hend.out⟩
end Go.Proofs.YtdmakpmbknindaaGreatDoor
namespace Go.Proofs.YtdmakpmbknindaaGreatDoor
open Go.RowKit
def zeroTy:TyD:=.mk 0 0 0 0 []
def typesE (n:Nat) (s:StM):List TyD:=(List.range n).map fun i=>(s.types (i:Nat)).getD zeroTy
def multsE (n:Nat) (s:StM):List Int:=(List.range n).map fun i=>((s.mults (i:Nat)).getD (0,0)).2
theorem typesE_succ (n:Nat) (s:StM):typesE (n+1) s=typesE n s++[(s.types (n:Nat)).getD zeroTy]:=by unfold typesE; rw[List.range_succ,List.map_append]; rfl
theorem multsE_succ (n:Nat) (s:StM):multsE (n+1) s=multsE n s++[((s.mults (n:Nat)).getD (0,0)).2]:=by unfold multsE; rw[List.range_succ,List.map_append]; rfl
def putsE (s:SchD) (u:TyD):Bool × StM:=fitsN (nodes s.t) s.t u StM.none
def InstE (s:SchD) (u:TyD):Prop:=mayTE u=0∧(putsE s u).1=true∧LetsA (multsT s.t).length s.tab (multsE (multsT s.t).length (putsE s u).2)
structure InstR (s:SchD) (u:TyD) (ts:List TyD) (ms:List Int) (ok:Bool):Prop where
 iff:ok=true↔InstE s u
 yes:ok=true→ts=typesE (varsT s.t).length (putsE s u).2∧ms=multsE (multsT s.t).length (putsE s u).2
 no:ok=false→ts=[]∧ms=[]
def InstPost (s:SchD) (u:TyD) (w:World) (e:Ending) (w':World):Prop:=
 ∃ A n c ts A2 n2 c2 ms ok,e=.returned (.tuple #[.slice A n c,.slice A2 n2 c2,.bool ok])∧TysV w' w'.heap.size A n c ts∧RdI .u8 w' w'.heap.size A2 n2 c2 ms∧InstR s u ts ms ok∧Below w.heap.size w w'
theorem inst_no {s:SchD} {u:TyD} (h:¬ InstE s u):InstR s u [] [] false:=⟨⟨fun e=>Bool.noConfusion e,fun e=>absurd e h⟩,fun e=>Bool.noConfusion e,fun _=>⟨rfl,rfl⟩⟩
theorem inst_yes {s:SchD} {u:TyD} (h:InstE s u):InstR s u (typesE (varsT s.t).length (putsE s u).2) (multsE (multsT s.t).length (putsE s u).2) true:=⟨⟨fun _=>h,fun _=>rfl⟩,fun _=>⟨rfl,rfl⟩,fun e=>Bool.noConfusion e⟩
theorem readT_get {w:World} {B:Nat} {s:StM} {f:Int→Option Value} (h:ReadT w B s f) (i:Int):TyV w B ((f i).getD zT) ((s.types i).getD zeroTy):=by
 rcases h i with ⟨h1,h2⟩ | ⟨t,v,h1,h2,h3⟩
 · rw[h1,h2]
   exact⟨none,0,0,rfl,TysV.nil⟩
 · rw[h1,h2]
   exact h3
theorem readM_get {s:StM} {f:Int→Option Value} (h:ReadM s f) (i:Int):(f i).getD zM=.agg #[.int .i64 ((s.mults i).getD (0,0)).1,.int .u8 ((s.mults i).getD (0,0)).2]:=by
 rw[h i]
 cases s.mults i <;> rfl
theorem field_mu (v c:Int) (w:World):(Instr.field 24 (.agg #[.int .i64 v,.int .u8 c]) 1).run Tryz.prog w=.ok (.int .u8 c) w:=by kernel_rfl
theorem inst_any (s:SchD) (hs:OkSch s) (u:TyD) (v:Value) (A':Option Addr) (m' cp':Nat) (w:World) (hv:SchV w w.heap.size v s) (hu:TysV w w.heap.size A' m' cp' u.l):
 Calls Tryz.prog 21 #[v,.agg #[.int .u8 u.k,.int .i64 u.n,.int .i64 u.v,.int .u8 u.c,.slice A' m' cp']] w (InstPost s u w):=by
 obtain⟨A,m,cp,A1,c1,A2,c2,A3,c3,rfl,hr⟩:=hv;have hka:=blk_new w (cellsS s A m cp A1 c1 A2 c2 A3 c3) 40;have hba:=below_box (w:=w) (Obj.cells (cellsS s A m cp A1 c1 A2 c2 A3 c3) 40)
 have hsa:(w.alloc (Obj.cells (cellsS s A m cp A1 c1 A2 c2 A3 c3) 40)).heap.size=w.heap.size+1:=by simp
 have hka2:=hka.alloc (Obj.cells #[.int .u8 u.k,.int .i64 u.n,.int .i64 u.v,.int .u8 u.c,.slice A' m' cp'] 27);have hkb:=blk_new (w.alloc (Obj.cells (cellsS s A m cp A1 c1 A2 c2 A3 c3) 40)) #[.int .u8 u.k,.int .i64 u.n,.int .i64 u.v,.int .u8 u.c,.slice A' m' cp'] 27;have hbb:=hba.trans ((below_box (w:=w.alloc (Obj.cells (cellsS s A m cp A1 c1 A2 c2 A3 c3) 40)) (Obj.cells #[.int .u8 u.k,.int .i64 u.n,.int .i64 u.v,.int .u8 u.c,.slice A' m' cp'] 27)).mono hba.size);rw[hsa] at hkb;obtain⟨W,hW⟩:∃ x,(w.alloc (Obj.cells (cellsS s A m cp A1 c1 A2 c2 A3 c3) 40)).alloc (Obj.cells #[.int .u8 u.k,.int .i64 u.n,.int .i64 u.v,.int .u8 u.c,.slice A' m' cp'] 27)=x:=⟨_,rfl⟩;rw[hW] at hka2 hkb hbb;unfold cellsS at hW;have HW:=qq hW;have HK:=qq hka2;have HKu:=qq hkb;have Hb:=qq hbb;have HR:=qq (hr.fresh hbb);have Hu:=qq ((hu.below hbb).more hbb.size);have Hs:=qq hs;clear hka hba hsa hka2 hkb hbb hW hr hu hs;unfold cellsS
 go_enter Tryz.func21,Tryz.ntmps21
 go_upto_region 1 with fail;rw[HW.out];obtain⟨x0,x1,x2,x3,x4,x5,x6,x7,x8,x9⟩:=box_cells HK.out;go_wp2_with fail;refine(schMay_ok s Hs.out _ W ⟨A,m,cp,A1,c1,A2,c2,A3,c3,rfl,HR.out⟩).mono ?_;rintro e w1 ⟨rfl,hb1⟩;have HR1:=qq (HR.out.fresh hb1);have HK1:=qq (HK.out.below hb1 HK.out.lt);have HKu1:=qq (HKu.out.below hb1 HKu.out.lt);have Hu1:=qq ((Hu.out.below hb1).more hb1.size);have Hb1:=qq (Hb.out.trans (hb1.mono Hb.out.size));clear x0 x1 x2 x3 x4 x5 x6 x7 x8 x9 hb1 HW;have y0:=HKu1.out.cell 0;have y1:=HKu1.out.cell 1;have y2:=HKu1.out.cell 2;have y3:=HKu1.out.cell 3;have y4:=HKu1.out.cell 4;simp only[qc,qb,qa] at y0 y1 y2 y3 y4;go_wp2_with fail;refine(tyMay_any u _ w1 ⟨A',m',cp',rfl,Hu1.out⟩).mono ?_;rintro e w2 ⟨rfl,hb2⟩;have HR2:=qq (HR1.out.fresh hb2);have HK2:=qq (HK1.out.below hb2 HK1.out.lt);have HKu2:=qq (HKu1.out.below hb2 HKu1.out.lt);have Hu2:=qq ((Hu1.out.below hb2).more hb2.size);have Hb2:=qq (Hb1.out.trans (hb2.mono Hb1.out.size));clear y0 y1 y2 y3 y4 hb2
 by_cases hmay:mayTE u=0
 · rw[hmay]
   obtain⟨x0,x1,x2,x3,x4,x5,x6,x7,x8,x9⟩:=box_cells HK2.out;have y0:=HKu2.out.cell 0;have y1:=HKu2.out.cell 1;have y2:=HKu2.out.cell 2;have y3:=HKu2.out.cell 3;have y4:=HKu2.out.cell 4;simp only[qc,qb,qa] at y0 y1 y2 y3 y4;have Hmay:=qq hmay;clear hmay;go_wp2_with fail;refine(match_any s.t u (mayTE_may Hs.out.may) A m cp A' m' cp' w2 HR2.out.ty Hu2.out).mono ?_;rintro e w3 ⟨b1,b2,f1,f2,rfl,hm1,hr1,hm2,hr2,hb3⟩;obtain⟨⟨ok,σ⟩,hσ⟩:∃ q,fitsN (nodes s.t) s.t u StM.none=q:=⟨_,rfl⟩;rw[hσ] at hr1 hr2 ⊢;have Hσ:Hid (putsE s u=(ok,σ)):=qq hσ;have HK3:=qq (HK2.out.below hb3 HK2.out.lt);have HR3:=qq (HR2.out.fresh hb3);have Hb3:=qq (Hb2.out.trans (hb3.mono Hb2.out.size));have Hs23:=qq hb3.size;have Hm1:=qq hm1;have Hm2:=qq hm2;have Hr1:=qq hr1;have Hr2:=qq hr2;clear x0 x1 x2 x3 x4 x5 x6 x7 x8 x9 y0 y1 y2 y3 y4 hb3 hm1 hm2 hr1 hr2 hσ
   cases ok with
   | false=>
     have hno:¬ InstE s u:=fun h=>by have:=h.2.1; rw[Hσ.out] at this; exact Bool.noConfusion this
     have HN:=qq (inst_no hno);have HbE:=qq (Hb3.out);clear hno;go_wp2_with fail;exact bodyPost_ret (v:=.tuple #[.slice none 0 0,.slice none 0 0,.bool false]) (by simp[results,Tryz.results21,go_sem]) rfl ⟨none,0,0,[],none,0,0,[],false,rfl,TysV.nil,RdI.nil,HN.out,HbE.out⟩
   | true=>
     obtain⟨x0,x1,x2,x3,x4,x5,x6,x7,x8,x9⟩:=box_cells HK3.out;rw[Hs.out.ty] at x0;clear x1 x2 x3 x4 x5 x6 x7 x8 x9;obtain⟨nT,hnT'⟩:∃ k,(varsT s.t).length=k:=⟨_,rfl⟩;obtain⟨nM,hnM'⟩:∃ k,(multsT s.t).length=k:=⟨_,rfl⟩;have hnT:=vars_few (mayTE_may Hs.out.may);have hnM:=mults_few (mayTE_may Hs.out.may);rw[hnT'] at x0 hnT;rw[hnM'] at hnM;have HnT:=qq hnT';have HnM:=qq hnM';clear hnT' hnM'
     have nT63:nT≤9223372036854775807:=by omega
     have nM63:nM≤9223372036854775807:=by omega
     go_wp2_with fail;clear x0
     go_loopg [4,31] nT (fun gh s4 i wr=>∃ (k:Nat) (A:Option Addr) (c:Nat),k≤nT∧gh=nT - k∧s4=.slice A k c∧i=.int .i64 (k:Nat)∧OwnC wr w3.heap.size 27 5 (fun _=>False) (.slice A k c) k ((typesE k σ).flatMap encT)∧Below w3.heap.size w3 wr)
     case atStart=>exact⟨0,none,0,Nat.zero_le _,rfl,rfl,rfl,OwnC.nil,Below.refl _ _⟩
     case round=>
      obtain⟨k,A,c,hk,rfl,rfl,rfl,hown,hbel⟩:=hrel;have Hown:=qq hown;have Hbel:=qq hbel;clear hown hbel
      by_cases hkn:k<nT
      · have d0:decide (k<nT)=true:=by simpa using hkn
        have hwf:(Lit.int .i64 (k:Int)).wf=true:=WalkArith.wf_i64 (by omega);obtain⟨At,mt,ct,hval,hty⟩:=readT_get (Hr1.out.below (Hbel.out.mono Hs23.out)) (k:Nat);obtain⟨τ,hτ⟩:∃ x,(σ.types (k:Nat)).getD zeroTy=x:=⟨_,rfl⟩;have Hτ:=qq hτ;rw[hτ] at hval hty;have Hval:=qq hval;have HmK:=qq (Hm1.out.fresh Hbel.out);have hwr:=Hbel.out.size
        have hcel:CelsV wr (fun b=>b<wr.heap.size∧some b≠(Value.slice A k c).ownBlock∧¬ (fun _=>False) b) (encT τ) [.int .u8 τ.k,.int .i64 τ.n,.int .i64 τ.v,.int .u8 τ.c,.slice At mt ct]:=by
         refine tyC ((hty.in_).mono fun b hb=>⟨?_,fun e=>?_,fun h=>h⟩)
         · have:=Hs23.out; omega
         · have:=(Hown.out.lt _ e.symm).1; have:=Hs23.out; omega
        have Hcel:=qq hcel;obtain⟨i0,hi0,hz0,hz1,hz2⟩:=info_parts typeInfo;clear hval hty hτ hcel
        go_wp2_with (first | (at_lookup; refine wpList_look_V _ rfl _ _ 104 rfl 3 27 Tryz.underlying3 Tryz.underlying104 (zeroType_run _) b1 _ f1 rfl HmK.out k rfl hwf _ Hval.out ?_) | (at_builtin; refine wpList_append_cel w3 wr rfl (.tmp 34) (.tmp 38) 25 rfl w3.heap.size 27 i0 _ 5 56 Tryz.underlying25 hi0 hz0 hz1 hz2 rfl (by omega) (fun _=>False) (.slice A k c) k _ rfl [.int .u8 τ.k,.int .i64 τ.n,.int .i64 τ.v,.int .u8 τ.c,.slice At mt ct] (encT τ) rfl (by intro u hu; simp at hu; rcases hu with rfl | rfl | rfl | rfl | rfl <;> rfl) rfl Hown.out Hcel.out (by unfold maxLen; omega) (by omega) Hbel.out (Nat.le_refl _) hwr ?_; intro A6 c6 w6 ho6 hbel6 hg6 hz6 _))
        go_roundg (nT - (k+1))
        case measure=>omega
        case rel=>exact⟨k+1,A6,c6,by omega,rfl,rfl,by simp,by rw[typesE_succ,Hτ.out,List.flatMap_append]; simpa using ho6,hbel6⟩
      · have d0:decide (k<nT)=false:=by simpa using hkn
        obtain⟨w4,hw4⟩:∃ x,x=wr:=⟨_,rfl⟩;subst hw4
        have hke:k=nT:=by omega
        subst hke;have hts:TysV w4 w4.heap.size A k c (typesE k σ):=tysV_sl.2 (Hown.out.sl encT_len (by omega));have Hts:=qq hts;have HK4:=qq (HK3.out.below Hbel.out HK3.out.lt);have HR4:=qq (HR3.out.fresh Hbel.out);have Hb4:=qq (Hb3.out.trans (Hbel.out.mono Hb3.out.size));have Hm2':=qq (Hm2.out.fresh Hbel.out);obtain⟨x0,x1,x2,x3,x4,x5,x6,x7,x8,x9⟩:=box_cells HK4.out;rw[Hs.out.mu,HnM.out] at x1;clear x0 x2 x3 x4 x5 x6 x7 x8 x9 hts Hown Hm1 Hr1;go_wp2_with fail;clear x1
        go_loopg [5,43] nM (fun gh s5 i wr=>∃ (j:Nat) (A:Option Addr) (c:Nat),j≤nM∧gh=nM - j∧s5=.slice A j c∧i=.int .i64 (j:Nat)∧wr.ownsRow w4.heap.size 22 1 (.slice A j c) j ((multsE j σ).map (Value.int .u8))∧Below w4.heap.size w4 wr)
        case atStart=>exact⟨0,none,0,Nat.zero_le _,rfl,rfl,rfl,by simpa[multsE] using World.ownsRow_nil _ _ _ _,Below.refl _ _⟩
        case round=>
         obtain⟨j,Am,cm,hj,rfl,rfl,rfl,hown,hbel⟩:=hrel;have Hown:=qq hown;have HbelM:=qq hbel;clear hown hbel
         by_cases hjn:j<nM
         · have d1:decide (j<nM)=true:=by simpa using hjn
           have hwf:(Lit.int .i64 (j:Int)).wf=true:=WalkArith.wf_i64 (by omega);have hval:=readM_get Hr2.out (j:Nat);obtain⟨⟨mv,mc⟩,hmm⟩:∃ x,(σ.mults (j:Nat)).getD (0,0)=x:=⟨_,rfl⟩;rw[hmm] at hval;have Hmm:=qq hmm;have Hval:=qq hval;have HmK:=qq (Hm2'.out.fresh HbelM.out);have Hb9:=qq (HbelM.out.alloc HbelM.out.size (Obj.cells #[.int .u8 mc] 22));obtain⟨i0,hi0,hz0,hz1,hz2⟩:=info_parts multInfo;have hfd:=field_mu mv mc wr;clear hval hmm
           go_wp2_with (first | (at_lookup; refine wpList_look_V _ rfl _ _ 105 rfl 3 24 Tryz.underlying3 Tryz.underlying105 (zeroMu_run _) b2 _ f2 rfl HmK.out j rfl hwf _ Hval.out ?_) | (at_builtin; refine wpList_append_rd _ rfl (.tmp 46) (.tmp 51) 35 rfl w4.heap.size 22 i0 _ 1 1 Tryz.underlying35 hi0 hz0 hz1 hz2 rfl (by omega) (.slice Am j cm) j ((multsE j σ).map (Value.int .u8)) rfl (Hown.out.alloc _) (wr.heap.size+1) (some ⟨wr.heap.size,0,none⟩) 1 1 [.int .u8 mc] rfl (rd_new1 _ _ _) (by intro x hx; simp at hx; subst hx; rfl) (by unfold maxLen; omega) (by omega) Hb9.out.size ?_; intro v7 w7 ho7 hg7 hat7; obtain⟨A7,c7,rfl⟩:=ownsRow_form ho7))
           have hb7:=Hb9.out.grown hg7 Hb9.out.size (fun b' hb'=>(ownsRow_lt (Hown.out.alloc (Obj.cells #[.int .u8 mc] 22)) hb').1);go_roundg (nM - (j+1))
           case measure=>omega
           case rel=>exact⟨j+1,A7,c7,by omega,rfl,rfl,by simp,by rw[multsE_succ,Hmm.out,List.map_append]; exact ho7,hb7⟩
         · have d1:decide (j<nM)=false:=by simpa using hjn
           have hje:j=nM:=by omega
           subst hje;obtain⟨w5,hw5⟩:∃ x,x=wr:=⟨_,rfl⟩;subst hw5;have hms:=RdI.of_own Hown.out;have Hms:=qq hms;have Hts5:=qq ((Hts.out.below HbelM.out).more HbelM.out.size);have HK5:=qq (HK4.out.below HbelM.out HK4.out.lt);have HR5:=qq (HR4.out.fresh HbelM.out);have Hb5:=qq (Hb4.out.trans (HbelM.out.mono Hb4.out.size));obtain⟨x0,x1,x2,x3,x4,x5,x6,x7,x8,x9⟩:=box_cells HK5.out;clear x0 x1 x2 x3 x4 x5 x6 hms;go_wp2_with fail;refine(tabLets_any Hs.out.tab _ Am j cm (multsE j σ) w5 HR5.out.tab Hms.out).mono ?_;rintro e w6 ⟨q,rfl,hq,hb6⟩;have Hb6:=qq (Hb5.out.trans (hb6.mono Hb5.out.size));have Hts6:=qq ((Hts5.out.below hb6).more hb6.size);have Hms6:=qq ((Hms.out.below hb6).more hb6.size);clear x7 x8 x9 hb6
           cases q with
           | false=>
             have hno:¬ InstE s u:=fun h=>by
              have h3:=h.2.2;rw[Hσ.out,HnM.out] at h3;rw[HnM.out] at hq;exact Bool.noConfusion (hq.2 h3)
             clear hq;have HN:=qq (inst_no hno);have HbE:=qq (Hb6.out);clear hno;go_wp2_with fail;exact bodyPost_ret (v:=.tuple #[.slice none 0 0,.slice none 0 0,.bool false]) (by simp[results,Tryz.results21,go_sem]) rfl ⟨none,0,0,[],none,0,0,[],false,rfl,TysV.nil,RdI.nil,HN.out,HbE.out⟩
           | true=>
             have hyes:InstE s u:=⟨Hmay.out,by rw[Hσ.out],by rw[Hσ.out]; have:=hq.1 rfl; rw[HnM.out] at this ⊢; exact this⟩
             have hi:=inst_yes hyes;rw[Hσ.out,HnT.out,HnM.out] at hi;have Hi:=qq hi;clear hq hyes hi;go_wp2_with fail;exact bodyPost_ret (v:=.tuple #[.slice A k c,.slice Am j cm,.bool true]) (by simp[results,Tryz.results21,go_sem]) rfl ⟨A,k,c,_,Am,j,cm,_,true,rfl,Hts6.out,Hms6.out,Hi.out,Hb6.out⟩
 · have hno:¬ InstE s u:=fun h=>hmay h.1
   have dm:(mayTE u != 0)=true:=by simpa using hmay
   clear hmay;have HN:=qq (inst_no hno);have HbE:=qq (Hb2.out);clear hno;go_wp2_with fail;exact bodyPost_ret (v:=.tuple #[.slice none 0 0,.slice none 0 0,.bool false]) (by simp[results,Tryz.results21,go_sem]) rfl ⟨none,0,0,[],none,0,0,[],false,rfl,TysV.nil,RdI.nil,HN.out,HbE.out⟩
end Go.Proofs.YtdmakpmbknindaaGreatDoor
