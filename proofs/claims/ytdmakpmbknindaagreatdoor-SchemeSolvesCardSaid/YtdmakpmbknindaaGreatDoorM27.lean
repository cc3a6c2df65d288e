import Derived.Test.YtdmakpmbknindaaGreatDoorM26
import Derived.Test.YtdmakpmbknindaaGreatDoorM16
import Derived.Test.YtdmakpmbknindaaGreatDoorM24
set_option linter.unusedVariables false
set_option linter.unusedSimpArgs false
set_option maxHeartbeats 4000000
set_option maxRecDepth 100000
namespace Go.Proofs.YtdmakpmbknindaaGreatDoor
open Go.RowKit
structure SchD where
 types:Int
 mults:Int
 t:TyD
 tab:TabD
def cellsS (s:SchD) (A:Option Addr) (m cp:Nat) (A1:Option Addr) (c1:Nat) (A2:Option Addr) (c2:Nat) (A3:Option Addr) (c3:Nat):Array Value:=
 #[.int .i64 s.types,.int .i64 s.mults,.int .u8 s.t.k,.int .i64 s.t.n,.int .i64 s.t.v,.int .u8 s.t.c,.slice A m cp,.slice A1 s.tab.low.length c1,.slice A2 s.tab.up.length c2,.slice A3 s.tab.pair.length c3]
structure SchR (w:World) (B:Nat) (s:SchD) (A:Option Addr) (m cp:Nat) (A1:Option Addr) (c1:Nat) (A2:Option Addr) (c2:Nat) (A3:Option Addr) (c3:Nat):Prop where
 ty:TysV w B A m cp s.t.l
 low:RdI .u8 w B A1 s.tab.low.length c1 s.tab.low
 up:RdI .u8 w B A2 s.tab.up.length c2 s.tab.up
 pair:MssV w B A3 s.tab.pair.length c3 s.tab.pair
def SchV (w:World) (B:Nat) (v:Value) (s:SchD):Prop:=∃ A m cp A1 c1 A2 c2 A3 c3,v=.agg (cellsS s A m cp A1 c1 A2 c2 A3 c3)∧SchR w B s A m cp A1 c1 A2 c2 A3 c3
section
variable {w w':World} {s:SchD} {A:Option Addr} {m cp:Nat} {A1:Option Addr} {c1:Nat} {A2:Option Addr} {c2:Nat} {A3:Option Addr} {c3:Nat} {v:Value}
theorem SchR.fresh (h:SchR w w.heap.size s A m cp A1 c1 A2 c2 A3 c3) (hb:Below w.heap.size w w'):SchR w' w'.heap.size s A m cp A1 c1 A2 c2 A3 c3:=
 ⟨(h.ty.below hb).more hb.size,h.low.freshM hb,h.up.freshM hb,h.pair.fresh hb⟩
theorem SchV.fresh (h:SchV w w.heap.size v s) (hb:Below w.heap.size w w'):SchV w' w'.heap.size v s:=by
 obtain⟨A,m,cp,A1,c1,A2,c2,A3,c3,e,h⟩:=h;exact⟨A,m,cp,A1,c1,A2,c2,A3,c3,e,h.fresh hb⟩
theorem SchR.tab (h:SchR w w.heap.size s A m cp A1 c1 A2 c2 A3 c3):TabV w w.heap.size (.agg #[.slice A1 s.tab.low.length c1,.slice A2 s.tab.up.length c2,.slice A3 s.tab.pair.length c3]) s.tab:=
 ⟨_,_,_,_,_,_,rfl,h.low,h.up,h.pair⟩
theorem box_cells {b:Nat} {t:TypeId} (h:Blk w b t (cellsS s A m cp A1 c1 A2 c2 A3 c3)):
 w.cell? ⟨b,0,none⟩=some (.int .i64 s.types)∧w.cell? ⟨b,1,none⟩=some (.int .i64 s.mults)∧w.cell? ⟨b,2,none⟩=some (.int .u8 s.t.k)∧w.cell? ⟨b,3,none⟩=some (.int .i64 s.t.n)∧w.cell? ⟨b,4,none⟩=some (.int .i64 s.t.v)∧w.cell? ⟨b,5,none⟩=some (.int .u8 s.t.c)∧w.cell? ⟨b,6,none⟩=some (.slice A m cp)∧w.cell? ⟨b,7,none⟩=some (.slice A1 s.tab.low.length c1)∧w.cell? ⟨b,8,none⟩=some (.slice A2 s.tab.up.length c2)∧w.cell? ⟨b,9,none⟩=some (.slice A3 s.tab.pair.length c3):=
 ⟨h.cell 0,h.cell 1,h.cell 2,h.cell 3,h.cell 4,h.cell 5,h.cell 6,h.cell 7,h.cell 8,h.cell 9⟩
end
structure OkSch (s:SchD):Prop where
 may:mayTE s.t=0
 can:canT s.t=s.t
 ty:s.types=(varsT s.t).length
 mu:s.mults=(multsT s.t).length
 tab:OkTab (multsT s.t).length s.tab
theorem mayTE_may {t:TyD} (h:mayTE t=0):mayT t=true:=by
 unfold mayTE at h
 split at h
 · omega
 · split at h
   · assumption
   · omega
theorem schMay_ok (s:SchD) (hs:OkSch s) (v:Value) (w:World) (hv:SchV w w.heap.size v s):
 Calls Tryz.prog 15 #[v] w fun e w'=>e=.returned (.int .i64 0)∧Below w.heap.size w w':=by
 obtain⟨A,m,cp,A1,c1,A2,c2,A3,c3,rfl,hr⟩:=hv;have hk:=blk_new w (cellsS s A m cp A1 c1 A2 c2 A3 c3) 40;have hb:=below_box (w:=w) (Obj.cells (cellsS s A m cp A1 c1 A2 c2 A3 c3) 40);obtain⟨W,hW⟩:∃ x,w.alloc (Obj.cells (cellsS s A m cp A1 c1 A2 c2 A3 c3) 40)=x:=⟨_,rfl⟩;rw[hW] at hk hb;unfold cellsS at hW;have HW:=qq hW;have HK:=qq hk;have Hb:=qq hb;have HR:=qq (hr.fresh hb);have Hs:=qq hs;obtain⟨x0,x1,x2,x3,x4,x5,x6,x7,x8,x9⟩:=box_cells hk;rw[← HW.out] at x2 x3 x4 x5 x6;have hlow:s.tab.low.length=(multsT s.t).length:=hs.tab.ll;have hmu:=hs.mu;have Hlow:=qq hlow;have Hmu:=qq hmu;clear hW hk hb hr x0 x1 x7 x8 x9 hlow hmu hs;unfold cellsS
 go_enter Tryz.func15,Tryz.ntmps15
 go_wp2_with fail;rw[HW.out];refine(tyMay_any s.t _ W ⟨A,m,cp,rfl,HR.out.ty⟩).mono ?_;rw[Hs.out.may];rintro e w1 ⟨rfl,hb1⟩;have HR1:=qq (HR.out.fresh hb1);have HK1:=qq (HK.out.below hb1 HK.out.lt);have Hb1:=qq (Hb.out.trans (hb1.mono Hb.out.size));obtain⟨y0,y1,y2,y3,y4,y5,y6,y7,y8,y9⟩:=box_cells HK1.out;clear x2 x3 x4 x5 x6 hb1 HW y0 y1 y7 y8 y9;go_wp2_with fail;refine(canon_any s.t (mayTE_may Hs.out.may) A m cp w1 HR1.out.ty).mono ?_;rintro e w2 ⟨Ac,mc,cc,B1,n1,e1,B2,n2,e2,rfl,hty,hl1,hl2,hb2⟩;have hn1:=hl1.len;have hn2:=hl2.len;have Hn1:=qq hn1;have Hn2:=qq hn2;clear y2 y3 y4 y5 y6 hl1 hl2 hn1 hn2;rw[Hs.out.can] at hty ⊢;have hbx:=below_box (w:=w2) (Obj.cells #[.int .u8 s.t.k,.int .i64 s.t.n,.int .i64 s.t.v,.int .u8 s.t.c,.slice Ac mc cc] 27);have hkx:=blk_new w2 #[.int .u8 s.t.k,.int .i64 s.t.n,.int .i64 s.t.v,.int .u8 s.t.c,.slice Ac mc cc] 27;obtain⟨w3,hw3⟩:∃ x,w2.alloc (Obj.cells #[.int .u8 s.t.k,.int .i64 s.t.n,.int .i64 s.t.v,.int .u8 s.t.c,.slice Ac mc cc] 27)=x:=⟨_,rfl⟩;rw[hw3] at hbx hkx;have hb13:=hb2.trans (hbx.mono hb2.size);have Hw3:=qq hw3;have Hty3:=qq ((hty.below hbx).more hbx.size);have HR3:=qq (HR1.out.fresh hb13);have HK3:=qq (HK1.out.below hb13 HK1.out.lt);have Hb3:=qq (Hb1.out.trans (hb13.mono Hb1.out.size));have z0:=hkx.cell 0;have z1:=hkx.cell 1;have z2:=hkx.cell 2;have z3:=hkx.cell 3;have z4:=hkx.cell 4;simp only[qc,qb,qa] at z0 z1 z2 z3 z4;clear hbx hkx hb13 hw3 hty hb2;obtain⟨y0,y1,y2,y3,y4,y5,y6,y7,y8,y9⟩:=box_cells HK3.out;clear y0 y1 y7 y8 y9;go_upto_region 5 with fail;rw[Hw3.out];go_wp2_with fail;refine(same_go (nodes s.t) s.t s.t (Nat.le_refl _) Ac mc cc A m cp w3 Hty3.out HR3.out.ty).mono ?_;rw[(sameT_iff s.t s.t).2 rfl];rintro e w4 ⟨rfl,hb4⟩;have HR4:=qq (HR3.out.fresh hb4);have HK4:=qq (HK3.out.below hb4 HK3.out.lt);have Hb4:=qq (Hb3.out.trans (hb4.mono Hb3.out.size));clear z0 z1 z2 z3 z4 y2 y3 y4 y5 y6 hb4;obtain⟨y0,y1,y2,y3,y4,y5,y6,y7,y8,y9⟩:=box_cells HK4.out;clear y2 y3 y4 y5 y6
 have d1:(s.types != (n1:Int))=false:=by rw[Hs.out.ty,Hn1.out]; simp
 have d2:(s.mults != (n2:Int))=false:=by rw[Hs.out.mu,Hn2.out]; simp
 go_wp2_with fail;refine(tabMay_ok Hs.out.tab _ w4 HR4.out.tab).mono ?_;rintro e w5 ⟨rfl,hb5⟩;have HK5:=qq (HK4.out.below hb5 HK4.out.lt);have Hb5:=qq (Hb4.out.trans (hb5.mono Hb4.out.size));clear y0 y1 y7 y8 y9 hb5 d1 d2;obtain⟨y0,y1,y2,y3,y4,y5,y6,y7,y8,y9⟩:=box_cells HK5.out;clear y0 y2 y3 y4 y5 y6 y8 y9
 have d3:((s.tab.low.length:Int) != s.mults)=false:=by rw[Hlow.out,Hmu.out]; simp
 go_wp2_with fail;go_ret;exact⟨rfl,Hb5.out⟩
def NoU8 (z:Array Value):Prop:=∀ u:Int,u≠0→∀ j:Nat,z[j]?≠some (.int .u8 u)
abbrev z5:Array Value:=#[.int .u8 0,.int .i64 0,.int .i64 0,.int .u8 0,.slice none 0 0]
theorem z5_u8:NoU8 z5:=fun u hu j=>match j with
 | 0=>by simp; omega
 | 1=>by simp
 | 2=>by simp
 | 3=>by simp; omega
 | 4=>by simp
 | j+5=>by simp
abbrev z10:Array Value:=#[.int .i64 0,.int .i64 0,.int .u8 0,.int .i64 0,.int .i64 0,.int .u8 0,.slice none 0 0,.slice none 0 0,.slice none 0 0,.slice none 0 0]
theorem z10_u8:NoU8 z10:=fun u hu j=>match j with
 | 0=>by simp
 | 1=>by simp
 | 2=>by simp; omega
 | 3=>by simp
 | 4=>by simp
 | 5=>by simp; omega
 | 6=>by simp
 | 7=>by simp
 | 8=>by simp
 | 9=>by simp
 | j+10=>by simp
section
variable {w w':World} {B B' bx:Nat} {t:TypeId} {z:Array Value}
theorem RdI.zbox {A:Option Addr} {n c:Nat} {us:List Int} (h:RdI .u8 w B A n c us) (hus:∀ u∈us,u≠0) (hk:Blk w bx t z) (hz:NoU8 z) (hw:∀ b o,b≠bx→w'.cell? ⟨b,o,none⟩=w.cell? ⟨b,o,none⟩) (hB:B≤B'):RdI .u8 w' B' A n c us:=by
 refine⟨⟨h.1.1,fun hn=>?_⟩,h.2⟩;obtain⟨b,off,e,hb,hc⟩:=h.1.2 hn
 have hl:0<us.length:=by rw[h.len]; exact hn
 have hne:b≠bx:=fun e2=>by
  subst e2;have h1:=hc 0 (.int .u8 us[0]) (by simp[hl]);rw[hk.cell] at h1;exact hz _ (hus _ (List.getElem_mem hl)) _ h1
 exact⟨b,off,e,by omega,fun j u hu=>(hw b (off+j) hne).trans (hc j u hu)⟩
theorem MssV.zbox {A:Option Addr} {n c:Nat} {ls:List (List Int)} (h:MssV w B A n c ls) (hls:∀ l∈ls,∀ u∈l,u≠0) (hA:∀ ad,A=some ad→bx<ad.block) (hk:Blk w bx t z) (hz:NoU8 z) (hw:∀ b o,b≠bx→w'.cell? ⟨b,o,none⟩=w.cell? ⟨b,o,none⟩) (hB:B≤B'):MssV w' B' A n c ls:=by
 refine⟨h.1,h.2.1,h.2.2.1,fun hn=>?_⟩;obtain⟨b,off,e,hb,hc⟩:=h.2.2.2 hn
 have hne:b≠bx:=by have:=hA _ e; have e2:(⟨b,off,none⟩:Addr).block=b:=rfl; omega
 refine⟨b,off,e,by omega,fun i hi=>?_⟩
 obtain⟨A',c',h1,h2⟩:=hc i hi;exact⟨A',c',(hw b (off+i) hne).trans h1,h2.zbox (hls _ (List.getElem_mem hi)) hk hz hw hB⟩
mutual
theorem TyAt.zbox (hk:Blk w bx t z) (hz:NoU8 z) (hw:∀ b o,b≠bx→w'.cell? ⟨b,o,none⟩=w.cell? ⟨b,o,none⟩) (hB:B≤B'):∀ (u:TyD) (b off:Nat),mayT u=true→TyAt w B u b off→b≠bx∧TyAt w' B' u b off
 | .mk k n v c l,b,off,hm,h=>by
   rw[TyAt] at h ⊢;obtain⟨h0,h1,h2,h3,A,m,cp,h4,e1,e2,e3,e4⟩:=h;rw[mayT] at hm;obtain⟨hm1,hm2⟩:=Bool.and_eq_true_iff.1 hm
   have hk0:k≠0:=fun e=>by
    subst e
    revert hm1
    simp[isN,TyD.k]
   have hne:b≠bx:=fun e=>by
    subst e;rw[hk.cell] at h0;exact hz _ hk0 _ h0
   refine⟨hne,(hw _ _ hne).trans h0,(hw _ _ hne).trans h1,(hw _ _ hne).trans h2,(hw _ _ hne).trans h3,A,m,cp,(hw _ _ hne).trans h4,e1,e2,e3,fun hp=>?_⟩;obtain⟨b',off',e,hb',hr⟩:=e4 hp
   exact⟨b',off',e,by omega,TyRow.zbox hk hz hw hB l b' off' hm2 hr⟩
theorem TyRow.zbox (hk:Blk w bx t z) (hz:NoU8 z) (hw:∀ b o,b≠bx→w'.cell? ⟨b,o,none⟩=w.cell? ⟨b,o,none⟩) (hB:B≤B'):∀ (l:List TyD) (b off:Nat),mayT.mayL l=true→TyRow w B l b off→TyRow w' B' l b off
 | [],_,_,_,_=>by rw[TyRow]; trivial
 | u :: r,b,off,hm,h=>by
   rw[TyRow] at h ⊢;rw[mayT.mayL] at hm;obtain⟨hm1,hm2⟩:=Bool.and_eq_true_iff.1 hm;exact⟨(TyAt.zbox hk hz hw hB u b off hm1 h.1).2,TyRow.zbox hk hz hw hB r b (off+5) hm2 h.2⟩
end
theorem TysV.zbox {A:Option Addr} {m cp:Nat} {l:List TyD} (h:TysV w B A m cp l) (hl:∀ u∈l,mayT u=true) (hk:Blk w bx t z) (hz:NoU8 z) (hw:∀ b o,b≠bx→w'.cell? ⟨b,o,none⟩=w.cell? ⟨b,o,none⟩) (hB:B≤B'):TysV w' B' A m cp l:=by
 obtain⟨h1,h2,h3,h4⟩:=h;refine⟨h1,h2,h3,fun hm=>?_⟩;obtain⟨b,off,e,hb,hr⟩:=h4 hm
 exact⟨b,off,e,by omega,TyRow.zbox hk hz hw hB l b off (by rw[mayL_all]; exact List.all_eq_true.2 hl) hr⟩
end
theorem noneB_pos {us:List Int} (h:noneB us=false):∀ u∈us,u≠0:=fun u hu=>by
 obtain⟨i,hi,rfl⟩:=List.getElem_of_mem hu;have:=noneB_rng h i hi;rw[List.getD_eq_getElem?_getD,qj hi,Option.getD_some] at this;omega
theorem mayT_l {t:TyD} (h:mayT t=true):∀ u∈t.l,mayT u=true:=by
 rw[mayT_eq] at h;exact List.all_eq_true.1 (Bool.and_eq_true_iff.1 h).2
structure SetIn (bx:Nat) (w w':World):Prop where
 other:∀ b o,b≠bx→w'.cell? ⟨b,o,none⟩=w.cell? ⟨b,o,none⟩
 size:w'.heap.size=w.heap.size
 bel:∀ B w0,B≤bx→w0.heap.size≤bx→Below B w0 w→Below B w0 w'
theorem SetIn.refl (bx:Nat) (w:World):SetIn bx w w:=⟨fun _ _ _=>rfl,rfl,fun _ _ _ _ h=>h⟩
theorem SetIn.set {bx:Nat} {w w':World} (h:SetIn bx w w') (i:Nat) (v:Value):SetIn bx w (w'.setCell ⟨bx,i,none⟩ v):=
 ⟨fun b o hne=>(World.cell?_setCell_other _ _ _ _ (fun e=>hne (by injection e with e1 e2; exact e1.symm))).trans (h.other b o hne),(by simp[World.setCell,h.size]),fun B w0 hB hw hb=>(h.bel B w0 hB hw hb).setCell hB v⟩
def set10 (w:World) (b:Nat) (v0 v1 v2 v3 v4 v5 v6 v7 v8 v9:Value):World:=(((((((((w.setCell ⟨b,0,none⟩ v0).setCell ⟨b,1,none⟩ v1).setCell ⟨b,2,none⟩ v2).setCell ⟨b,3,none⟩ v3).setCell ⟨b,4,none⟩ v4).setCell ⟨b,5,none⟩ v5).setCell ⟨b,6,none⟩ v6).setCell ⟨b,7,none⟩ v7).setCell ⟨b,8,none⟩ v8).setCell ⟨b,9,none⟩ v9
theorem set10_blk {w:World} {b:Nat} {t:TypeId} {x0 x1 x2 x3 x4 x5 x6 x7 x8 x9:Value} (h:Blk w b t #[x0,x1,x2,x3,x4,x5,x6,x7,x8,x9]) (v0 v1 v2 v3 v4 v5 v6 v7 v8 v9:Value):Blk (set10 w b v0 v1 v2 v3 v4 v5 v6 v7 v8 v9) b t #[v0,v1,v2,v3,v4,v5,v6,v7,v8,v9]:=by
 have hh:=((((((((((h.set_ 0 v0).set_ 1 v1).set_ 2 v2).set_ 3 v3).set_ 4 v4).set_ 5 v5).set_ 6 v6).set_ 7 v7).set_ 8 v8).set_ 9 v9);simp only[qd,qh,qi] at hh;exact hh
theorem set10_in (w:World) (b:Nat) (v0 v1 v2 v3 v4 v5 v6 v7 v8 v9:Value):SetIn b w (set10 w b v0 v1 v2 v3 v4 v5 v6 v7 v8 v9):=((((((((((((((((((((SetIn.refl b w).set 0 v0)).set 1 v1)).set 2 v2)).set 3 v3)).set 4 v4)).set 5 v5)).set 6 v6)).set 7 v7)).set 8 v8)).set 9 v9)
def findN (p:Int→Bool) (l:List Int):Int:=match l.findIdx? p with
 | some i=>i
 | none => -1
theorem findN_at {p:Int→Bool} {l:List Int} {i:Nat} (h:i<l.length) (hb:∀ j (h:j<l.length),j<i→p l[j]=false) (hp:p l[i]=true):findN p l=i:=by
 have:l.findIdx? p=some i:=List.findIdx?_eq_some_iff_getElem.2 ⟨h,hp,fun j hj=>by rw[hb j (by omega) hj]; simp⟩
 unfold findN;rw[this]
theorem findN_none {p:Int→Bool} {l:List Int} (hb:∀ j (h:j<l.length),p l[j]=false):findN p l = -1:=by
 have:l.findIdx? p=none:=List.findIdx?_eq_none_iff.2 fun x hx=>by
  obtain⟨j,hj,rfl⟩:=List.getElem_of_mem hx;exact hb j hj
 unfold findN;rw[this]
theorem findN_any (p:Int→Bool) (l:List Int):decide (findN p l≥0)=l.any p:=by
 unfold findN
 cases e:l.findIdx? p with
 | none=>
   have:=List.findIdx?_eq_none_iff.1 e
   have h:l.any p=false:=List.any_eq_false.2 fun x hx=>by rw[this x hx]; simp
   rw[h]; decide
 | some i=>
   obtain⟨hi,hp,_⟩:=List.findIdx?_eq_some_iff_getElem.1 e;have h:l.any p=true:=List.any_eq_true.2 ⟨l[i],List.getElem_mem hi,hp⟩
   rw[h]; simp
theorem indexIC (p:Int→Bool) (g:Nat) (A:Option Addr) (n c:Nat) (us:List Int) (w:World) (B:Nat) (h:RdI .i64 w B A n c us)
 (he:∀ x∈us,Calls Tryz.prog 47 (#[.int .i64 x]++#[.pointer (some ⟨g,0,none⟩)]) w fun e w'=>e=.returned (.bool (p x))∧w'=w):
 Calls Tryz.prog 108 #[.slice A n c,.func (.func 47) #[] #[.pointer (some ⟨g,0,none⟩)]] w fun e w'=>e=.returned (.int .i64 (findN p us))∧w'=w:=by
 have hlen:=h.len;have m63:n≤9223372036854775807:=Nat.le_trans h.2.1 h.2.2;have H:=qq h;have He:=qq he;clear h he
 go_enter Tryz.func108,Tryz.ntmps108
 go_wp2_with fail
 go_loopg [5,8] n (fun gh _ i wr=>∃ k:Nat,k≤n∧gh=n - k∧i=.int .i64 k∧wr=w∧∀ j (h:j<us.length),j<k→p us[j]=false)
 case atStart=>exact⟨0,Nat.zero_le _,rfl,rfl,rfl,fun j _ hj=>absurd hj (by omega)⟩
 case round=>
  obtain⟨k,hk,rfl,rfl,rfl,hb⟩:=hrel
  by_cases hkm:k<n
  · have d0:decide (k<n)=true:=by simpa using hkm
    have hk':k<us.length:=by omega
    obtain⟨b,off,rfl,_,hc⟩:=H.out.at_ (by omega);have e0:=hc k hk';have Hb:=qq hb;have hq:=He.out us[k] (List.getElem_mem hk');obtain⟨P,hP⟩:∃ P,p us[k]=P:=⟨_,rfl⟩;rw[hP] at hq;have HP:=qq hP
    have k1:(0:Int)≤(k:Int):=by omega
    have k2:(k:Int)<n:=by omega
    clear hc hb hP;obtain⟨y,hy⟩:∃ y,us[k]=y:=⟨_,rfl⟩;rw[hy] at e0 hq;have Hq:=qq hq;clear hy hq
    cases P with
    | true=>
      have HR:Hid ((k:Int)=findN p us):=qq (findN_at hk' Hb.out HP.out).symm;go_wp2_with fail
      refine Hq.out.mono ?_; rintro e w1 ⟨rfl,rfl⟩
      go_wp2_with fail;go_ret;exact⟨ret_int HR.out,rfl⟩
    | false=>
      have Hn:Hid (∀ j (h:j<us.length),j<k+1→p us[j]=false):=qq fun j hj hjk=>by
       rcases Nat.lt_or_ge j k with h | h
       · exact Hb.out j hj h
       · obtain rfl:j=k:=by omega
         exact HP.out
      go_wp2_with fail
      refine Hq.out.mono ?_; rintro e w1 ⟨rfl,rfl⟩
      go_wp2_with fail;go_roundg (n - (k+1))
      case measure=>omega
      case rel=>exact⟨k+1,by omega,rfl,by go_num,rfl,Hn.out⟩
  · have d0:decide (k<n)=false:=by simpa using hkm
    have HR:Hid ((-1:Int)=findN p us):=qq (findN_none fun j hj=>hb j hj (by omega)).symm;clear hb;go_wp2_with fail;go_ret;exact⟨ret_int HR.out,rfl⟩
theorem containsIC (p:Int→Bool) (g:Nat) (A:Option Addr) (n c:Nat) (us:List Int) (w:World) (B:Nat) (h:RdI .i64 w B A n c us)
 (he:∀ x∈us,Calls Tryz.prog 47 (#[.int .i64 x]++#[.pointer (some ⟨g,0,none⟩)]) w fun e w'=>e=.returned (.bool (p x))∧w'=w) (r:Bool) (hr:us.any p=r):
 Calls Tryz.prog 46 #[.slice A n c,.func (.func 47) #[] #[.pointer (some ⟨g,0,none⟩)]] w fun e w'=>e=.returned (.bool r)∧w'=w:=by
 have hq:=indexIC p g A n c us w B h he;have hd:=findN_any p us;rw[hr] at hd;obtain⟨i,hi⟩:∃ i,findN p us=i:=⟨_,rfl⟩;rw[hi] at hq hd;have Hq:=qq hq;clear hq hr hi h he
 go_enter Tryz.func46,Tryz.ntmps46
 go_wp2_with fail
 refine Hq.out.mono ?_; rintro e w1 ⟨rfl,rfl⟩
 have Hd:Hid (decide (i≥0)=r):=qq hd;clear hd;go_wp2_with fail;go_ret;exact⟨ret_bool Hd.out,rfl⟩
theorem close1_any (x:Int) (g:Nat) (n:Int) (w:World) (hp:w.cell? ⟨g,0,none⟩=some (.int .i64 n)):
 Calls Tryz.prog 47 (#[.int .i64 x]++#[.pointer (some ⟨g,0,none⟩)]) w fun e w'=>e=.returned (.bool (decide (x≥n)))∧w'=w:=by
 go_enter Tryz.func47,Tryz.ntmps47
 go_wp2_with fail;go_ret;exact⟨rfl,rfl⟩
def emptyS:SchD:=⟨0,0,.mk 0 0 0 0 [],emptyT⟩
theorem emptyS_v (w:World) (B:Nat):SchV w B (.agg #[.int .i64 0,.int .i64 0,.int .u8 0,.int .i64 0,.int .i64 0,.int .u8 0,.slice none 0 0,.slice none 0 0,.slice none 0 0,.slice none 0 0]) emptyS:=
 ⟨none,0,0,none,0,none,0,none,0,rfl,TysV.nil,RdI.nil,RdI.nil,MssV.nil⟩
def CloseR (t:TyD) (n:Int) (xs:List IneqD) (s:SchD) (er:Int):Prop:=
 (mayTE t≠0∧s=emptyS∧er=mayTE t) ∨
 (mayTE t=0∧((∃ v∈multsT t,n≤v)∧s=emptyS∧er=2 ∨
   (∀ v∈multsT t,v<n)∧∃ tab e1,ProjR n xs (multsT t) tab e1∧((e1≠0∧s=emptyS∧er=e1)∨(e1=0∧er=0∧s=⟨(varsT t).length,(multsT t).length,canT t,tab⟩))))
def ClosePost (t:TyD) (n:Int) (xs:List IneqD) (w:World) (e:Ending) (w':World):Prop:=
 ∃ v s er,e=.returned (.tuple #[v,.int .i64 er])∧SchV w' w'.heap.size v s∧CloseR t n xs s er∧Below w.heap.size w w'
theorem close_any (t:TyD) (A:Option Addr) (m cp:Nat) (n:Int) (Al:Option Addr) (nl cl:Nat) (xs:List IneqD) (w:World) (ht:TysV w w.heap.size A m cp t.l) (hx:IneqsV w w.heap.size Al nl cl xs):
 Calls Tryz.prog 12 #[.agg #[.int .u8 t.k,.int .i64 t.n,.int .i64 t.v,.int .u8 t.c,.slice A m cp],.int .i64 n,.slice Al nl cl] w (ClosePost t n xs w):=by
 obtain⟨W1,h1⟩:∃ x,w.alloc (Obj.cells #[.int .u8 t.k,.int .i64 t.n,.int .i64 t.v,.int .u8 t.c,.slice A m cp] 27)=x:=⟨_,rfl⟩
 have s1:W1.heap.size=w.heap.size+1:=by rw[← h1]; simp
 have k1:=blk_new w #[.int .u8 t.k,.int .i64 t.n,.int .i64 t.v,.int .u8 t.c,.slice A m cp] 27;have g1:=below_box (w:=w) (Obj.cells #[.int .u8 t.k,.int .i64 t.n,.int .i64 t.v,.int .u8 t.c,.slice A m cp] 27);rw[h1] at k1 g1;obtain⟨W2,h2⟩:∃ x,W1.alloc (Obj.cells #[.int .i64 n] 3)=x:=⟨_,rfl⟩
 have s2:W2.heap.size=w.heap.size+1+1:=by rw[← h2,← s1]; simp
 have k2:=blk_new W1 #[.int .i64 n] 3;have g2:=below_box (w:=W1) (Obj.cells #[.int .i64 n] 3);rw[h2,s1] at k2 g2;obtain⟨W3,h3⟩:∃ x,W2.alloc (Obj.cells z10 40)=x:=⟨_,rfl⟩;have k3:=blk_new W2 z10 40;have g3:=below_box (w:=W2) (Obj.cells z10 40);rw[h3,s2] at k3 g3;have G2:Below (w.heap.size+1) W1 W3:=g2.trans (g3.mono (by omega));have G1:Below w.heap.size w W3:=g1.trans (G2.mono (by omega));have K1:=k1.below G2 (by omega);have K2:=k2.below g3 (by omega)
 have hW:((w.alloc (Obj.cells #[.int .u8 t.k,.int .i64 t.n,.int .i64 t.v,.int .u8 t.c,.slice A m cp] 27)).alloc (Obj.cells #[.int .i64 n] 3)).alloc (Obj.cells z10 40)=W3:=by rw[h1,h2,h3]
 have HW:=qq hW;have Hb:=qq G1;have HK1:=qq K1;have HK2:=qq K2;have HK3:=qq k3;have Ht:=qq ((ht.below G1).more G1.size);have Hx:=qq ((hx.below G1).more G1.size);clear ht hx h1 h2 h3 s1 s2 k1 k2 k3 g1 g2 g3 G1 G2 K1 K2 hW
 go_enter Tryz.func12,Tryz.ntmps12
 go_upto_region 1 with fail;rw[HW.out];have x0:=HK1.out.cell 0;have x1:=HK1.out.cell 1;have x2:=HK1.out.cell 2;have x3:=HK1.out.cell 3;have x4:=HK1.out.cell 4;simp only[qc,qb,qa] at x0 x1 x2 x3 x4;go_wp2_with fail;refine(tyMay_any t _ W3 ⟨A,m,cp,rfl,Ht.out⟩).mono ?_;rintro e w1 ⟨rfl,hb1⟩;have HK1':=qq (HK1.out.below hb1 HK1.out.lt);have HK2':=qq (HK2.out.below hb1 HK2.out.lt);have HK3':=qq (HK3.out.below hb1 HK3.out.lt);have Hb1:=qq (Hb.out.trans (hb1.mono Hb.out.size));have Ht1:=qq ((Ht.out.below hb1).more hb1.size);have Hx1:=qq ((Hx.out.below hb1).more hb1.size);clear x0 x1 x2 x3 x4 hb1 HW HK1 HK2 HK3 Ht Hx
 by_cases hmay:mayTE t=0
 · have x0:=HK1'.out.cell 0
   have x1:=HK1'.out.cell 1;have x2:=HK1'.out.cell 2;have x3:=HK1'.out.cell 3;have x4:=HK1'.out.cell 4;simp only[qc,qb,qa] at x0 x1 x2 x3 x4;rw[hmay];have Hmay:=qq hmay;clear hmay;go_wp2_with fail;refine(canon_any t (mayTE_may Hmay.out) A m cp w1 Ht1.out).mono ?_;rintro e w2 ⟨Ac,mc,cc,B1,n1,e1,B2,n2,e2,rfl,hty,hl1,hl2,hb2⟩;have hbx:=below_box (w:=w2) (Obj.cells #[.int .u8 (canT t).k,.int .i64 (canT t).n,.int .i64 (canT t).v,.int .u8 (canT t).c,.slice Ac mc cc] 27);have hkx:=blk_new w2 #[.int .u8 (canT t).k,.int .i64 (canT t).n,.int .i64 (canT t).v,.int .u8 (canT t).c,.slice Ac mc cc] 27;obtain⟨w3,hw3⟩:∃ x,w2.alloc (Obj.cells #[.int .u8 (canT t).k,.int .i64 (canT t).n,.int .i64 (canT t).v,.int .u8 (canT t).c,.slice Ac mc cc] 27)=x:=⟨_,rfl⟩;rw[hw3] at hbx hkx;have hb13:=hb2.trans (hbx.mono hb2.size);have Hw3:=qq hw3;have Hty:=qq ((hty.below hbx).more hbx.size);have Hl1:=qq ((hl1.below hbx).more hbx.size);have Hl2:=qq ((hl2.below hbx).more hbx.size);have HKc:=qq hkx;have HK2a:=qq (HK2'.out.below hb13 HK2'.out.lt);have HK3a:=qq (HK3'.out.below hb13 HK3'.out.lt);have Hx3:=qq ((Hx1.out.below hb13).more hb13.size);have Hb3:=qq (Hb1.out.trans (hb13.mono Hb1.out.size));have hn1:=hl1.len;have Hn1:=qq hn1;have hn2:=hl2.len;have Hn2:=qq hn2;have n63:n1≤9223372036854775807:=Nat.le_trans hl1.2.1 hl1.2.2;have n63':n2≤9223372036854775807:=Nat.le_trans hl2.2.1 hl2.2.2;clear hbx hkx hb13 hw3 hty hl1 hl2 hb2 hn1 hn2 x0 x1 x2 x3 x4;go_upto_region 5 with fail;rw[Hw3.out];obtain⟨r,hr⟩:∃ r,((multsT t).any fun v=>decide (v≥n))=r:=⟨_,rfl⟩;have hc:=containsIC (fun v=>decide (v≥n)) (w.heap.size+1) B2 n2 e2 (multsT t) w3 w3.heap.size Hl2.out (fun x _=>close1_any x (w.heap.size+1) n w3 (HK2a.out.cell 0)) r hr;have Hc:=qq hc;have Hr:=qq hr;clear hc hr;go_wp2_with fail;refine Hc.out.mono ?_;rintro e w4 ⟨rfl,rfl⟩
   cases r with
   | true=>
     have hex:∃ v∈multsT t,n≤v:=by
      obtain⟨v,hv,h⟩:=List.any_eq_true.1 Hr.out
      exact⟨v,hv,by simpa using h⟩
     have HCR:Hid (CloseR t n xs emptyS 2):=qq (.inr ⟨Hmay.out,.inl ⟨hex,rfl,rfl⟩⟩);clear hex;have ff0:=(HK3a.out).frozen 0;have ff1:=(HK3a.out).frozen 1;have ff2:=(HK3a.out).frozen 2;have ff3:=(HK3a.out).frozen 3;have ff4:=(HK3a.out).frozen 4;have ff5:=(HK3a.out).frozen 5;have ff6:=(HK3a.out).frozen 6;have ff7:=(HK3a.out).frozen 7;have ff8:=(HK3a.out).frozen 8;have ff9:=(HK3a.out).frozen 9;have dd0:w4.cell? ⟨w.heap.size+1+1,0,none⟩=some (.int .i64 0):=(HK3a.out).cell 0;have dd1:w4.cell? ⟨w.heap.size+1+1,1,none⟩=some (.int .i64 0):=(HK3a.out).cell 1;have dd2:w4.cell? ⟨w.heap.size+1+1,2,none⟩=some (.int .u8 0):=(HK3a.out).cell 2;have dd3:w4.cell? ⟨w.heap.size+1+1,3,none⟩=some (.int .i64 0):=(HK3a.out).cell 3;have dd4:w4.cell? ⟨w.heap.size+1+1,4,none⟩=some (.int .i64 0):=(HK3a.out).cell 4;have dd5:w4.cell? ⟨w.heap.size+1+1,5,none⟩=some (.int .u8 0):=(HK3a.out).cell 5;have dd6:w4.cell? ⟨w.heap.size+1+1,6,none⟩=some (.slice none 0 0):=(HK3a.out).cell 6;have dd7:w4.cell? ⟨w.heap.size+1+1,7,none⟩=some (.slice none 0 0):=(HK3a.out).cell 7;have dd8:w4.cell? ⟨w.heap.size+1+1,8,none⟩=some (.slice none 0 0):=(HK3a.out).cell 8;have dd9:w4.cell? ⟨w.heap.size+1+1,9,none⟩=some (.slice none 0 0):=(HK3a.out).cell 9;go_wp2_with fail;show bodyPost _ _ _ _ _ (set10 w4 (w.heap.size+1+1) (.int .i64 0) (.int .i64 0) (.int .u8 0) (.int .i64 0) (.int .i64 0) (.int .u8 0) (.slice none 0 0) (.slice none 0 0) (.slice none 0 0) (.slice none 0 0));have hkF:=set10_blk (HK3a.out) (.int .i64 0) (.int .i64 0) (.int .u8 0) (.int .i64 0) (.int .i64 0) (.int .u8 0) (.slice none 0 0) (.slice none 0 0) (.slice none 0 0) (.slice none 0 0);have hiF:=set10_in w4 (w.heap.size+1+1) (.int .i64 0) (.int .i64 0) (.int .u8 0) (.int .i64 0) (.int .i64 0) (.int .u8 0) (.slice none 0 0) (.slice none 0 0) (.slice none 0 0) (.slice none 0 0);have HbF:=qq (hiF.bel w.heap.size w (by omega) (by omega) (Hb3.out));clear ff0 ff1 ff2 ff3 ff4 ff5 ff6 ff7 ff8 ff9 dd0 dd1 dd2 dd3 dd4 dd5 dd6 dd7 dd8 dd9;generalize set10 w4 (w.heap.size+1+1) (.int .i64 0) (.int .i64 0) (.int .u8 0) (.int .i64 0) (.int .i64 0) (.int .u8 0) (.slice none 0 0) (.slice none 0 0) (.slice none 0 0) (.slice none 0 0)=wF at hkF hiF HbF ⊢;have q0:wF.cell? ⟨w.heap.size+1+1,0,none⟩=some (.int .i64 0):=hkF.cell 0;have q1:wF.cell? ⟨w.heap.size+1+1,1,none⟩=some (.int .i64 0):=hkF.cell 1;have q2:wF.cell? ⟨w.heap.size+1+1,2,none⟩=some (.int .u8 0):=hkF.cell 2;have q3:wF.cell? ⟨w.heap.size+1+1,3,none⟩=some (.int .i64 0):=hkF.cell 3;have q4:wF.cell? ⟨w.heap.size+1+1,4,none⟩=some (.int .i64 0):=hkF.cell 4;have q5:wF.cell? ⟨w.heap.size+1+1,5,none⟩=some (.int .u8 0):=hkF.cell 5;have q6:wF.cell? ⟨w.heap.size+1+1,6,none⟩=some (.slice none 0 0):=hkF.cell 6;have q7:wF.cell? ⟨w.heap.size+1+1,7,none⟩=some (.slice none 0 0):=hkF.cell 7;have q8:wF.cell? ⟨w.heap.size+1+1,8,none⟩=some (.slice none 0 0):=hkF.cell 8;have q9:wF.cell? ⟨w.heap.size+1+1,9,none⟩=some (.slice none 0 0):=hkF.cell 9
     exact bodyPost_ret (v:=.tuple #[.agg #[.int .i64 0,.int .i64 0,.int .u8 0,.int .i64 0,.int .i64 0,.int .u8 0,.slice none 0 0,.slice none 0 0,.slice none 0 0,.slice none 0 0],.int .i64 (2)]) (by simp[results,Tryz.results12,go_sem,q0,q1,q2,q3,q4,q5,q6,q7,q8,q9]) rfl ⟨_,emptyS,_,rfl,emptyS_v _ _,HCR.out,HbF.out⟩
   | false=>
     have hall:∀ v∈multsT t,v<n:=fun v hv=>by
      have:=List.any_eq_false.1 Hr.out v hv
      simpa using this
     have Hall:=qq hall;have y0:w4.cell? ⟨w.heap.size+1,0,none⟩=some (.int .i64 n):=HK2a.out.cell 0;clear hall;go_wp2_with fail;refine(project_anyF n Al nl cl xs B2 n2 e2 (multsT t) w4 Hx3.out Hl2.out).mono ?_;rintro e w5 ⟨v,tab,e1,rfl,hv,hR,hb5,hfr⟩;obtain⟨T1,d1,T2,d2,T3,d3,rfl,hq1,hq2,hq3⟩:=hv;have hby:=below_box (w:=w5) (Obj.cells #[.slice T1 tab.low.length d1,.slice T2 tab.up.length d2,.slice T3 tab.pair.length d3] 38);have hky:=blk_new w5 #[.slice T1 tab.low.length d1,.slice T2 tab.up.length d2,.slice T3 tab.pair.length d3] 38;obtain⟨w6,hw6⟩:∃ x,w5.alloc (Obj.cells #[.slice T1 tab.low.length d1,.slice T2 tab.up.length d2,.slice T3 tab.pair.length d3] 38)=x:=⟨_,rfl⟩;rw[hw6] at hby hky;have hb46:=hb5.trans (hby.mono hb5.size);have Hw6:=qq hw6;have HK3b:=qq (HK3a.out.below hb46 HK3a.out.lt);have HKcb:=qq (HKc.out.below hb46 HKc.out.lt);have HKt:=qq hky;have Hb6:=qq (Hb3.out.trans (hb46.mono Hb3.out.size));have Hty6:=qq ((Hty.out.below hb46).more hb46.size);have Hq1:=qq (hq1.freshM hby);have Hq2:=qq (hq2.freshM hby);have Hq3:=qq (hq3.fresh hby);have HR:=qq hR;have Hfr:=qq hfr;clear y0 hby hky hw6 hb46 hq1 hq2 hq3 hR hb5 hfr
     by_cases he:e1=0
     · subst he
       have HCR:Hid (CloseR t n xs ⟨(varsT t).length,(multsT t).length,canT t,tab⟩ 0):=qq (.inr ⟨Hmay.out,.inr ⟨Hall.out,tab,0,HR.out,.inr ⟨rfl,rfl,rfl⟩⟩⟩);go_upto_region 8 with fail;rw[Hw6.out];obtain⟨N,hNn,hT⟩:=HR.out.table rfl;have hok:=hT.ok_;have hlen:tab.low.length=(multsT t).length∧tab.up.length=(multsT t).length∧tab.pair.length=(multsT t).length:=⟨hok.ll,hok.ul,hok.pl⟩;have HT:=qq hok;clear hT hok hlen;have c0:=HKcb.out.cell 0;have c1:=HKcb.out.cell 1;have c2:=HKcb.out.cell 2;have c3:=HKcb.out.cell 3;have c4:=HKcb.out.cell 4;have t0:=HKt.out.cell 0;have t1:=HKt.out.cell 1;have t2:=HKt.out.cell 2;simp only[qc,qb,qa] at c0 c1 c2 c3 c4 t0 t1 t2
       have hFr:∀ ad,T3=some ad→w.heap.size+1+1<ad.block:=fun ad e=>by
        have:=Hfr.out _ _ _ _ _ rfl ad e;have:=HK3a.out.lt;omega
       have HFr:=qq hFr;clear hFr;have ff0:=(HK3b.out).frozen 0;have ff1:=(HK3b.out).frozen 1;have ff2:=(HK3b.out).frozen 2;have ff3:=(HK3b.out).frozen 3;have ff4:=(HK3b.out).frozen 4;have ff5:=(HK3b.out).frozen 5;have ff6:=(HK3b.out).frozen 6;have ff7:=(HK3b.out).frozen 7;have ff8:=(HK3b.out).frozen 8;have ff9:=(HK3b.out).frozen 9;have dd0:w6.cell? ⟨w.heap.size+1+1,0,none⟩=some (.int .i64 0):=(HK3b.out).cell 0;have dd1:w6.cell? ⟨w.heap.size+1+1,1,none⟩=some (.int .i64 0):=(HK3b.out).cell 1;have dd2:w6.cell? ⟨w.heap.size+1+1,2,none⟩=some (.int .u8 0):=(HK3b.out).cell 2;have dd3:w6.cell? ⟨w.heap.size+1+1,3,none⟩=some (.int .i64 0):=(HK3b.out).cell 3;have dd4:w6.cell? ⟨w.heap.size+1+1,4,none⟩=some (.int .i64 0):=(HK3b.out).cell 4;have dd5:w6.cell? ⟨w.heap.size+1+1,5,none⟩=some (.int .u8 0):=(HK3b.out).cell 5;have dd6:w6.cell? ⟨w.heap.size+1+1,6,none⟩=some (.slice none 0 0):=(HK3b.out).cell 6;have dd7:w6.cell? ⟨w.heap.size+1+1,7,none⟩=some (.slice none 0 0):=(HK3b.out).cell 7;have dd8:w6.cell? ⟨w.heap.size+1+1,8,none⟩=some (.slice none 0 0):=(HK3b.out).cell 8;have dd9:w6.cell? ⟨w.heap.size+1+1,9,none⟩=some (.slice none 0 0):=(HK3b.out).cell 9;go_wp2_with fail;show bodyPost _ _ _ _ _ (set10 w6 (w.heap.size+1+1) (.int .i64 (n1:Nat)) (.int .i64 (n2:Nat)) (.int .u8 (canT t).k) (.int .i64 (canT t).n) (.int .i64 (canT t).v) (.int .u8 (canT t).c) (.slice Ac mc cc) (.slice T1 tab.low.length d1) (.slice T2 tab.up.length d2) (.slice T3 tab.pair.length d3));have hkF:=set10_blk (HK3b.out) (.int .i64 (n1:Nat)) (.int .i64 (n2:Nat)) (.int .u8 (canT t).k) (.int .i64 (canT t).n) (.int .i64 (canT t).v) (.int .u8 (canT t).c) (.slice Ac mc cc) (.slice T1 tab.low.length d1) (.slice T2 tab.up.length d2) (.slice T3 tab.pair.length d3);have hiF:=set10_in w6 (w.heap.size+1+1) (.int .i64 (n1:Nat)) (.int .i64 (n2:Nat)) (.int .u8 (canT t).k) (.int .i64 (canT t).n) (.int .i64 (canT t).v) (.int .u8 (canT t).c) (.slice Ac mc cc) (.slice T1 tab.low.length d1) (.slice T2 tab.up.length d2) (.slice T3 tab.pair.length d3);have HbF:=qq (hiF.bel w.heap.size w (by omega) (by omega) (Hb6.out));clear ff0 ff1 ff2 ff3 ff4 ff5 ff6 ff7 ff8 ff9 dd0 dd1 dd2 dd3 dd4 dd5 dd6 dd7 dd8 dd9;generalize set10 w6 (w.heap.size+1+1) (.int .i64 (n1:Nat)) (.int .i64 (n2:Nat)) (.int .u8 (canT t).k) (.int .i64 (canT t).n) (.int .i64 (canT t).v) (.int .u8 (canT t).c) (.slice Ac mc cc) (.slice T1 tab.low.length d1) (.slice T2 tab.up.length d2) (.slice T3 tab.pair.length d3)=wF at hkF hiF HbF ⊢;have q0:wF.cell? ⟨w.heap.size+1+1,0,none⟩=some (.int .i64 (n1:Nat)):=hkF.cell 0;have q1:wF.cell? ⟨w.heap.size+1+1,1,none⟩=some (.int .i64 (n2:Nat)):=hkF.cell 1;have q2:wF.cell? ⟨w.heap.size+1+1,2,none⟩=some (.int .u8 (canT t).k):=hkF.cell 2;have q3:wF.cell? ⟨w.heap.size+1+1,3,none⟩=some (.int .i64 (canT t).n):=hkF.cell 3;have q4:wF.cell? ⟨w.heap.size+1+1,4,none⟩=some (.int .i64 (canT t).v):=hkF.cell 4;have q5:wF.cell? ⟨w.heap.size+1+1,5,none⟩=some (.int .u8 (canT t).c):=hkF.cell 5
       have q6:wF.cell? ⟨w.heap.size+1+1,6,none⟩=some (.slice Ac mc cc):=hkF.cell 6;have q7:wF.cell? ⟨w.heap.size+1+1,7,none⟩=some (.slice T1 tab.low.length d1):=hkF.cell 7;have q8:wF.cell? ⟨w.heap.size+1+1,8,none⟩=some (.slice T2 tab.up.length d2):=hkF.cell 8;have q9:wF.cell? ⟨w.heap.size+1+1,9,none⟩=some (.slice T3 tab.pair.length d3):=hkF.cell 9;have hcm:=mayTE_may (canT_mayTE Hmay.out);have z1:=Hty6.out.zbox (w':=wF) (B':=wF.heap.size) (mayT_l hcm) HK3b.out z10_u8 hiF.other (Nat.le_of_eq hiF.size.symm);have z2:=Hq1.out.zbox (w':=wF) (B':=wF.heap.size) (noneB_pos HT.out.nl) HK3b.out z10_u8 hiF.other (Nat.le_of_eq hiF.size.symm);have z3:=Hq2.out.zbox (w':=wF) (B':=wF.heap.size) (noneB_pos HT.out.nu) HK3b.out z10_u8 hiF.other (Nat.le_of_eq hiF.size.symm);have z4:=Hq3.out.zbox (w':=wF) (B':=wF.heap.size) (fun l hl=>noneB_pos (HT.out.np l hl).2) HFr.out HK3b.out z10_u8 hiF.other (Nat.le_of_eq hiF.size.symm)
       have HV:Hid (SchV wF wF.heap.size (.agg #[.int .i64 (n1:Nat),.int .i64 (n2:Nat),.int .u8 (canT t).k,.int .i64 (canT t).n,.int .i64 (canT t).v,.int .u8 (canT t).c,.slice Ac mc cc,.slice T1 tab.low.length d1,.slice T2 tab.up.length d2,.slice T3 tab.pair.length d3]) ⟨(varsT t).length,(multsT t).length,canT t,tab⟩):=qq ⟨Ac,mc,cc,T1,d1,T2,d2,T3,d3,by rw[Hn1.out,Hn2.out]; rfl,⟨z1,z2,z3,z4⟩⟩
       clear z1 z2 z3 z4;exact bodyPost_ret (v:=.tuple #[.agg #[.int .i64 (n1:Nat),.int .i64 (n2:Nat),.int .u8 (canT t).k,.int .i64 (canT t).n,.int .i64 (canT t).v,.int .u8 (canT t).c,.slice Ac mc cc,.slice T1 tab.low.length d1,.slice T2 tab.up.length d2,.slice T3 tab.pair.length d3],.int .i64 0]) (by simp[results,Tryz.results12,go_sem,q0,q1,q2,q3,q4,q5,q6,q7,q8,q9]) rfl ⟨_,_,_,rfl,HV.out,HCR.out,HbF.out⟩
     · have de:(e1 != 0)=true:=by simpa using he
       have HCR:Hid (CloseR t n xs emptyS e1):=qq (.inr ⟨Hmay.out,.inr ⟨Hall.out,tab,e1,HR.out,.inl ⟨he,rfl,rfl⟩⟩⟩);clear he;go_upto_region 8 with fail;rw[Hw6.out];have ff0:=(HK3b.out).frozen 0;have ff1:=(HK3b.out).frozen 1;have ff2:=(HK3b.out).frozen 2;have ff3:=(HK3b.out).frozen 3;have ff4:=(HK3b.out).frozen 4;have ff5:=(HK3b.out).frozen 5;have ff6:=(HK3b.out).frozen 6;have ff7:=(HK3b.out).frozen 7;have ff8:=(HK3b.out).frozen 8;have ff9:=(HK3b.out).frozen 9;have dd0:w6.cell? ⟨w.heap.size+1+1,0,none⟩=some (.int .i64 0):=(HK3b.out).cell 0;have dd1:w6.cell? ⟨w.heap.size+1+1,1,none⟩=some (.int .i64 0):=(HK3b.out).cell 1;have dd2:w6.cell? ⟨w.heap.size+1+1,2,none⟩=some (.int .u8 0):=(HK3b.out).cell 2;have dd3:w6.cell? ⟨w.heap.size+1+1,3,none⟩=some (.int .i64 0):=(HK3b.out).cell 3;have dd4:w6.cell? ⟨w.heap.size+1+1,4,none⟩=some (.int .i64 0):=(HK3b.out).cell 4;have dd5:w6.cell? ⟨w.heap.size+1+1,5,none⟩=some (.int .u8 0):=(HK3b.out).cell 5;have dd6:w6.cell? ⟨w.heap.size+1+1,6,none⟩=some (.slice none 0 0):=(HK3b.out).cell 6;have dd7:w6.cell? ⟨w.heap.size+1+1,7,none⟩=some (.slice none 0 0):=(HK3b.out).cell 7;have dd8:w6.cell? ⟨w.heap.size+1+1,8,none⟩=some (.slice none 0 0):=(HK3b.out).cell 8;have dd9:w6.cell? ⟨w.heap.size+1+1,9,none⟩=some (.slice none 0 0):=(HK3b.out).cell 9;go_wp2_with fail;show bodyPost _ _ _ _ _ (set10 w6 (w.heap.size+1+1) (.int .i64 0) (.int .i64 0) (.int .u8 0) (.int .i64 0) (.int .i64 0) (.int .u8 0) (.slice none 0 0) (.slice none 0 0) (.slice none 0 0) (.slice none 0 0));have hkF:=set10_blk (HK3b.out) (.int .i64 0) (.int .i64 0) (.int .u8 0) (.int .i64 0) (.int .i64 0) (.int .u8 0) (.slice none 0 0) (.slice none 0 0) (.slice none 0 0) (.slice none 0 0);have hiF:=set10_in w6 (w.heap.size+1+1) (.int .i64 0) (.int .i64 0) (.int .u8 0) (.int .i64 0) (.int .i64 0) (.int .u8 0) (.slice none 0 0) (.slice none 0 0) (.slice none 0 0) (.slice none 0 0);have HbF:=qq (hiF.bel w.heap.size w (by omega) (by omega) (Hb6.out));clear ff0 ff1 ff2 ff3 ff4 ff5 ff6 ff7 ff8 ff9 dd0 dd1 dd2 dd3 dd4 dd5 dd6 dd7 dd8 dd9;generalize set10 w6 (w.heap.size+1+1) (.int .i64 0) (.int .i64 0) (.int .u8 0) (.int .i64 0) (.int .i64 0) (.int .u8 0) (.slice none 0 0) (.slice none 0 0) (.slice none 0 0) (.slice none 0 0)=wF at hkF hiF HbF ⊢;have q0:wF.cell? ⟨w.heap.size+1+1,0,none⟩=some (.int .i64 0):=hkF.cell 0;have q1:wF.cell? ⟨w.heap.size+1+1,1,none⟩=some (.int .i64 0):=hkF.cell 1;have q2:wF.cell? ⟨w.heap.size+1+1,2,none⟩=some (.int .u8 0):=hkF.cell 2;have q3:wF.cell? ⟨w.heap.size+1+1,3,none⟩=some (.int .i64 0):=hkF.cell 3;have q4:wF.cell? ⟨w.heap.size+1+1,4,none⟩=some (.int .i64 0):=hkF.cell 4;have q5:wF.cell? ⟨w.heap.size+1+1,5,none⟩=some (.int .u8 0):=hkF.cell 5;have q6:wF.cell? ⟨w.heap.size+1+1,6,none⟩=some (.slice none 0 0):=hkF.cell 6;have q7:wF.cell? ⟨w.heap.size+1+1,7,none⟩=some (.slice none 0 0):=hkF.cell 7;have q8:wF.cell? ⟨w.heap.size+1+1,8,none⟩=some (.slice none 0 0):=hkF.cell 8
       have q9:wF.cell? ⟨w.heap.size+1+1,9,none⟩=some (.slice none 0 0):=hkF.cell 9;exact bodyPost_ret (v:=.tuple #[.agg #[.int .i64 0,.int .i64 0,.int .u8 0,.int .i64 0,.int .i64 0,.int .u8 0,.slice none 0 0,.slice none 0 0,.slice none 0 0,.slice none 0 0],.int .i64 (e1)]) (by simp[results,Tryz.results12,go_sem,q0,q1,q2,q3,q4,q5,q6,q7,q8,q9]) rfl ⟨_,emptyS,_,rfl,emptyS_v _ _,HCR.out,HbF.out⟩
 · have dm:(mayTE t != 0)=true:=by simpa using hmay
   have HCR:Hid (CloseR t n xs emptyS (mayTE t)):=qq (.inl ⟨hmay,rfl,rfl⟩);clear hmay;have ff0:=(HK3'.out).frozen 0;have ff1:=(HK3'.out).frozen 1;have ff2:=(HK3'.out).frozen 2;have ff3:=(HK3'.out).frozen 3;have ff4:=(HK3'.out).frozen 4;have ff5:=(HK3'.out).frozen 5;have ff6:=(HK3'.out).frozen 6;have ff7:=(HK3'.out).frozen 7;have ff8:=(HK3'.out).frozen 8;have ff9:=(HK3'.out).frozen 9;have dd0:w1.cell? ⟨w.heap.size+1+1,0,none⟩=some (.int .i64 0):=(HK3'.out).cell 0;have dd1:w1.cell? ⟨w.heap.size+1+1,1,none⟩=some (.int .i64 0):=(HK3'.out).cell 1;have dd2:w1.cell? ⟨w.heap.size+1+1,2,none⟩=some (.int .u8 0):=(HK3'.out).cell 2;have dd3:w1.cell? ⟨w.heap.size+1+1,3,none⟩=some (.int .i64 0):=(HK3'.out).cell 3;have dd4:w1.cell? ⟨w.heap.size+1+1,4,none⟩=some (.int .i64 0):=(HK3'.out).cell 4;have dd5:w1.cell? ⟨w.heap.size+1+1,5,none⟩=some (.int .u8 0):=(HK3'.out).cell 5;have dd6:w1.cell? ⟨w.heap.size+1+1,6,none⟩=some (.slice none 0 0):=(HK3'.out).cell 6;have dd7:w1.cell? ⟨w.heap.size+1+1,7,none⟩=some (.slice none 0 0):=(HK3'.out).cell 7;have dd8:w1.cell? ⟨w.heap.size+1+1,8,none⟩=some (.slice none 0 0):=(HK3'.out).cell 8;have dd9:w1.cell? ⟨w.heap.size+1+1,9,none⟩=some (.slice none 0 0):=(HK3'.out).cell 9;go_wp2_with fail;show bodyPost _ _ _ _ _ (set10 w1 (w.heap.size+1+1) (.int .i64 0) (.int .i64 0) (.int .u8 0) (.int .i64 0) (.int .i64 0) (.int .u8 0) (.slice none 0 0) (.slice none 0 0) (.slice none 0 0) (.slice none 0 0));have hkF:=set10_blk (HK3'.out) (.int .i64 0) (.int .i64 0) (.int .u8 0) (.int .i64 0) (.int .i64 0) (.int .u8 0) (.slice none 0 0) (.slice none 0 0) (.slice none 0 0) (.slice none 0 0);have hiF:=set10_in w1 (w.heap.size+1+1) (.int .i64 0) (.int .i64 0) (.int .u8 0) (.int .i64 0) (.int .i64 0) (.int .u8 0) (.slice none 0 0) (.slice none 0 0) (.slice none 0 0) (.slice none 0 0);have HbF:=qq (hiF.bel w.heap.size w (by omega) (by omega) (Hb1.out));clear ff0 ff1 ff2 ff3 ff4 ff5 ff6 ff7 ff8 ff9 dd0 dd1 dd2 dd3 dd4 dd5 dd6 dd7 dd8 dd9;generalize set10 w1 (w.heap.size+1+1) (.int .i64 0) (.int .i64 0) (.int .u8 0) (.int .i64 0) (.int .i64 0) (.int .u8 0) (.slice none 0 0) (.slice none 0 0) (.slice none 0 0) (.slice none 0 0)=wF at hkF hiF HbF ⊢;have q0:wF.cell? ⟨w.heap.size+1+1,0,none⟩=some (.int .i64 0):=hkF.cell 0;have q1:wF.cell? ⟨w.heap.size+1+1,1,none⟩=some (.int .i64 0):=hkF.cell 1;have q2:wF.cell? ⟨w.heap.size+1+1,2,none⟩=some (.int .u8 0):=hkF.cell 2;have q3:wF.cell? ⟨w.heap.size+1+1,3,none⟩=some (.int .i64 0):=hkF.cell 3;have q4:wF.cell? ⟨w.heap.size+1+1,4,none⟩=some (.int .i64 0):=hkF.cell 4;have q5:wF.cell? ⟨w.heap.size+1+1,5,none⟩=some (.int .u8 0):=hkF.cell 5;have q6:wF.cell? ⟨w.heap.size+1+1,6,none⟩=some (.slice none 0 0):=hkF.cell 6;have q7:wF.cell? ⟨w.heap.size+1+1,7,none⟩=some (.slice none 0 0):=hkF.cell 7;have q8:wF.cell? ⟨w.heap.size+1+1,8,none⟩=some (.slice none 0 0):=hkF.cell 8;have q9:wF.cell? ⟨w.heap.size+1+1,9,none⟩=some (.slice none 0 0):=hkF.cell 9
   exact bodyPost_ret (v:=.tuple #[.agg #[.int .i64 0,.int .i64 0,.int .u8 0,.int .i64 0,.int .i64 0,.int .u8 0,.slice none 0 0,.slice none 0 0,.slice none 0 0,.slice none 0 0],.int .i64 (mayTE t)]) (by simp[results,Tryz.results12,go_sem,q0,q1,q2,q3,q4,q5,q6,q7,q8,q9]) rfl ⟨_,emptyS,_,rfl,emptyS_v _ _,HCR.out,HbF.out⟩
end Go.Proofs.YtdmakpmbknindaaGreatDoor
