/- DataKnown holds: the document's examples of data types; what is given. Conditions: the variables that the row lists are laid as the program's text lays them. (Printed by gen_known13.py.) -/
import Derived.Test.YtgpeijkjmkocgaaDoorM32
import Derived.Test.YtgpeijkjmkocgaaDoorM23
set_option linter.unusedVariables false
set_option linter.unusedSimpArgs false
set_option maxHeartbeats 16000000
set_option maxRecDepth 100000
namespace Go.Proofs.YtgpeijkjmkocgaaDoor
open Go.ChangeShapes Go.WideShapes Go.ChangeAt Go.RowKit
structure Kn (w0:World) (b1:Nat) (A1:Option Addr) (c1:Nat) (A2:Option Addr) (c2:Nat) (l:List (Nat × Array Value)) (w:World):Prop where
  sig:SigR w (Lt w.heap.size) sW A1 10 c1 A2 17 c2
  bx:Blk w b1 25 #[.slice A1 10 c1,.slice A2 17 c2]
  ds:∀ p∈l,Blk w p.1 30 p.2
  bel:Below w0.heap.size w0 w
theorem Kn.below {w0 w w':World} {b1:Nat} {A1:Option Addr} {c1:Nat} {A2:Option Addr} {c2:Nat} {l:List (Nat × Array Value)} (h:Kn w0 b1 A1 c1 A2 c2 l w) (hb:Below w.heap.size w w'):Kn w0 b1 A1 c1 A2 c2 l w':=
  ⟨h.sig.fresh hb,h.bx.below hb h.bx.lt,fun p hp=>(h.ds p hp).below hb (h.ds p hp).lt,h.bel.trans (hb.mono h.bel.size)⟩
theorem Kn.diag {w0 w:World} {b1:Nat} {A1:Option Addr} {c1:Nat} {A2:Option Addr} {c2:Nat} {l:List (Nat × Array Value)} (h:Kn w0 b1 A1 c1 A2 c2 l w) (x0 x1 x2 x3:Value):
    Kn w0 b1 A1 c1 A2 c2 ((w.heap.size+1,#[x0,x1,x2,x3]) :: l) ((((((((w.alloc (Obj.cells #[.slice none 0 0,.slice none 0 0] 25)).alloc (Obj.cells #[.int .i64 0,.int .i64 0,.int .i64 0,.int .i64 0] 30)).setCell ⟨w.heap.size,0,none⟩ (.slice none 0 0)).setCell ⟨w.heap.size,1,none⟩ (.slice none 0 0)).setCell ⟨w.heap.size+1,0,none⟩ x0).setCell ⟨w.heap.size+1,1,none⟩ x1).setCell ⟨w.heap.size+1,2,none⟩ x2).setCell ⟨w.heap.size+1,3,none⟩ x3):=by
  have g1:=below_box (w:=w) (Obj.cells #[.slice none 0 0,.slice none 0 0] 25);have g2:=below_box (w:=w.alloc (Obj.cells #[.slice none 0 0,.slice none 0 0] 25)) (Obj.cells #[.int .i64 0,.int .i64 0,.int .i64 0,.int .i64 0] 30);have k2:=blk_new (w.alloc (Obj.cells #[.slice none 0 0,.slice none 0 0] 25)) #[.int .i64 0,.int .i64 0,.int .i64 0,.int .i64 0] 30;rw[World.size_alloc] at k2;have g:=(((((g1.trans (g2.mono g1.size)).setCell (p:=⟨w.heap.size,0,none⟩) (Nat.le_refl _) (.slice none 0 0)).setCell (p:=⟨w.heap.size,1,none⟩) (Nat.le_refl _) (.slice none 0 0)).setCell (p:=⟨w.heap.size+1,0,none⟩) (Nat.le_succ _) x0).setCell (p:=⟨w.heap.size+1,1,none⟩) (Nat.le_succ _) x1).setCell (p:=⟨w.heap.size+1,2,none⟩) (Nat.le_succ _) x2;have g:=g.setCell (p:=⟨w.heap.size+1,3,none⟩) (Nat.le_succ _) x3;have k3:=((((((k2.other (g':=w.heap.size) (by omega) 0 (.slice none 0 0)).other (g':=w.heap.size) (by omega) 1 (.slice none 0 0)).set_ 0 x0).set_ 1 x1).set_ 2 x2).set_ 3 x3);have h2:=h.below g;refine⟨h2.sig,h2.bx,fun p hp=>?_,h2.bel⟩
  rcases qk.1 hp with rfl | hp
  · exact k3
  · exact h2.ds p hp
def HeldQ (b1 b2 b3 b4 bd od bc oc bt ot c1 c2:Nat) (Ai:Option Addr) (ci ct:Nat) (Am:Option Addr) (cm:Nat) (A':Option Addr) (c':Nat) (w':World):Prop:=w'.cell? ⟨b1,0,none⟩=some (.slice (some ⟨bd,od,none⟩) 10 c1)∧w'.cell? ⟨b1,1,none⟩=some (.slice (some ⟨bc,oc,none⟩) 17 c2)∧w'.cell? ⟨bd,od+27+1,none⟩=some (.int .i64 1)∧w'.cell? ⟨bd,od+27+2,none⟩=some (.slice Ai 2 ci)∧w'.cell? ⟨bc,oc+60+2,none⟩=some (.slice (some ⟨bt,ot,none⟩) 2 ct)∧w'.cell? ⟨bc,oc+60+3,none⟩=some (.slice Am 2 cm)∧w'.cell? ⟨bt,ot,none⟩=some (.int .u8 1)∧w'.cell? ⟨bt,ot+1,none⟩=some (.int .i64 0)∧w'.cell? ⟨bt,ot+2,none⟩=some (.int .i64 0)∧w'.cell? ⟨bt,ot+3,none⟩=some (.int .u8 0)∧w'.cell? ⟨bt,ot+4,none⟩=some (.slice A' 0 c')∧w'.cell? ⟨b2,0,none⟩=some (.int .i64 131)∧w'.cell? ⟨b2,1,none⟩=some (.int .i64 11)∧w'.cell? ⟨b2,2,none⟩=some (.int .i64 1)∧w'.cell? ⟨b2,3,none⟩=some (.int .i64 12)∧w'.cell? ⟨b3,0,none⟩=some (.int .i64 132)∧w'.cell? ⟨b3,1,none⟩=some (.int .i64 13)∧w'.cell? ⟨b3,2,none⟩=some (.int .i64 1)∧w'.cell? ⟨b3,3,none⟩=some (.int .i64 14)∧w'.cell? ⟨b4,0,none⟩=some (.int .i64 130)∧w'.cell? ⟨b4,1,none⟩=some (.int .i64 5)∧w'.cell? ⟨b4,2,none⟩=some (.int .i64 1)∧w'.cell? ⟨b4,3,none⟩=some (.int .i64 6)
theorem HeldQ.below {b1 b2 b3 b4 bd od bc oc bt ot c1 c2:Nat} {Ai:Option Addr} {ci ct:Nat} {Am:Option Addr} {cm:Nat} {A':Option Addr} {c':Nat} {w w':World} (h:HeldQ b1 b2 b3 b4 bd od bc oc bt ot c1 c2 Ai ci ct Am cm A' c' w) (hb:Below w.heap.size w w'):HeldQ b1 b2 b3 b4 bd od bc oc bt ot c1 c2 Ai ci ct Am cm A' c' w':=by
  obtain⟨h0,h1,h2,h3,h4,h5,h6,h7,h8,h9,h10,h11,h12,h13,h14,h15,h16,h17,h18,h19,h20,h21,h22⟩:=h;have key:∀ {p:Addr} {v:Value},w.cell? p=some v→w'.cell? p=some v:=fun h=>(hb.cell (block_lt_of_cell h)).trans h;exact⟨key h0,key h1,key h2,key h3,key h4,key h5,key h6,key h7,key h8,key h9,key h10,key h11,key h12,key h13,key h14,key h15,key h16,key h17,key h18,key h19,key h20,key h21,key h22⟩
theorem walk_dataKnown {w:World} (ht:Tab w):Calls Tryd.prog 3 #[] w fun e w'=>e=.returned (.bool true)∧Below w.heap.size w w':=by
  have Ht:=qq ht;clear ht
  go_enter Tryd.func3,Tryd.ntmps3
  go_upto_region 1 with fail;refine wp_region_list ?_;refine wpList_plain rfl fun K hK=>?_;go_simp;refine(t_any w).mono ?_;rintro e w1 ⟨Ap,np,cp,Ac,nc,cc,rfl,h1,h2,hb1⟩;refine hK _ _ ?_;clear hK K;have hs2:=dl_list (dC h1 h2);have hbx:=below_box (w:=w1) (Obj.cells (dlCells tD Ap np cp Ac nc cc) 40);obtain⟨w2,hw2⟩:∃ q,w1.alloc (Obj.cells (dlCells tD Ap np cp Ac nc cc) 40)=q:=⟨_,rfl⟩;rw[hw2] at hs2 hbx;simp only[dlCells,tD,nT,atP,Int.reduceAdd] at hw2 ⊢;refine wpList_plain rfl fun K hK=>?_;go_simp;refine hK _ _ ?_;clear hK K
  (try rw[hw2])
  have Hs2:=qq hs2;have Hb2:=qq (hb1.trans (hbx.mono hb1.size));clear hs2 hbx hb1 h1 h2;refine wpList_plain rfl fun K hK=>?_;go_simp
  refine(check_any _ 1 1 [tD] w2 Hs2.out (fun d hd=>by rw[List.mem_singleton.1 hd]; exact tD_one) (by omega)).mono ?_
  rintro e w3 hcp;obtain⟨A1,c1,A2,c2,rfl,hb3,hsig⟩:=hcp.works;refine hK _ _ ?_;clear hK K;have Hb3:=qq (Hb2.out.trans (hb3.mono Hb2.out.size));have Hsig:=qq hsig;clear hcp hb3 hsig Hb2 Hs2 hw2;go_upto_region 2 with fail;have g4:=below_box (w:=w3) (Obj.cells #[.slice A1 10 c1,.slice A2 17 c2] 25);have k4:=blk_new w3 #[.slice A1 10 c1,.slice A2 17 c2] 25;obtain⟨w4,hw4⟩:∃ q,w3.alloc (Obj.cells #[.slice A1 10 c1,.slice A2 17 c2] 25)=q:=⟨_,rfl⟩;rw[hw4] at g4 k4 ⊢;have g5:=below_box (w:=w4) (Obj.cells #[.int .i64 0,.int .i64 0,.int .i64 0,.int .i64 0] 30);obtain⟨w5,hw5⟩:∃ q,w4.alloc (Obj.cells #[.int .i64 0,.int .i64 0,.int .i64 0,.int .i64 0] 30)=q:=⟨_,rfl⟩;rw[hw5] at g5 ⊢;have hb35:=g4.trans (g5.mono g4.size);obtain⟨b1,hb1⟩:∃ q,w3.heap.size=q:=⟨_,rfl⟩;rw[hb1] at k4 ⊢;have HK:Hid (Kn w b1 A1 c1 A2 c2 [] w5):=qq ⟨Hsig.out.fresh hb35,k4.below g5 k4.lt,fun p hp=>absurd hp (by simp),Hb3.out.trans (hb35.mono Hb3.out.size)⟩;clear g4 g5 k4 hw4 hw5 hb35 hb1 Hsig Hb3
  -- region 2
  refine wp_region_list ?_;have Hqr2:=qq (Below.refl w5.heap.size w5);refine wpList_plain rfl fun K hK=>?_;go_simp;refine(named_any ⟨#[98]⟩ true nb_ge 11 (by omega) (by omega) none 0 0 w5).mono ?_;rintro e r2b ⟨rfl,hq⟩;refine hK _ _ ?_;clear hK K;have Hcr2b:=qq (Hqr2.out.trans (hq.mono Hqr2.out.size));clear Hqr2;clear hq;refine wpList_plain rfl fun K hK=>?_;go_simp;refine hK _ _ ?_;clear hK K;have hbx:=below_box (w:=r2b) (Obj.cells #[.int .u8 1,.string ⟨#[98]⟩,.int .u8 0,.int .i64 11,.int .i64 1,.int .i64 12,.slice none 0 0] 47)
  have hsf:=Sl.new (enc:=encW) (k:=7) r2b (fun _=>False) (fun _ h=>h.elim) [.mk 1 nb 0 (atP 11) []] [.int .u8 1,.string ⟨#[98]⟩,.int .u8 0,.int .i64 11,.int .i64 1,.int .i64 12,.slice none 0 0] 47 1 rfl (by unfold maxLen; omega) (by rw[List.flatMap_cons,List.flatMap_nil,List.append_nil]; exact wC (t:=.mk 1 nb 0 (atP 11) []) Sl.nil)
  obtain⟨r2c,hw⟩:∃ q,r2b.alloc (Obj.cells #[.int .u8 1,.string ⟨#[98]⟩,.int .u8 0,.int .i64 11,.int .i64 1,.int .i64 12,.slice none 0 0] 47)=q:=⟨_,rfl⟩
  have hz:r2c.heap.size=r2b.heap.size+1:=by rw[← hw]; simp
  rw[show r2b.alloc (Obj.cells ([.int .u8 1,.string ⟨#[98]⟩,.int .u8 0,.int .i64 11,.int .i64 1,.int .i64 12,.slice none 0 0]:List Value).toArray 47)=r2c from hw] at hsf
  rw[show r2b.alloc (Obj.cells #[.int .u8 1,.string { data:=#[98] },.int .u8 0,.int .i64 11,.int .i64 1,.int .i64 12,.slice none 0 0] 47)=r2c from hw]
  rw[hw] at hbx
  have hsf2:Sl r2c (fun b=>b<r2c.heap.size∧¬ False) encW 7 [.mk 1 nb 0 (atP 11) []] (some ⟨r2b.heap.size,0,none⟩) 1 1:=hsf.mono fun b h=>h.elim (fun q=>q.elim) fun q=>⟨by omega,id⟩
  have Hsf:=qq hsf2;have Hcr2c:=qq (Hcr2b.out.trans (hbx.mono Hcr2b.out.size));clear Hcr2b;clear hbx hsf hsf2 hz hw;refine wpList_plain rfl fun K hK=>?_;go_simp;refine(decl_any (fun _=>False) ⟨#[84]⟩ none 0 0 (some ⟨r2b.heap.size,0,none⟩) 1 1 [.mk 1 nb 0 (atP 11) []] r2c Hsf.out (by omega)).mono ?_;rintro e r2d ⟨gc,A5,c5,base,rfl,hq,hgc,hbs,hkg,hown,hol⟩;refine hK _ _ ?_;clear hK K;have hcl:=dl_cels (name:=⟨#[84]⟩) (ps:=[]) (xs:=[.mk 1 nb 0 (atP 11) []]) (S:=Lt r2d.heap.size) Sl.nil (fun _ h=>h) hkg hown;have Hcr2d:=qq (Hcr2c.out.trans (hq.mono Hcr2c.out.size));clear Hcr2c;clear hq hgc hbs hkg hown hol Hsf;have hs2:=dl_list hcl;have hbx:=below_box (w:=r2d) (Obj.cells (declCells ⟨#[84]⟩ none 0 0 gc) 40);obtain⟨r2e,hw⟩:∃ q,r2d.alloc (Obj.cells (declCells ⟨#[84]⟩ none 0 0 gc) 40)=q:=⟨_,rfl⟩;rw[hw] at hs2 hbx;simp only[declCells] at hw ⊢;refine wpList_plain rfl fun K hK=>?_;go_simp;refine hK _ _ ?_;clear hK K
  (try rw[hw])
  have Hs2:Hid (Sl r2e (Lt r2e.heap.size) encD 16 [d2] (some ⟨r2d.heap.size,0,none⟩) 1 1):=qq hs2;have Hcr2e:=qq (Hcr2d.out.trans (hbx.mono Hcr2d.out.size));clear Hcr2d;clear hs2 hbx hcl hw;refine wpList_plain rfl fun K hK=>?_;go_simp
  refine(check_any _ 1 1 [d2] r2e Hs2.out (fun d hd=>by rw[List.mem_singleton.1 hd]; exact dl_one _ _ _) (by omega)).mono ?_
  rintro e r2f hcp;obtain⟨rfl,hq⟩:=hcp.err d2_check;refine hK _ _ ?_;clear hK K;have Hcr2f:=qq (Hcr2e.out.trans (hq.mono Hcr2e.out.size));clear Hcr2e;have hkn:=(HK.out.below Hcr2f.out).diag (.int .i64 131) (.int .i64 11) (.int .i64 1) (.int .i64 12);obtain⟨b2,hbn⟩:∃ q,r2f.heap.size+1=q:=⟨_,rfl⟩;rw[hbn] at hkn;obtain⟨v2,hv2⟩:∃ q,((((((((r2f.alloc (Obj.cells #[.slice none 0 0,.slice none 0 0] 25)).alloc (Obj.cells #[.int .i64 0,.int .i64 0,.int .i64 0,.int .i64 0] 30)).setCell ⟨r2f.heap.size,0,none⟩ (.slice none 0 0)).setCell ⟨r2f.heap.size,1,none⟩ (.slice none 0 0)).setCell ⟨b2,0,none⟩ (.int .i64 131)).setCell ⟨b2,1,none⟩ (.int .i64 11)).setCell ⟨b2,2,none⟩ (.int .i64 1)).setCell ⟨b2,3,none⟩ (.int .i64 12))=q:=⟨_,rfl⟩;rw[hv2] at hkn;clear HK hq hcp Hs2 Hcr2f;have HK:=qq hkn;clear hkn;simp only[atP,Int.reduceAdd];go_upto_region 3 with fail
  (try rw[hv2])
  (try rw[hbn])
  clear hbn hv2
  -- region 3
  refine wp_region_list ?_;have Hqr3:=qq (Below.refl v2.heap.size v2);refine wpList_plain rfl fun K hK=>?_;go_simp;refine hK _ _ ?_;clear hK K;have hbx:=below_box (w:=v2) (Obj.cells #[.string ⟨#[97]⟩] 9)
  have hsp:=Sl.new (enc:=encS) (k:=1) v2 (fun _=>False) (fun _ h=>h.elim) [na] [.string ⟨#[97]⟩] 9 1 rfl (by unfold maxLen; omega) ⟨celIn_v.2 rfl,trivial⟩
  obtain⟨r3a,hw⟩:∃ q,v2.alloc (Obj.cells #[.string ⟨#[97]⟩] 9)=q:=⟨_,rfl⟩
  have hz:r3a.heap.size=v2.heap.size+1:=by rw[← hw]; simp
  rw[show v2.alloc (Obj.cells ([.string ⟨#[97]⟩]:List Value).toArray 9)=r3a from hw] at hsp
  rw[show v2.alloc (Obj.cells #[.string { data:=#[97] }] 9)=r3a from hw]
  rw[hw] at hbx
  have hsp2:Sl r3a (Lt r3a.heap.size) encS 1 [na] (some ⟨v2.heap.size,0,none⟩) 1 1:=hsp.mono fun b h=>h.elim (fun q=>q.elim) fun q=>by show b<_; omega
  have Hsp:=qq hsp2;have Hcr3a:=qq (Hqr3.out.trans (hbx.mono Hqr3.out.size));clear Hqr3;clear hbx hsp hsp2 hz hw;refine wpList_plain rfl fun K hK=>?_;go_simp;refine(named_any ⟨#[84]⟩ false nT_ge 13 (by omega) (by omega) none 0 0 r3a).mono ?_;rintro e r3b ⟨rfl,hq⟩;refine hK _ _ ?_;clear hK K;replace Hsp:=qq (Hsp.out.fresh hq);have Hcr3b:=qq (Hcr3a.out.trans (hq.mono Hcr3a.out.size));clear Hcr3a;clear hq;refine wpList_plain rfl fun K hK=>?_;go_simp;refine hK _ _ ?_;clear hK K;have hbx:=below_box (w:=r3b) (Obj.cells #[.int .u8 2,.string ⟨#[84]⟩,.int .u8 0,.int .i64 13,.int .i64 1,.int .i64 14,.slice none 0 0] 47)
  have hsf:=Sl.new (enc:=encW) (k:=7) r3b (fun _=>False) (fun _ h=>h.elim) [.mk 2 nT 0 (atP 13) []] [.int .u8 2,.string ⟨#[84]⟩,.int .u8 0,.int .i64 13,.int .i64 1,.int .i64 14,.slice none 0 0] 47 1 rfl (by unfold maxLen; omega) (by rw[List.flatMap_cons,List.flatMap_nil,List.append_nil]; exact wC (t:=.mk 2 nT 0 (atP 13) []) Sl.nil)
  obtain⟨r3c,hw⟩:∃ q,r3b.alloc (Obj.cells #[.int .u8 2,.string ⟨#[84]⟩,.int .u8 0,.int .i64 13,.int .i64 1,.int .i64 14,.slice none 0 0] 47)=q:=⟨_,rfl⟩
  have hz:r3c.heap.size=r3b.heap.size+1:=by rw[← hw]; simp
  rw[show r3b.alloc (Obj.cells ([.int .u8 2,.string ⟨#[84]⟩,.int .u8 0,.int .i64 13,.int .i64 1,.int .i64 14,.slice none 0 0]:List Value).toArray 47)=r3c from hw] at hsf
  rw[show r3b.alloc (Obj.cells #[.int .u8 2,.string { data:=#[84] },.int .u8 0,.int .i64 13,.int .i64 1,.int .i64 14,.slice none 0 0] 47)=r3c from hw]
  rw[hw] at hbx
  have hsf2:Sl r3c (fun b=>b<r3c.heap.size∧¬ False) encW 7 [.mk 2 nT 0 (atP 13) []] (some ⟨r3b.heap.size,0,none⟩) 1 1:=hsf.mono fun b h=>h.elim (fun q=>q.elim) fun q=>⟨by omega,id⟩
  have Hsf:=qq hsf2;replace Hsp:=qq (Hsp.out.fresh hbx);have Hcr3c:=qq (Hcr3b.out.trans (hbx.mono Hcr3b.out.size));clear Hcr3b;clear hbx hsf hsf2 hz hw;refine wpList_plain rfl fun K hK=>?_;go_simp;refine(decl_any (fun _=>False) ⟨#[84]⟩ (some ⟨v2.heap.size,0,none⟩) 1 1 (some ⟨r3b.heap.size,0,none⟩) 1 1 [.mk 2 nT 0 (atP 13) []] r3c Hsf.out (by omega)).mono ?_;rintro e r3d ⟨gc,A5,c5,base,rfl,hq,hgc,hbs,hkg,hown,hol⟩;refine hK _ _ ?_;clear hK K;have hcl:=dl_cels (name:=⟨#[84]⟩) (ps:=[na]) (xs:=[.mk 2 nT 0 (atP 13) []]) (S:=Lt r3d.heap.size) (Hsp.out.fresh hq) (fun _ h=>h) hkg hown;have Hcr3d:=qq (Hcr3c.out.trans (hq.mono Hcr3c.out.size));clear Hcr3c;clear hq hgc hbs hkg hown hol Hsf Hsp;have hs2:=dl_list hcl;have hbx:=below_box (w:=r3d) (Obj.cells (declCells ⟨#[84]⟩ (some ⟨v2.heap.size,0,none⟩) 1 1 gc) 40);obtain⟨r3e,hw⟩:∃ q,r3d.alloc (Obj.cells (declCells ⟨#[84]⟩ (some ⟨v2.heap.size,0,none⟩) 1 1 gc) 40)=q:=⟨_,rfl⟩;rw[hw] at hs2 hbx;simp only[declCells] at hw ⊢;refine wpList_plain rfl fun K hK=>?_;go_simp;refine hK _ _ ?_;clear hK K
  (try rw[hw])
  have Hs2:Hid (Sl r3e (Lt r3e.heap.size) encD 16 [d3] (some ⟨r3d.heap.size,0,none⟩) 1 1):=qq hs2;have Hcr3e:=qq (Hcr3d.out.trans (hbx.mono Hcr3d.out.size));clear Hcr3d;clear hs2 hbx hcl hw;refine wpList_plain rfl fun K hK=>?_;go_simp
  refine(check_any _ 1 1 [d3] r3e Hs2.out (fun d hd=>by rw[List.mem_singleton.1 hd]; exact dl_one _ _ _) (by omega)).mono ?_
  rintro e r3f hcp;obtain⟨rfl,hq⟩:=hcp.err d3_check;refine hK _ _ ?_;clear hK K;have Hcr3f:=qq (Hcr3e.out.trans (hq.mono Hcr3e.out.size));clear Hcr3e;have hkn:=(HK.out.below Hcr3f.out).diag (.int .i64 132) (.int .i64 13) (.int .i64 1) (.int .i64 14);obtain⟨b3,hbn⟩:∃ q,r3f.heap.size+1=q:=⟨_,rfl⟩;rw[hbn] at hkn;obtain⟨v3,hv3⟩:∃ q,((((((((r3f.alloc (Obj.cells #[.slice none 0 0,.slice none 0 0] 25)).alloc (Obj.cells #[.int .i64 0,.int .i64 0,.int .i64 0,.int .i64 0] 30)).setCell ⟨r3f.heap.size,0,none⟩ (.slice none 0 0)).setCell ⟨r3f.heap.size,1,none⟩ (.slice none 0 0)).setCell ⟨b3,0,none⟩ (.int .i64 132)).setCell ⟨b3,1,none⟩ (.int .i64 13)).setCell ⟨b3,2,none⟩ (.int .i64 1)).setCell ⟨b3,3,none⟩ (.int .i64 14))=q:=⟨_,rfl⟩;rw[hv3] at hkn;clear HK hq hcp Hs2 Hcr3f;have HK:=qq hkn;clear hkn;simp only[atP,Int.reduceAdd];go_upto_region 4 with fail
  (try rw[hv3])
  (try rw[hbn])
  clear hbn hv3
  -- region 4
  refine wp_region_list ?_;have Hqr4:=qq (Below.refl v3.heap.size v3);refine wpList_plain rfl fun K hK=>?_;go_simp;refine(decl_any (fun _=>False) ⟨#[76,105,115,116]⟩ none 0 0 none 0 0 [] v3 Sl.nil (by omega)).mono ?_;rintro e r4d ⟨gc,A5,c5,base,rfl,hq,hgc,hbs,hkg,hown,hol⟩;refine hK _ _ ?_;clear hK K;have hcl:=dl_cels (name:=⟨#[76,105,115,116]⟩) (ps:=[]) (xs:=[]) (S:=Lt r4d.heap.size) Sl.nil (fun _ h=>h) hkg hown;have Hcr4d:=qq (Hqr4.out.trans (hq.mono Hqr4.out.size));clear Hqr4;clear hq hgc hbs hkg hown hol;have hs2:=dl_list hcl;have hbx:=below_box (w:=r4d) (Obj.cells (declCells ⟨#[76,105,115,116]⟩ none 0 0 gc) 40);obtain⟨r4e,hw⟩:∃ q,r4d.alloc (Obj.cells (declCells ⟨#[76,105,115,116]⟩ none 0 0 gc) 40)=q:=⟨_,rfl⟩;rw[hw] at hs2 hbx;simp only[declCells] at hw ⊢;refine wpList_plain rfl fun K hK=>?_;go_simp;refine hK _ _ ?_;clear hK K
  (try rw[hw])
  have Hs2:Hid (Sl r4e (Lt r4e.heap.size) encD 16 [d4] (some ⟨r4d.heap.size,0,none⟩) 1 1):=qq hs2;have Hcr4e:=qq (Hcr4d.out.trans (hbx.mono Hcr4d.out.size));clear Hcr4d;clear hs2 hbx hcl hw;refine wpList_plain rfl fun K hK=>?_;go_simp
  refine(check_any _ 1 1 [d4] r4e Hs2.out (fun d hd=>by rw[List.mem_singleton.1 hd]; exact dl_one _ _ _) (by omega)).mono ?_
  rintro e r4f hcp;obtain⟨rfl,hq⟩:=hcp.err d4_check;refine hK _ _ ?_;clear hK K;have Hcr4f:=qq (Hcr4e.out.trans (hq.mono Hcr4e.out.size));clear Hcr4e;have hkn:=(HK.out.below Hcr4f.out).diag (.int .i64 130) (.int .i64 5) (.int .i64 1) (.int .i64 6);obtain⟨b4,hbn⟩:∃ q,r4f.heap.size+1=q:=⟨_,rfl⟩;rw[hbn] at hkn;obtain⟨v4,hv4⟩:∃ q,((((((((r4f.alloc (Obj.cells #[.slice none 0 0,.slice none 0 0] 25)).alloc (Obj.cells #[.int .i64 0,.int .i64 0,.int .i64 0,.int .i64 0] 30)).setCell ⟨r4f.heap.size,0,none⟩ (.slice none 0 0)).setCell ⟨r4f.heap.size,1,none⟩ (.slice none 0 0)).setCell ⟨b4,0,none⟩ (.int .i64 130)).setCell ⟨b4,1,none⟩ (.int .i64 5)).setCell ⟨b4,2,none⟩ (.int .i64 1)).setCell ⟨b4,3,none⟩ (.int .i64 6))=q:=⟨_,rfl⟩;rw[hv4] at hkn;clear HK hq hcp Hs2 Hcr4f;have HK:=qq hkn;clear hkn;simp only[atP,Int.reduceAdd];go_upto_region 5 with fail
  (try rw[hv4])
  (try rw[hbn])
  clear hbn hv4;have hk:=HK.out;clear HK;obtain⟨bd,od,rfl,hbd,hcf⟩:=datas_at hk.sig.datas (by omega);obtain⟨bc,oc,rfl,hbc,hcc⟩:=cons_at hk.sig.cons (by omega)
  obtain⟨_,p9,Ai,mi,ci,c9,hi⟩:=hcf 9 (by rw[sW_d]; decide)
  obtain⟨_,_,⟨At,mt,ct,f15,hft⟩,Am,mm,cm,m15,hmm⟩:=hcc 15 (by rw[sW_c]; decide)
  rw[sW_d9] at p9 hi;rw[sW_c15] at hft hmm;obtain rfl:mi=2:=hi.len.symm;obtain rfl:mt=2:=hft.len.symm;obtain rfl:mm=2:=hmm.len.symm;obtain⟨bt,ot,rfl,hbt,hct⟩:=typ_at hft (by omega);obtain⟨t0,t1,t2,t3,A',m',c',t4,hT⟩:=hct 0 (by decide);obtain rfl:m'=0:=hT.len.symm;have hd2:=hk.ds _ (List.mem_cons_of_mem _ (List.mem_cons_of_mem _ List.mem_cons_self));have hd3:=hk.ds _ (List.mem_cons_of_mem _ List.mem_cons_self);have hd4:=hk.ds _ List.mem_cons_self
  have hh:HeldQ b1 b2 b3 b4 bd od bc oc bt ot c1 c2 Ai ci ct Am cm A' c' v4:=
    ⟨hk.bx.cell 0,hk.bx.cell 1,p9,c9,f15,m15,t0,t1,t2,t3,t4,hd2.cell 0,hd2.cell 1,hd2.cell 2,hd2.cell 3,hd3.cell 0,hd3.cell 1,hd3.cell 2,hd3.cell 3,hd4.cell 0,hd4.cell 1,hd4.cell 2,hd4.cell 3⟩
  have HI:=qq hi;have HM:=qq hmm;have HT:=qq hT;have HK:=qq hk;have Hh:=qq hh;clear hk hcf hcc p9 c9 f15 m15 hft hmm hi hct t0 t1 t2 t3 t4 hT hbd hbc hbt hd2 hd3 hd4 hh;refine wp_region_noPanic ?_;refine wp_region_T (fun w'=>w'.cell? ⟨b1,0,none⟩=some (.slice (some ⟨bd,od,none⟩) 10 c1)∧w'.cell? ⟨b1,1,none⟩=some (.slice (some ⟨bc,oc,none⟩) 17 c2)∧w'.cell? ⟨bd,od+27+1,none⟩=some (.int .i64 1)∧w'.cell? ⟨bd,od+27+2,none⟩=some (.slice Ai 2 ci)∧w'.cell? ⟨bc,oc+60+2,none⟩=some (.slice (some ⟨bt,ot,none⟩) 2 ct)∧w'.cell? ⟨bc,oc+60+3,none⟩=some (.slice Am 2 cm)∧w'.cell? ⟨bt,ot,none⟩=some (.int .u8 1)∧w'.cell? ⟨bt,ot+1,none⟩=some (.int .i64 0)∧w'.cell? ⟨bt,ot+2,none⟩=some (.int .i64 0)∧w'.cell? ⟨bt,ot+3,none⟩=some (.int .u8 0)∧w'.cell? ⟨bt,ot+4,none⟩=some (.slice A' 0 c')∧w'.cell? ⟨b2,0,none⟩=some (.int .i64 131)∧w'.cell? ⟨b2,1,none⟩=some (.int .i64 11)∧w'.cell? ⟨b2,2,none⟩=some (.int .i64 1)∧w'.cell? ⟨b2,3,none⟩=some (.int .i64 12)∧w'.cell? ⟨b3,0,none⟩=some (.int .i64 132)∧w'.cell? ⟨b3,1,none⟩=some (.int .i64 13)∧w'.cell? ⟨b3,2,none⟩=some (.int .i64 1)∧w'.cell? ⟨b3,3,none⟩=some (.int .i64 14)∧w'.cell? ⟨b4,0,none⟩=some (.int .i64 130)∧w'.cell? ⟨b4,1,none⟩=some (.int .i64 5)∧w'.cell? ⟨b4,2,none⟩=some (.int .i64 1)∧w'.cell? ⟨b4,3,none⟩=some (.int .i64 6)) 67 (by kernel_rfl) Hh.out (fun hHeld=>?_);have hq:Below v4.heap.size v4 v4.drew:=Below.drew (Below.refl _ _);replace HK:=qq (HK.out.below hq);replace HI:=qq (HI.out.fresh hq);replace HM:=qq (HM.out.fresh hq);replace HT:=qq (HT.out.fresh hq);clear hq Hh;generalize v4.drew=w9 at hHeld HK HI HM HT ⊢;replace hHeld:HeldQ b1 b2 b3 b4 bd od bc oc bt ot c1 c2 Ai ci ct Am cm A' c' w9:=hHeld;refine wpAnyT_step (i:=0) (by kernel_rfl) rfl (fun K hK=>?_)
  (go_simp; refine(works_any w9 (Ht.out.below HK.out.bel)).mono ?_; rintro e w10 ⟨rfl,hq⟩; replace hHeld:=hHeld.below hq)
  refine hK.out _ _ hHeld ?_;clear hK K
  try simp only[Act.put,qg,qe,qf,qd,qh,qi]
  replace HK:=qq (HK.out.below hq);replace HI:=qq (HI.out.fresh hq);replace HM:=qq (HM.out.fresh hq);replace HT:=qq (HT.out.fresh hq);clear hq;refine nx0 1 ?_
  iterate 20 (refine nx (v:=?_) rfl (by kernel_rfl) (fun _ _ _ h=>h) (by kernel_rfl) ?_ (by assumption) ?_; rotate_left; (focus (intro w hSw; (try dsimp only at hSw); first | (go_simp; done) | (go_simp; with_reducible rfl))); try simp only[Act.put,qg,qe,qf,qd,qh,qi,Nat.reduceAdd])
  refine nx9 ?_
  refine sl_litK (enc:=encI) (k:=1) w10 [15,16] [.int .i64 15,.int .i64 16] 3 2 rfl (by unfold maxLen; omega) ⟨celIn_v.2 rfl,celIn_v.2 rfl,trivial⟩ ?_
  intro w11 hw11 g11 hs2;have Hq:=qq (equalI13 (slI_rd (HI.out.fresh g11)) (slI_rd hs2) (r:=true) (by decide));replace hHeld:=hHeld.below g11;replace HK:=qq (HK.out.below g11);replace HM:=qq (HM.out.fresh g11);replace HT:=qq (HT.out.fresh g11);have HW:=qq hw11;clear hw11 hs2 g11 HI;refine wpAnyT_step (i:=21) (by kernel_rfl) rfl (fun K hK=>?_)
  (go_simp; (try rw[HW.out]))
  refine hK.out _ _ hHeld ?_;clear hK K
  try simp only[Act.put,qg,qe,qf,qd,qh,qi]
  refine wpAnyT_step (i:=22) (by kernel_rfl) rfl (fun K hK=>?_)
  (go_simp; refine Hq.out.mono ?_; rintro e w12 ⟨rfl,hq⟩; replace hHeld:=hHeld.below hq)
  refine hK.out _ _ hHeld ?_;clear hK K
  try simp only[Act.put,qg,qe,qf,qd,qh,qi]
  replace HK:=qq (HK.out.below hq);replace HM:=qq (HM.out.fresh hq);replace HT:=qq (HT.out.fresh hq);clear hq Hq HW;refine nx0 23 ?_
  iterate 7 (refine nx (v:=?_) rfl (by kernel_rfl) (fun _ _ _ h=>h) (by kernel_rfl) ?_ (by assumption) ?_; rotate_left; (focus (intro w hSw; (try dsimp only at hSw); first | (go_simp; done) | (go_simp; with_reducible rfl))); try simp only[Act.put,qg,qe,qf,qd,qh,qi,Nat.reduceAdd])
  refine nx9 ?_
  refine sl_litK (enc:=encU) (k:=1) w12 [1,3] [.int .u8 1,.int .u8 3] 44 2 rfl (by unfold maxLen; omega) ⟨celIn_v.2 rfl,celIn_v.2 rfl,trivial⟩ ?_
  intro w13 hw13 g11 hs2;have Hq:=qq (equalM13t w13 (slU_rd (HM.out.fresh g11)) (slU_rd hs2));replace hHeld:=hHeld.below g11;replace HK:=qq (HK.out.below g11);replace HT:=qq (HT.out.fresh g11);have HW:=qq hw13;clear hw13 hs2 g11 HM;refine wpAnyT_step (i:=30) (by kernel_rfl) rfl (fun K hK=>?_)
  (go_simp; (try rw[HW.out]))
  refine hK.out _ _ hHeld ?_;clear hK K
  try simp only[Act.put,qg,qe,qf,qd,qh,qi]
  refine wpAnyT_step (i:=31) (by kernel_rfl) rfl (fun K hK=>?_)
  (go_simp; refine Hq.out.mono ?_; rintro e w14 ⟨rfl,hq⟩; replace hHeld:=hHeld.below hq)
  refine hK.out _ _ hHeld ?_;clear hK K
  try simp only[Act.put,qg,qe,qf,qd,qh,qi]
  replace HK:=qq (HK.out.below hq);replace HT:=qq (HT.out.fresh hq);clear hq Hq HW;refine nx0 32 ?_
  iterate 9 (refine nx (v:=?_) rfl (by kernel_rfl) (fun _ _ _ h=>h) (by kernel_rfl) ?_ (by assumption) ?_; rotate_left; (focus (intro w hSw; (try dsimp only at hSw); first | (go_simp; done) | (go_simp; with_reducible rfl))); try simp only[Act.put,qg,qe,qf,qd,qh,qi,Nat.reduceAdd])
  refine nx9 ?_;have Hq:=qq (text_a0 A' c' w14 (tysV_sl.2 HT.out) (Ht.out.below HK.out.bel));clear HT;refine wpAnyT_step (i:=41) (by kernel_rfl) rfl (fun K hK=>?_)
  (go_simp; refine Hq.out.mono ?_; rintro e w15 ⟨rfl,hq⟩; replace hHeld:=hHeld.below hq)
  refine hK.out _ _ hHeld ?_;clear hK K
  try simp only[Act.put,qg,qe,qf,qd,qh,qi]
  replace HK:=qq (HK.out.below hq);clear hq Hq;refine nx0 42 ?_
  iterate 4 (refine nx (v:=?_) rfl (by kernel_rfl) (fun _ _ _ h=>h) (by kernel_rfl) ?_ (by assumption) ?_; rotate_left; (focus (intro w hSw; (try dsimp only at hSw); first | (go_simp; done) | (go_simp; with_reducible rfl))); try simp only[Act.put,qg,qe,qf,qd,qh,qi,Nat.reduceAdd])
  refine nx9 ?_;refine wpAnyT_step (i:=46) (by kernel_rfl) rfl (fun K hK=>?_)
  (go_simp; refine(at13_any 11 (by omega) (by omega) w15).mono ?_; rintro e w16 ⟨rfl,hq⟩; replace hHeld:=hHeld.below hq)
  refine hK.out _ _ hHeld ?_;clear hK K
  try simp only[Act.put,qg,qe,qf,qd,qh,qi]
  replace HK:=qq (HK.out.below hq);clear hq
  try simp only[Int.reduceAdd]
  refine nx0 47 ?_
  iterate 5 (refine nx (v:=?_) rfl (by kernel_rfl) (fun _ _ _ h=>h) (by kernel_rfl) ?_ (by assumption) ?_; rotate_left; (focus (intro w hSw; (try dsimp only at hSw); first | (go_simp; done) | (go_simp; with_reducible rfl))); try simp only[Act.put,qg,qe,qf,qd,qh,qi,Nat.reduceAdd])
  refine nx9 ?_;refine wpAnyT_step (i:=52) (by kernel_rfl) rfl (fun K hK=>?_)
  (go_simp; refine(at13_any 13 (by omega) (by omega) w16).mono ?_; rintro e w17 ⟨rfl,hq⟩; replace hHeld:=hHeld.below hq)
  refine hK.out _ _ hHeld ?_;clear hK K
  try simp only[Act.put,qg,qe,qf,qd,qh,qi]
  replace HK:=qq (HK.out.below hq);clear hq
  try simp only[Int.reduceAdd]
  refine nx0 53 ?_
  iterate 5 (refine nx (v:=?_) rfl (by kernel_rfl) (fun _ _ _ h=>h) (by kernel_rfl) ?_ (by assumption) ?_; rotate_left; (focus (intro w hSw; (try dsimp only at hSw); first | (go_simp; done) | (go_simp; with_reducible rfl))); try simp only[Act.put,qg,qe,qf,qd,qh,qi,Nat.reduceAdd])
  refine nx9 ?_;refine wpAnyT_step (i:=58) (by kernel_rfl) rfl (fun K hK=>?_)
  (go_simp; refine(at13_any 5 (by omega) (by omega) w17).mono ?_; rintro e w18 ⟨rfl,hq⟩; replace hHeld:=hHeld.below hq)
  refine hK.out _ _ hHeld ?_;clear hK K
  try simp only[Act.put,qg,qe,qf,qd,qh,qi]
  replace HK:=qq (HK.out.below hq);clear hq
  try simp only[Int.reduceAdd]
  refine nx0 59 ?_
  iterate 4 (refine nx (v:=?_) rfl (by kernel_rfl) (fun _ _ _ h=>h) (by kernel_rfl) ?_ (by assumption) ?_; rotate_left; (focus (intro w hSw; (try dsimp only at hSw); first | (go_simp; done) | (go_simp; with_reducible rfl))); try simp only[Act.put,qg,qe,qf,qd,qh,qi,Nat.reduceAdd])
  refine nx9 ?_;refine wpAnyT_step (i:=63) (by kernel_rfl) rfl (fun K hK=>?_)
  (go_simp; refine(given_sig w18).mono ?_; rintro e w19 ⟨B1,n1,e1,B2,n2,e2,rfl,hs1,hq⟩; replace hHeld:=hHeld.below hq)
  refine hK.out _ _ hHeld ?_;clear hK K
  try simp only[Act.put,qg,qe,qf,qd,qh,qi]
  replace HK:=qq (HK.out.below hq);have HS1:=qq hs1;clear hq hs1;refine wpAnyT_step (i:=64) (by kernel_rfl) rfl (fun K hK=>?_)
  (go_simp; refine(refGiven_any w19).mono ?_; rintro e w20 ⟨D1,m1,f1,D2,m2,f2,rfl,hs2,hq⟩; replace hHeld:=hHeld.below hq)
  refine hK.out _ _ hHeld ?_;clear hK K
  try simp only[Act.put,qg,qe,qf,qd,qh,qi]
  replace HK:=qq (HK.out.below hq);have HS2:=qq hs2;replace HS1:=qq (HS1.out.fresh hq);clear hq hs2;refine wpAnyT_step (i:=65) (by kernel_rfl) rfl (fun K hK=>?_)
  (go_simp; refine(refSame13_any givenS _ _ _ _ _ _ _ _ _ _ _ _ w20 HS1.out HS2.out given_mf).mono ?_; rintro e w21 ⟨rfl,hq⟩; replace hHeld:=hHeld.below hq)
  refine hK.out _ _ hHeld ?_;clear hK K
  try simp only[Act.put,qg,qe,qf,qd,qh,qi]
  replace HK:=qq (HK.out.below hq);clear hq HS1 HS2;refine nx0 66 ?_
  iterate 1 (refine nx (v:=?_) rfl (by kernel_rfl) (fun _ _ _ h=>h) (by kernel_rfl) ?_ (by assumption) ?_; rotate_left; (focus (intro w hSw; (try dsimp only at hSw); first | (go_simp; done) | (go_simp; with_reducible rfl))); try simp only[Act.put,qg,qe,qf,qd,qh,qi,Nat.reduceAdd])
  refine nx9 ?_;clear hHeld;refine wpAnyT_seq 67 (by omega) (by rfl) (by kernel_rfl) ?_

  first | (simp only[List.drop_succ_cons,List.drop_zero]; done) | (change wpList _ _ _ (_ :: []) _ _)
  go_wp2_with fail;refine NoPanic.normal ?_;go_wp2_with fail;go_ret;exact⟨rfl,HK.out.bel⟩
namespace dataKnown
theorem lifted (os:Os) (started:os.Started) (H:Type) (enc:TypeId × Value→H):
    ReturnsInHanded {} Tryd.checked os 3 .any (fun w args=>(Rows.dataKnownSpec.pre enc Tryd.prog Tryd.f3 [] false w args∧laidMetH Tryd.prog laid3 w)∧sizedMet enc Tryd.prog Tryd.f3 (OpenSpec.ofChange Rows.dataKnownSpec) false w args) (Rows.dataKnownSpec.post enc Tryd.prog Tryd.f3 false true false false):=by
  refine returnsInHanded_of_change_and (C:=Tryd.checked) (X:=fun w _=>laidMetH Tryd.prog laid3 w) (fun _ _ _ hh h=>h.of_heap hh) own started (by kernel_rfl) Tryd.func3
    (ChangeSpec.witness_shaped (enc:=enc) (C:=Tryd.checked) (os:=os) (X:=fun w _=>laidMetH Tryd.prog laid3 w) false (World.doorLaid Tryd.prog 400 os) #[] 8 rfl (World.shaped_of_RefB (by kernel_rfl) (by kernel_rfl)) (by kernel_rfl) (by kernel_rfl) (by kernel_rfl) (door_met os _)) ?_
  intro W base args ds gs before hval0 hW hcnd hsz0 hL _
  have hsz:(DataW.weightsEach Tryd.prog (Tryd.f3.params.toList++Rows.dataKnownSpec.plain.varTypes Tryd.prog) (ds++gs)).all (· ≤ reachBytes)=true:=hsz0
  have hval:∀ (j:Nat) t v,Tryd.f3.params[j]?=some t→args[j]?=some v→Value.okWide Tryd.prog W .any base t v:=hval0;have hW':=hW;obtain⟨p,q,hA0,hV,rfl,hfz,hnd⟩:=hW;have hA:DataW.TrodAll enc Tryd.prog W 0 (fun _=>true) true Tryd.f3.params.toList args.toList ds p:=hA0;rw[Tryd.params3] at hA hval hsz;obtain⟨hargs,rfl,rfl⟩:=trodAll_nil hA
  obtain rfl:args=#[]:=by cases args; simp_all
  obtain⟨rfl,rfl⟩:=trodVars_none hV;refine(walk_dataKnown (w:=W) (tab_of_laid hL) ).mono fun e W' ⟨he,bel⟩=>?_;subst he;exact⟨_,rfl,law_post laidOut (by kernel_rfl) rfl rfl Tryd.underlying4 hW' rfl rfl rfl bel⟩
theorem over:Rows.dataKnownRow.holds Tryd.pinned (OpenSpec.ofChange Rows.dataKnownSpec):=
  OpenClaim.holds_of_wide 3 Tryd.f3 rfl rfl rfl rfl rfl rfl rfl ⟨rfl,rfl,rfl,rfl,rfl⟩ rfl rfl rfl rfl rfl (by kernel_rfl) Tryd.func3 (by kernel_rfl)
    (of_decide_eq_true (by kernel_rfl)) (by unfold Func.isWrapper; first | (rw[if_pos (by decide +kernel)]; kernel_rfl) | (rw[if_neg (by decide +kernel)]; exact⟨rfl,rfl⟩))
    (fun os started H enc _=>lifted os started H enc)
theorem card:Rows.DataKnownCardSaid:=
  Claim7.holds_tied_plain_at .later [] [.data,.data,.data] true Rows.dataKnownCard.stood.harness false
    over (fun _ h=>by cases h) (by kernel_rfl) (fun _ h=>by cases h) dataKnown_row_tie rfl ⟨rfl,rfl⟩ (by kernel_rfl) rfl
    (fun f fn hf hfn=>by
      obtain rfl:f=3:=Option.some.inj ((show Tryd.prog.funcNamed "usufruct/usufructlaw13.DataKnown"=some 3 by kernel_rfl).symm.trans hf) |>.symm
      obtain rfl:fn=Tryd.f3:=(Option.some.inj (Tryd.func3.symm.trans hfn)).symm
      exact⟨by kernel_rfl,fun j t ht=>by rw[Tryd.params3] at ht; simp at ht⟩)
    (by kernel_rfl)
theorem proved:Rows.DataKnownCardSaid:=card
#print axioms proved
end dataKnown
end Go.Proofs.YtgpeijkjmkocgaaDoor
