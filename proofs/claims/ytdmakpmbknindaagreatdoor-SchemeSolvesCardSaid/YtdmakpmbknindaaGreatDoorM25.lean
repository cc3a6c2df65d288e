import Derived.Test.YtdmakpmbknindaaGreatDoorM21
set_option linter.unusedVariables false
set_option linter.unusedSimpArgs false
set_option maxHeartbeats 4000000
set_option maxRecDepth 100000
namespace Go.Proofs.YtdmakpmbknindaaGreatDoor
open Go.RowKit
theorem idxN_at {l:List Int} {n:Int} {i:Nat} (h:i<l.length) (hb:∀ j (h:j<l.length),j<i→(n==l[j])=false) (hp:(n==l[i])=true):idxN l n=i:=by
 have:l.findIdx? (· == n)=some i:=List.findIdx?_eq_some_iff_getElem.2 ⟨h,by simp only[beq_iff_eq] at hp ⊢; exact hp.symm,fun j hj=>by
  have:=hb j (by omega) hj;simp only[beq_iff_eq,beq_eq_false_iff_ne,ne_eq,Bool.not_eq_true] at this ⊢
  exact fun e=>this e.symm⟩
 unfold idxN;rw[this]
theorem idxN_none {l:List Int} {n:Int} (hb:∀ j (h:j<l.length),(n==l[j])=false):idxN l n = -1:=by
 have:l.findIdx? (· == n)=none:=List.findIdx?_eq_none_iff.2 fun x hx=>by
  obtain⟨j,hj,rfl⟩:=List.getElem_of_mem hx;have:=hb j hj;simp only[beq_eq_false_iff_ne,ne_eq] at this ⊢;exact fun e=>this e.symm
 unfold idxN;rw[this]
theorem idxN_contains (l:List Int) (n:Int):decide (idxN l n≥0)=l.contains n:=by
 by_cases h:n∈l
 · obtain⟨i,hi,e,_⟩:=idxN_mem h
   rw[e,List.contains_iff_mem.2 h];simp
 · have e:idxN l n = -1:=idxN_none fun j hj=>by
    simp only[beq_eq_false_iff_ne,ne_eq];rintro rfl;exact h (List.getElem_mem hj)
   have e2:l.contains n=false:=by rw[Bool.eq_false_iff]; exact fun h2=>h (List.contains_iff_mem.1 h2)
   rw[e,e2];decide
theorem indexI_any (A:Option Addr) (n c:Nat) (us:List Int) (x:Int) (w:World) (B:Nat) (h:RdI .i64 w B A n c us):
 Calls Tryz.prog 106 #[.slice A n c,.int .i64 x] w fun e w'=>e=.returned (.int .i64 (idxN us x))∧w'=w:=by
 have hlen:=h.len;have m63:n≤9223372036854775807:=Nat.le_trans h.2.1 h.2.2;have H:=qq h;clear h
 go_enter Tryz.func106,Tryz.ntmps106
 go_wp2_with fail
 go_loopg [8] n (fun gh i wr=>∃ k:Nat,k≤n∧gh=n - k∧i=.int .i64 k∧wr=w∧∀ j (h:j<us.length),j<k→(x==us[j])=false)
 case atStart=>exact⟨0,Nat.zero_le _,rfl,rfl,rfl,fun j _ hj=>absurd hj (by omega)⟩
 case round=>
  obtain⟨k,hk,rfl,rfl,rfl,hb⟩:=hrel
  by_cases hkm:k<n
  · have d0:decide (k<n)=true:=by simpa using hkm
    have hk':k<us.length:=by omega
    obtain⟨b,off,rfl,_,hc⟩:=H.out.at_ (by omega);have e0:=hc k hk';have Hb:=qq hb
    have k1:(0:Int)≤(k:Int):=by omega
    have k2:(k:Int)<n:=by omega
    clear hc hb;obtain⟨y,hy⟩:∃ y,us[k]=y:=⟨_,rfl⟩;rw[hy] at e0
    by_cases hxy:x=y
    · have d1:(x==y)=true:=by simpa using hxy
      have HR:Hid ((k:Int)=idxN us x):=qq (idxN_at hk' Hb.out (by rw[hy]; exact d1)).symm
      clear hxy hy;go_wp2_with fail;go_ret;exact⟨ret_int HR.out,rfl⟩
    · have d1:(x==y)=false:=by simpa using hxy
      have Hn:Hid (∀ j (h:j<us.length),j<k+1→(x==us[j])=false):=qq fun j hj hjk=>by
       rcases Nat.lt_or_ge j k with h | h
       · exact Hb.out j hj h
       · obtain rfl:j=k:=by omega
         rw[hy]; exact d1
      clear hxy hy;go_wp2_with fail;go_roundg (n - (k+1))
      case measure=>omega
      case rel=>exact⟨k+1,by omega,rfl,by go_num,rfl,Hn.out⟩
  · have d0:decide (k<n)=false:=by simpa using hkm
    have HR:Hid ((-1:Int)=idxN us x):=qq (idxN_none fun j hj=>hb j hj (by omega)).symm;clear hb;go_wp2_with fail;go_ret;exact⟨ret_int HR.out,rfl⟩
theorem containsI_any (A:Option Addr) (n c:Nat) (us:List Int) (x:Int) (w:World) (B:Nat) (h:RdI .i64 w B A n c us) (r:Bool) (hr:us.contains x=r):
 Calls Tryz.prog 75 #[.slice A n c,.int .i64 x] w fun e w'=>e=.returned (.bool r)∧w'=w:=by
 have hq:=indexI_any A n c us x w B h;have hd:=idxN_contains us x;rw[hr] at hd;obtain⟨i,hi⟩:∃ i,idxN us x=i:=⟨_,rfl⟩;rw[hi] at hq hd;have Hq:=qq hq;clear hq hr hi h
 go_enter Tryz.func75,Tryz.ntmps75
 go_wp2_with fail
 refine Hq.out.mono ?_; rintro e w1 ⟨rfl,rfl⟩
 have Hd:Hid (decide (i≥0)=r):=qq hd;clear hd;go_wp2_with fail;go_ret;exact⟨ret_bool Hd.out,rfl⟩
end Go.Proofs.YtdmakpmbknindaaGreatDoor
namespace Go.Proofs.YtdmakpmbknindaaGreatDoor
open Go.RowKit
attribute [local go_sem ↓] Go.wp_at_zero Go.wp_at_succ
def ListAt (w:World) (B q:Nat) (l:List Int) (A:Option Addr) (c:Nat):Prop:=
 Blk w q 30 #[.slice A l.length c]∧w.ownsRow B 3 1 (.slice A l.length c) l.length (l.map (Value.int .i64))
def Noted (B q:Nat) (A:Option Addr) (l:List Int) (w w':World):Prop:=
 ∃ A' c',ListAt w' B q l A' c'∧(∀ a,A'=some a→(∃ a',A=some a'∧a'.block=a.block)∨w.heap.size≤a.block)∧w'.os=w.os∧w'.tape=w.tape∧w'.output=w.output∧w.heap.size≤w'.heap.size ∧
  ∀ k,k<w.heap.size→k≠q→(∀ a,A=some a→k≠a.block)→w'.heap[k]?=w.heap[k]?
theorem infoI:(Tryz.prog.info? 3).map (fun i=>(i.zero,i.size,i.bytes))=some (some (.int .i64 0),1,8):=by kernel_rfl
theorem note_any (B p q:Nat) (l:List Int) (A:Option Addr) (c:Nat) (x:Int) (w:World) (hp:Blk w p 115 #[.pointer (some ⟨q,0,none⟩)]) (hl:ListAt w B q l A c) (hqB:q<B) (hpB:p<B) (hpq:p≠q) (hB:B≤w.heap.size) (hbig:l.length≤1099511627776):
 Calls Tryz.prog 74 (#[.int .i64 x]++#[.pointer (some ⟨p,0,none⟩)]) w fun e w'=>e=.returned (.tuple #[])∧Noted B q A (addN l x) w w':=by
 obtain⟨hq,ho⟩:=hl;obtain⟨i0,hi0,hz0,hz1,hz2⟩:=info_parts infoI;have x0:w.cell? ⟨p,0,none⟩=some (.pointer (some ⟨q,0,none⟩)):=hp.cell 0;have x1:w.cell? ⟨q,0,none⟩=some (.slice A l.length c):=hq.cell 0;have hrd:=RdI.of_own ho;obtain⟨r,hr⟩:∃ r,l.contains x=r:=⟨_,rfl⟩;have Hc:=qq (containsI_any A l.length c l x w _ hrd r hr)
 have hn1:(Value.slice A l.length c).ownBlock≠some q:=fun e=>by have:=(ho.lt _ e).1; omega
 have hn2:(Value.slice A l.length c).ownBlock≠some p:=fun e=>by have:=(ho.lt _ e).1; omega
 have Hn1:=qq hn1;have Hn2:=qq hn2;have Hq:=qq hq;have Hp:=qq hp;have Ho:=qq ho;clear hq hp hn1 hn2 hrd ho
 cases r with
 | true=>
   have he:addN l x=l:=by unfold addN; rw[hr]; rfl
   have HE:=qq he;clear hr he
   go_enter Tryz.func74,Tryz.ntmps74
   go_wp2_with fail
   refine Hc.out.mono ?_; rintro e w1 ⟨rfl,rfl⟩
   go_wp2_with fail
   go_end0
   refine⟨rfl,A,c,?_,fun a h=>.inl ⟨a,h,rfl⟩,rfl,rfl,rfl,Nat.le_refl _,fun _ _ _ _=>rfl⟩;rw[HE.out];exact⟨Hq.out,Ho.out⟩
 | false=>
   have he:addN l x=l++[x]:=by unfold addN; rw[hr]; rfl
   have HE:=qq he;clear hr he
   go_enter Tryz.func74,Tryz.ntmps74
   go_wp2_with fail
   refine Hc.out.mono ?_; rintro e w1 ⟨rfl,rfl⟩
   go_wp2_with fail
   have hqs:q<w1.heap.size:=by omega
   have hps:p<w1.heap.size:=by omega
   refine wp_region_noPanic ?_;refine wp_region_T (fun w'=>w'.cell? ⟨p,0,none⟩=some (.pointer (some ⟨q,0,none⟩))∧w'.cell? ⟨q,0,none⟩=some (.slice A l.length c)) 7 (by kernel_rfl) ⟨x0,x1⟩ (fun hHeld=>?_);refine nx0 0 ?_
   iterate 5 (refine nx (v:=?_) rfl (by kernel_rfl) (fun _ _ _ h=>h) (by rfl) ?_ (by assumption) ?_; rotate_left; focus (intro w hSw; (try dsimp only at hSw); first | (go_simp; done) | (go_simp; with_reducible rfl)); try simp only[Act.put,qg,qe,qf,qd,qh,qi,Nat.reduceAdd])
   refine nx9 ?_;refine wpAnyT_step (i:=5) (by kernel_rfl) rfl (fun K hK=>?_);go_simp;refine hK.out _ _ ⟨(World.cell?_alloc_lt _ _ ⟨p,0,none⟩ hps).trans x0,(World.cell?_alloc_lt _ _ ⟨q,0,none⟩ hqs).trans x1⟩ ?_;clear hK K
   try simp only[Act.put,qg,qe,qf,qd,qh,qi]
   refine wpAnyT_step (i:=6) (by kernel_rfl) rfl (fun K hK=>?_)
   (refine step_append_rd _ (by rfl) (.tmp 12) (.tmp 14) 30 (by rfl) B 3 i0 _ 1 8 Tryz.underlying30 hi0 hz0 hz1 hz2 rfl (by omega) (.slice A l.length c) l.length (l.map (Value.int .i64)) (by rfl) (Ho.out.alloc _) _ (some ⟨w1.heap.size,0,none⟩) 1 1 [.int .i64 x] (by rfl) (Rd.new _ [.int .i64 x] _) (by intro u hu; simp at hu; subst hu; rfl) (by unfold maxLen; omega) (by omega) (by simp; omega) ?_; intro v4 w4 ho4 hg4 hat4; obtain⟨A4,c4,rfl⟩:=ownsRow_form ho4; have hq4:=Blk.grown (Blk.alloc (w:=w1.drew) Hq.out _) hg4 (Ne.symm Hn1.out); have hp4:=Blk.grown (Blk.alloc (w:=w1.drew) Hp.out _) hg4 (Ne.symm Hn2.out))
   refine hK.out _ _ ⟨hp4.cell 0,hq4.cell 0⟩ ?_;clear hK K
   try simp only[Act.put,qg,qe,qf,qd,qh,qi]
   have f2:w4.frozen? ⟨q,0,none⟩=false:=hq4.frozen 0;have y1:w4.cell? ⟨q,0,none⟩=some (.slice A l.length c):=hq4.cell 0;refine wpAnyT_seq 7 (by omega) (by rfl) (by kernel_rfl) ?_;simp only[List.drop_succ_cons,List.drop_zero];go_wp2_with fail;refine NoPanic.normal ?_;go_wp2_with fail
   have hlen:(l++[x]).length=l.length+1:=by simp
   have hmap:(l++[x]).map (Value.int .i64)=l.map (Value.int .i64)++[.int .i64 x]:=by simp
   go_end0
   refine⟨rfl,A4,c4,?_,fun a ha=>?_,hg4.os,hg4.tape,hg4.output,?_,fun k hk hkq hka=>?_⟩
   · rw[HE.out]
     refine⟨?_,?_⟩
     · rw[hlen]; exact hq4.set_ 0 _
     · rw[hlen,hmap]
       exact ownsRow_setCell_below ho4 (by show q<B; exact hqB) _
   · subst ha
     rcases hat4 with e | e
     · refine .inl ?_
       cases A with
       | none=>simp[Value.ownBlock] at e
       | some a'=>exact⟨a',rfl,by simpa[Value.ownBlock] using e.symm⟩
     · refine .inr ?_
       have e2:a.block=w1.heap.size+1:=by simpa[Value.ownBlock] using e
       omega
   · rw[World.size_setCell]
     have:=hg4.size;simp at this;omega
   · have h1:=hg4.block k (by simp; omega) (by
      intro e
      cases A with
      | none=>simp[Value.ownBlock] at e
      | some a'=>exact hka a' rfl (by simpa[Value.ownBlock] using e))
     rw[Below.heap_setCell _ _ _ _ (by simpa using hkq),h1];exact Below.heap_alloc _ _ _ (by simpa using hk)
end Go.Proofs.YtdmakpmbknindaaGreatDoor
namespace Go.Proofs.YtdmakpmbknindaaGreatDoor
open Go.RowKit
def Vs (s:Nat) (l1 l2:List Int) (w:World):Prop:=
 ∃ A1 c1 A2 c2,Blk w (s+1+1+1) 115 #[.pointer (some ⟨s+1,0,none⟩)]∧Blk w (s+1+1+1+1) 115 #[.pointer (some ⟨s+1+1,0,none⟩)] ∧
  ListAt w (s+1+1+1+1+1) (s+1) l1 A1 c1∧ListAt w (s+1+1+1+1+1) (s+1+1) l2 A2 c2∧(∀ a b:Addr,A1=some a→A2=some b→a.block≠b.block)∧s+1+1+1+1+1≤w.heap.size
def VOut (s:Nat) (w w':World):Prop:=
 Below s w w'∧∀ k o,w.heap[k]?=some o→k≠s+1→k≠s+1+1→(∀ cs fz,o ≠ .cells cs 3 fz)→w'.heap[k]?=some o
section
variable {s:Nat} {l1 l2:List Int} {w w' w'':World}
theorem VOut.refl (s:Nat) (w:World):VOut s w w:=⟨Below.refl _ _,fun _ _ h _ _ _=>h⟩
theorem VOut.trans (h:VOut s w w') (h2:VOut s w' w''):VOut s w w'':=
 ⟨h.1.trans h2.1,fun k o hk h1 h3 h4=>h2.2 k o (h.2 k o hk h1 h3 h4) h1 h3 h4⟩
theorem VOut.of_below (hs:s≤w.heap.size) (h:Below w.heap.size w w'):VOut s w w':=
 ⟨h.mono hs,fun k o hk _ _ _=>(h.block k (Array.getElem?_eq_some_iff.1 hk).1).trans hk⟩
theorem Blk.vout {g:Nat} {t:TypeId} {cs:Array Value} (h:Blk w g t cs) (ho:VOut s w w') (h1:g≠s+1) (h2:g≠s+1+1) (ht:t≠3):Blk w' g t cs:=
 ho.2 g _ h h1 h2 (fun c fz e=>by injection e with _ e2 _; exact ht e2)
theorem ListAt.below {B q c:Nat} {l:List Int} {A:Option Addr} (h:ListAt w B q l A c) (hb:Below w.heap.size w w'):ListAt w' B q l A c:=
 ⟨h.1.below hb h.1.lt,ownsRow_beyond h.2 hb⟩
theorem Vs.below (h:Vs s l1 l2 w) (hb:Below w.heap.size w w'):Vs s l1 l2 w':=by
 obtain⟨A1,c1,A2,c2,h1,h2,h3,h4,h5,h6⟩:=h;exact⟨A1,c1,A2,c2,h1.below hb h1.lt,h2.below hb h2.lt,h3.below hb,h4.below hb,h5,Nat.le_trans h6 hb.size⟩
theorem Vs.size (h:Vs s l1 l2 w):s+1+1+1+1+1≤w.heap.size:=by
 obtain⟨A1,c1,A2,c2,h1,h2,h3,h4,h5,h6⟩:=h;exact h6
theorem ListAt.ne_kind {B q c:Nat} {l:List Int} {A:Option Addr} (h:ListAt w B q l A c) {k:Nat} {o:Obj} (hk:w.heap[k]?=some o) (ho:∀ cs fz,o ≠ .cells cs 3 fz) (a:Addr) (ha:A=some a):k≠a.block:=by
 intro e;subst ha;obtain⟨cs,fz,h2⟩:=owns_kind h.2 a.block rfl;rw[← e,hk] at h2
 injection h2 with h2
 exact ho cs fz h2
theorem ListAt.lo {B q c:Nat} {l:List Int} {A:Option Addr} (h:ListAt w B q l A c) (a:Addr) (ha:A=some a):B≤a.block∧a.block<w.heap.size:=by
 subst ha;exact h.2.lt a.block rfl
theorem ListAt.noted {B q q' c c':Nat} {l l' l0:List Int} {A A':Option Addr} (h:ListAt w B q l A c) (h0:ListAt w B q' l0 A' c') (hn:Noted B q' A' l' w w') (hd:∀ a b:Addr,A=some a→A'=some b→a.block≠b.block) (hne:q≠q') (hq:q<B) (hq':q'<B) (hB:B≤w.heap.size):ListAt w' B q l A c:=by
 obtain⟨A2,c2,_,_,h1,h2,h3,h4,h5⟩:=hn
 have hqb:∀ a,A'=some a→q≠a.block:=fun a ha=>by have:=(h0.lo a ha).1; omega
 refine⟨(h5 q (by omega) hne hqb).trans h.1,?_⟩
 rcases h.2.2 with ⟨e0,hn0⟩ | ⟨g,cap,cur,e0,hb,hg,hn0,hm,hs,ht⟩
 · exact⟨h.2.1,.inl ⟨e0,hn0⟩⟩
 · refine⟨h.2.1,.inr ⟨g,cap,cur,e0,hb,?_,hn0,hm,hs,ht⟩⟩
   have hA:A=some ⟨g,0,none⟩:=by injection e0
   exact(h5 g (Array.getElem?_eq_some_iff.1 hg).1 (by omega) (fun a ha=>hd _ _ hA ha)).trans hg
end
theorem vs_note1 {s:Nat} {l1 l2:List Int} {w:World} (x:Int) (h:Vs s l1 l2 w) (hbig:l1.length≤1099511627776):
 Calls Tryz.prog 74 #[.int .i64 x,.pointer (some ⟨s+1+1+1,0,none⟩)] w fun e w'=>e=.returned (.tuple #[])∧Vs s (addN l1 x) l2 w'∧VOut s w w':=by
 obtain⟨A1,c1,A2,c2,h1,h2,h3,h4,h5,h6⟩:=h;refine(note_any _ _ (s+1) l1 A1 c1 x w h1 h3 (by omega) (by omega) (by omega) h6 hbig).mono ?_;rintro e w' ⟨rfl,hn⟩;have hn':=hn;obtain⟨A',c',hl,ha,ho,ht,hp,hs,hb⟩:=hn;have hlo:∀ a,A1=some a→s+1+1+1+1+1≤a.block:=fun a ha=>(h3.lo a ha).1
 refine⟨rfl,⟨A',c',A2,c2,(hb _ h1.lt (by omega) (fun a ha=>by have:=hlo a ha; omega)).trans h1,(hb _ h2.lt (by omega) (fun a ha=>by have:=hlo a ha; omega)).trans h2,hl,h4.noted h3 hn' (fun a b ha hb2=>(h5 b a hb2 ha).symm) (by omega) (by omega) (by omega) h6,fun a b ha' hb'=>?_,by omega⟩,⟨ho,ht,hp,hs,fun k hk=>hb k (by omega) (by omega) (fun a ha=>by have:=hlo a ha; omega)⟩,fun k o hk hk1 hk2 hkk=>(hb k (Array.getElem?_eq_some_iff.1 hk).1 hk1 (fun a ha=>h3.ne_kind hk hkk a ha)).trans hk⟩
 rcases ha a ha' with ⟨a',e1,e2⟩ | e
 · rw[← e2]; exact h5 a' b e1 hb'
 · have:=(h4.lo b hb').2; omega
theorem vs_note2 {s:Nat} {l1 l2:List Int} {w:World} (x:Int) (h:Vs s l1 l2 w) (hbig:l2.length≤1099511627776):
 Calls Tryz.prog 74 #[.int .i64 x,.pointer (some ⟨s+1+1+1+1,0,none⟩)] w fun e w'=>e=.returned (.tuple #[])∧Vs s l1 (addN l2 x) w'∧VOut s w w':=by
 obtain⟨A1,c1,A2,c2,h1,h2,h3,h4,h5,h6⟩:=h;refine(note_any _ _ (s+1+1) l2 A2 c2 x w h2 h4 (by omega) (by omega) (by omega) h6 hbig).mono ?_;rintro e w' ⟨rfl,hn⟩;have hn':=hn;obtain⟨A',c',hl,ha,ho,ht,hp,hs,hb⟩:=hn;have hlo:∀ a,A2=some a→s+1+1+1+1+1≤a.block:=fun a ha=>(h4.lo a ha).1
 refine⟨rfl,⟨A1,c1,A',c',(hb _ h1.lt (by omega) (fun a ha=>by have:=hlo a ha; omega)).trans h1,(hb _ h2.lt (by omega) (fun a ha=>by have:=hlo a ha; omega)).trans h2,h3.noted h4 hn' h5 (by omega) (by omega) (by omega) h6,hl,fun a b ha' hb'=>?_,by omega⟩,⟨ho,ht,hp,hs,fun k hk=>hb k (by omega) (by omega) (fun a ha=>by have:=hlo a ha; omega)⟩,fun k o hk hk1 hk2 hkk=>(hb k (Array.getElem?_eq_some_iff.1 hk).1 hk2 (fun a ha=>h4.ne_kind hk hkk a ha)).trans hk⟩
 rcases ha b hb' with ⟨a',e1,e2⟩ | e
 · rw[← e2]; exact h5 a a' ha' e1
 · have:=(h3.lo a ha').2; omega
theorem addN_ge (l:List Int) (n:Int):l.length≤(addN l n).length:=by unfold addN; split <;> simp
theorem addAll_ge (xs:List Int):∀ l:List Int,l.length≤(addAll l xs).length:=by
 induction xs with
 | nil=>intro l; exact Nat.le_refl _
 | cons a xs ih=>intro l; exact Nat.le_trans (addN_ge l a) (ih (addN l a))
theorem addAll_pre (l a b:List Int):(addAll l a).length≤(addAll l (a++b)).length:=by rw[addAll_append]; exact addAll_ge _ _
theorem addAll_take (l:List Int) (f:TyD→List Int) (L:List TyD) (k:Nat):(addAll l ((L.take k).flatMap f)).length≤(addAll l (L.flatMap f)).length:=by
 have e:L.flatMap f=(L.take k).flatMap f++(L.drop k).flatMap f:=by rw[← List.flatMap_append,List.take_append_drop]
 rw[e];exact addAll_pre _ _ _
theorem allM_app (f:Bool) (v:Int):∀ (i:Nat) (a b:List TyD),allM.go f v i (a++b)=allM.go f v i a++allM.go f v (i+a.length) b
 | i,[],b=>by rw[allM.go]; simp
 | i,x :: a,b=>by
   rw[List.cons_append,allM.go,allM_app f v (i+1) a b,allM.go,List.length_cons,show i+1+a.length=i+(a.length+1) from by omega]
   simp only[List.append_assoc]
theorem addAll_go (l:List Int) (f:Bool) (v:Int) (L:List TyD) (k:Nat):(addAll l (allM.go f v 0 (L.take k))).length≤(addAll l (allM.go f v 0 L)).length:=by
 have e:allM.go f v 0 L=allM.go f v 0 (L.take k)++allM.go f v (0+(L.take k).length) (L.drop k):=by rw[← allM_app,List.take_append_drop]
 rw[e];exact addAll_pre _ _ _
def WalkAt (s:Nat) (w0:World) (t:TyD):Prop:=∀ (A:Option Addr) (m cp:Nat),TysV w0 s A m cp t.l→∀ (w:World) (l1 l2:List Int),Below s w0 w→Vs s l1 l2 w→(addAll l1 (allV t)).length≤1099511627776→(addAll l2 (allM t)).length≤1099511627776 →
 Calls Tryz.prog 76 #[.agg #[.int .u8 t.k,.int .i64 t.n,.int .i64 t.v,.int .u8 t.c,.slice A m cp],.func (.func 74) #[] #[.pointer (some ⟨s+1+1+1,0,none⟩)],.func (.func 74) #[] #[.pointer (some ⟨s+1+1+1+1,0,none⟩)]] w
  fun e w'=>e=.returned (.tuple #[])∧Vs s (addAll l1 (allV t)) (addAll l2 (allM t)) w'∧VOut s w w'
theorem nodesL_take (l:List TyD) (k:Nat):nodes.nodesL (l.take k)≤nodes.nodesL l:=by
 induction l generalizing k with
 | nil=>simp
 | cons x l ih=>
   cases k with
   | zero=>simp[nodes.nodesL]
   | succ k=>rw[List.take_succ_cons,nodes.nodesL,nodes.nodesL]; have:=ih k; omega
theorem nodesL_split (l:List TyD) (k:Nat) (h:k<l.length):nodes.nodesL (l.take k)+nodes l[k]≤nodes.nodesL l:=by
 have:=nodesL_take l (k+1);rw[List.take_succ_eq_append_getElem h,nodesL_snoc] at this;exact this
theorem walk_var (s:Nat) (w0:World) (n v c:Int) (L:List TyD) (ih:∀ x∈L,WalkAt s w0 x):WalkAt s w0 (.mk 1 n v c L):=by
 intro A m cp hl w l1 l2 hbel hv hb1 hb2;have HN1:=qq hb1;have HN2:=qq hb2;clear hb1 hb2;replace hl:TysV w0 s A m cp L:=hl;show Calls Tryz.prog 76 #[.agg #[.int .u8 (1),.int .i64 n,.int .i64 v,.int .u8 c,.slice A m cp],.func (.func 74) #[] #[.pointer (some ⟨s+1+1+1,0,none⟩)],.func (.func 74) #[] #[.pointer (some ⟨s+1+1+1+1,0,none⟩)]] w _;obtain⟨W,hW⟩:∃ W,w.alloc (Obj.cells #[.int .u8 (1),.int .i64 n,.int .i64 v,.int .u8 c,.slice A m cp] 27)=W:=⟨_,rfl⟩;have hbx:=below_box (w:=w) (Obj.cells #[.int .u8 (1),.int .i64 n,.int .i64 v,.int .u8 c,.slice A m cp] 27);have hz:=blk_new w #[.int .u8 (1),.int .i64 n,.int .i64 v,.int .u8 c,.slice A m cp] 27;rw[hW] at hbx hz;have hgs:s+1+1+1+1+1≤w.heap.size:=hv.size
 have hsw:s≤w.heap.size:=by omega
 have hvo:=VOut.of_below hsw hbx;have hvW:=hv.below hbx;have hlen:=hl.len;have m63:m≤9223372036854775807:=Nat.le_trans hl.2.1 hl.2.2.1;have HW:=qq hW;have Hz:=qq hz;have HL:=qq hl;have Hvo:=qq hvo;have Hb0:=qq (hbel.trans hvo.1);have Hih:=qq ih;clear hbx hW hz hl hvo hbel hv ih;obtain⟨l1',hl1⟩:∃ l,addN l1 n=l:=⟨_,rfl⟩;have hln:=addN_len l1 n
 have HE1:Hid (addAll l1 (allV (.mk 1 n v c L))=addAll l1' (L.flatMap allV)):=qq (by rw[allV_eq,← hl1]; rfl)
 have HE2:Hid (addAll l2 (allM (.mk 1 n v c L))=addAll l2 (L.flatMap allM)):=qq (by rw[allM_not (show(TyD.mk 1 n v c L).k≠7 from by show(1:Int)≠7; decide)]; rfl)
 have hq:=vs_note1 n hvW (Nat.le_trans (addAll_ge _ _) HN1.out);rw[hl1] at hq hln;have Hq:=qq hq;have z0:=Hz.out.cell 0;have z1:=Hz.out.cell 1;clear hq hvW hl1
 go_enter Tryz.func76,Tryz.ntmps76
 go_wp2_with fail;rw[HW.out];refine Hq.out.mono ?_;rintro e w1 ⟨rfl,hvs0,hvx⟩;have hz1:=Hz.out.vout hvx (by omega) (by omega) (by decide);have z4:=hz1.cell 4;clear hz1 z0 z1 Hq;go_wp2_with fail;clear z4;have Hvx:=qq hvx;clear hvx
 go_loopg [49] m (fun g i wr=>∃ k:Nat,k≤m∧g=m - k∧i=.int .i64 k∧Vs s (addAll l1' ((L.take k).flatMap allV)) (addAll l2 ((L.take k).flatMap allM)) wr∧VOut s w1 wr)
 case atStart=>exact⟨0,Nat.zero_le _,rfl,rfl,by simpa[addAll] using hvs0,VOut.refl _ _⟩
 case round=>
  obtain⟨k,hk,rfl,rfl,hvr0,hvr⟩:=hrel
  by_cases hkm:k<m
  · have d0:decide (k<m)=true:=by simpa using hkm
    have hk':k<L.length:=by omega
    have hbw:Below s w0 wr:=Hb0.out.trans (Hvx.out.1.trans hvr.1);obtain⟨b,off,rfl,hb,hc⟩:=HL.out.at_ (by omega);obtain⟨f0,f1,f2,f3,Ax,mx,cx,f4,hx⟩:=tyAt_iff.1 (hc k hk');have hcW:∀ j,wr.cell? ⟨b,j,none⟩=w0.cell? ⟨b,j,none⟩:=fun j=>hbw.cell (p:=⟨b,j,none⟩) hb;have e0:=(hcW _).trans f0;have e1:=(hcW _).trans f1;have e2:=(hcW _).trans f2;have e3:=(hcW _).trans f3;have e4:=(hcW _).trans f4;have hspl:=nodesL_split L k hk';have hih:=Hih.out L[k] (List.getElem_mem hk') Ax mx cx hx;have hvs:=hvr0.size;obtain⟨x,hxk⟩:∃ x,L[k]=x:=⟨_,rfl⟩;rw[hxk] at e0 e1 e2 e3 hih hspl;have hbA:=below_box (w:=wr) (Obj.cells #[.int .u8 x.k,.int .i64 x.n,.int .i64 x.v,.int .u8 x.c,.slice Ax mx cx] 27)
    have hsr:s≤wr.heap.size:=by omega
    have hvA:=VOut.of_below hsr hbA;clear f0 f1 f2 f3 f4 hx hcW hc
    have hq:=hih (wr.alloc (Obj.cells #[.int .u8 x.k,.int .i64 x.n,.int .i64 x.v,.int .u8 x.c,.slice Ax mx cx] 27)) (addAll l1' ((L.take k).flatMap allV)) (addAll l2 ((L.take k).flatMap allM)) (hbw.trans hvA.1) (hvr0.below hbA)
     (by
       have h1:=HN1.out;rw[HE1.out] at h1;refine Nat.le_trans ?_ h1;rw[← addAll_append];refine Nat.le_trans (Nat.le_of_eq ?_) (addAll_take l1' allV L (k+1))
       rw[List.take_succ_eq_append_getElem hk',List.flatMap_append,hxk]; simp)
     (by
       have h1:=HN2.out;rw[HE2.out] at h1;refine Nat.le_trans ?_ h1;rw[← addAll_append];refine Nat.le_trans (Nat.le_of_eq ?_) (addAll_take l2 allM L (k+1))
       rw[List.take_succ_eq_append_getElem hk',List.flatMap_append,hxk]; simp)
    rw[← addAll_append,← addAll_append] at hq
    have e5:(L.take k).flatMap allV++allV x=(L.take (k+1)).flatMap allV:=by rw[List.take_succ_eq_append_getElem hk',List.flatMap_append,hxk]; simp
    have e6:(L.take k).flatMap allM++allM x=(L.take (k+1)).flatMap allM:=by rw[List.take_succ_eq_append_getElem hk',List.flatMap_append,hxk]; simp
    rw[e5,e6] at hq;have Hq:=qq hq;have Hvr:=qq (hvr.trans hvA)
    have k1:(0:Int)≤(k:Int):=by omega
    have k2:(k:Int)<m:=by omega
    clear hq hvr hvA hbA hih hbw hvr0 hxk e5 e6;go_wp2_with fail;refine Hq.out.mono ?_;rintro e w9 ⟨rfl,h9,h10⟩;go_wp2_with fail;go_roundg (m - (k+1))
    case measure=>omega
    case rel=>exact⟨k+1,by omega,rfl,by go_num,h9,Hvr.out.trans h10⟩
  · have d0:decide (k<m)=false:=by simpa using hkm
    have hall:L.take k=L:=List.take_of_length_le (by omega);rw[hall] at hvr0;have Hv0:=qq hvr0;have Hvr:=qq hvr;clear hvr hvr0 hall;go_wp2_with fail
    go_end0
    refine⟨rfl,?_,(Hvo.out.trans Hvx.out).trans Hvr.out⟩;rw[HE1.out,HE2.out];exact Hv0.out
theorem walk_else (s:Nat) (w0:World) (kd n v c:Int) (L:List TyD) (h1:kd≠1) (h7:kd≠7) (ih:∀ x∈L,WalkAt s w0 x):WalkAt s w0 (.mk kd n v c L):=by
 intro A m cp hl w l1 l2 hbel hv hb1 hb2;have HN1:=qq hb1;have HN2:=qq hb2;clear hb1 hb2;replace hl:TysV w0 s A m cp L:=hl;show Calls Tryz.prog 76 #[.agg #[.int .u8 (kd),.int .i64 n,.int .i64 v,.int .u8 c,.slice A m cp],.func (.func 74) #[] #[.pointer (some ⟨s+1+1+1,0,none⟩)],.func (.func 74) #[] #[.pointer (some ⟨s+1+1+1+1,0,none⟩)]] w _;obtain⟨W,hW⟩:∃ W,w.alloc (Obj.cells #[.int .u8 (kd),.int .i64 n,.int .i64 v,.int .u8 c,.slice A m cp] 27)=W:=⟨_,rfl⟩;have hbx:=below_box (w:=w) (Obj.cells #[.int .u8 (kd),.int .i64 n,.int .i64 v,.int .u8 c,.slice A m cp] 27);have hz:=blk_new w #[.int .u8 (kd),.int .i64 n,.int .i64 v,.int .u8 c,.slice A m cp] 27;rw[hW] at hbx hz;have hgs:s+1+1+1+1+1≤w.heap.size:=hv.size
 have hsw:s≤w.heap.size:=by omega
 have hvo:=VOut.of_below hsw hbx;have hvW:=hv.below hbx;have hlen:=hl.len;have m63:m≤9223372036854775807:=Nat.le_trans hl.2.1 hl.2.2.1;have HW:=qq hW;have Hz:=qq hz;have HL:=qq hl;have Hvo:=qq hvo;have Hb0:=qq (hbel.trans hvo.1);have Hih:=qq ih;clear hbx hW hz hl hvo hbel hv ih
 have HE1:Hid (addAll l1 (allV (.mk kd n v c L))=addAll l1 (L.flatMap allV)):=qq (by rw[allV_eq,if_neg (by exact h1)]; rfl)
 have HE2:Hid (addAll l2 (allM (.mk kd n v c L))=addAll l2 (L.flatMap allM)):=qq (by rw[allM_not (by exact h7)]; rfl)
 have d1:(kd==1)=false:=by simpa using h1
 have d7:(kd==7)=false:=by simpa using h7
 have hvs0:=hvW;have hvx:=VOut.refl s W;have z0:=Hz.out.cell 0;have z4:=Hz.out.cell 4;clear hvW h1 h7
 go_enter Tryz.func76,Tryz.ntmps76
 go_wp2_with fail;rw[HW.out];clear z0 z4;have Hvx:=qq hvx;clear hvx
 go_loopg [49] m (fun g i wr=>∃ k:Nat,k≤m∧g=m - k∧i=.int .i64 k∧Vs s (addAll l1 ((L.take k).flatMap allV)) (addAll l2 ((L.take k).flatMap allM)) wr∧VOut s W wr)
 case atStart=>exact⟨0,Nat.zero_le _,rfl,rfl,by simpa[addAll] using hvs0,VOut.refl _ _⟩
 case round=>
  obtain⟨k,hk,rfl,rfl,hvr0,hvr⟩:=hrel
  by_cases hkm:k<m
  · have d0:decide (k<m)=true:=by simpa using hkm
    have hk':k<L.length:=by omega
    have hbw:Below s w0 wr:=Hb0.out.trans (Hvx.out.1.trans hvr.1);obtain⟨b,off,rfl,hb,hc⟩:=HL.out.at_ (by omega);obtain⟨f0,f1,f2,f3,Ax,mx,cx,f4,hx⟩:=tyAt_iff.1 (hc k hk');have hcW:∀ j,wr.cell? ⟨b,j,none⟩=w0.cell? ⟨b,j,none⟩:=fun j=>hbw.cell (p:=⟨b,j,none⟩) hb;have e0:=(hcW _).trans f0;have e1:=(hcW _).trans f1;have e2:=(hcW _).trans f2;have e3:=(hcW _).trans f3;have e4:=(hcW _).trans f4;have hspl:=nodesL_split L k hk';have hih:=Hih.out L[k] (List.getElem_mem hk') Ax mx cx hx;have hvs:=hvr0.size;obtain⟨x,hxk⟩:∃ x,L[k]=x:=⟨_,rfl⟩;rw[hxk] at e0 e1 e2 e3 hih hspl;have hbA:=below_box (w:=wr) (Obj.cells #[.int .u8 x.k,.int .i64 x.n,.int .i64 x.v,.int .u8 x.c,.slice Ax mx cx] 27)
    have hsr:s≤wr.heap.size:=by omega
    have hvA:=VOut.of_below hsr hbA;clear f0 f1 f2 f3 f4 hx hcW hc
    have hq:=hih (wr.alloc (Obj.cells #[.int .u8 x.k,.int .i64 x.n,.int .i64 x.v,.int .u8 x.c,.slice Ax mx cx] 27)) (addAll l1 ((L.take k).flatMap allV)) (addAll l2 ((L.take k).flatMap allM)) (hbw.trans hvA.1) (hvr0.below hbA)
     (by
       have h1:=HN1.out;rw[HE1.out] at h1;refine Nat.le_trans ?_ h1;rw[← addAll_append];refine Nat.le_trans (Nat.le_of_eq ?_) (addAll_take l1 allV L (k+1))
       rw[List.take_succ_eq_append_getElem hk',List.flatMap_append,hxk]; simp)
     (by
       have h1:=HN2.out;rw[HE2.out] at h1;refine Nat.le_trans ?_ h1;rw[← addAll_append];refine Nat.le_trans (Nat.le_of_eq ?_) (addAll_take l2 allM L (k+1))
       rw[List.take_succ_eq_append_getElem hk',List.flatMap_append,hxk]; simp)
    rw[← addAll_append,← addAll_append] at hq
    have e5:(L.take k).flatMap allV++allV x=(L.take (k+1)).flatMap allV:=by rw[List.take_succ_eq_append_getElem hk',List.flatMap_append,hxk]; simp
    have e6:(L.take k).flatMap allM++allM x=(L.take (k+1)).flatMap allM:=by rw[List.take_succ_eq_append_getElem hk',List.flatMap_append,hxk]; simp
    rw[e5,e6] at hq;have Hq:=qq hq;have Hvr:=qq (hvr.trans hvA)
    have k1:(0:Int)≤(k:Int):=by omega
    have k2:(k:Int)<m:=by omega
    clear hq hvr hvA hbA hih hbw hvr0 hxk e5 e6;go_wp2_with fail;refine Hq.out.mono ?_;rintro e w9 ⟨rfl,h9,h10⟩;go_wp2_with fail;go_roundg (m - (k+1))
    case measure=>omega
    case rel=>exact⟨k+1,by omega,rfl,by go_num,h9,Hvr.out.trans h10⟩
  · have d0:decide (k<m)=false:=by simpa using hkm
    have hall:L.take k=L:=List.take_of_length_le (by omega);rw[hall] at hvr0;have Hv0:=qq hvr0;have Hvr:=qq hvr;clear hvr hvr0 hall;go_wp2_with fail
    go_end0
    refine⟨rfl,?_,(Hvo.out.trans Hvx.out).trans Hvr.out⟩;rw[HE1.out,HE2.out];exact Hv0.out
theorem walk_fun (s:Nat) (w0:World) (n v c:Int) (L:List TyD) (ih:∀ x∈L,WalkAt s w0 x):WalkAt s w0 (.mk 7 n v c L):=by
 intro A m cp hl w l1 l2 hbel hv hb1 hb2;have HN1:=qq hb1;have HN2:=qq hb2;clear hb1 hb2;replace hl:TysV w0 s A m cp L:=hl;show Calls Tryz.prog 76 #[.agg #[.int .u8 (7),.int .i64 n,.int .i64 v,.int .u8 c,.slice A m cp],.func (.func 74) #[] #[.pointer (some ⟨s+1+1+1,0,none⟩)],.func (.func 74) #[] #[.pointer (some ⟨s+1+1+1+1,0,none⟩)]] w _;obtain⟨W,hW⟩:∃ W,w.alloc (Obj.cells #[.int .u8 (7),.int .i64 n,.int .i64 v,.int .u8 c,.slice A m cp] 27)=W:=⟨_,rfl⟩;have hbx:=below_box (w:=w) (Obj.cells #[.int .u8 (7),.int .i64 n,.int .i64 v,.int .u8 c,.slice A m cp] 27);have hz:=blk_new w #[.int .u8 (7),.int .i64 n,.int .i64 v,.int .u8 c,.slice A m cp] 27;rw[hW] at hbx hz;have hgs:s+1+1+1+1+1≤w.heap.size:=hv.size
 have hsw:s≤w.heap.size:=by omega
 have hvo:=VOut.of_below hsw hbx;have hvW:=hv.below hbx;have hlen:=hl.len;have m63:m≤9223372036854775807:=Nat.le_trans hl.2.1 hl.2.2.1;have HW:=qq hW;have Hz:=qq hz;have HL:=qq hl;have Hvo:=qq hvo;have Hb0:=qq (hbel.trans hvo.1);have Hih:=qq ih;clear hbx hW hz hl hvo hbel hv ih;obtain⟨f,hf⟩:∃ f,decide (c=0)=f:=⟨_,rfl⟩
 have HE1:Hid (addAll l1 (allV (.mk 7 n v c L))=addAll l1 (L.flatMap allV)):=qq (by rw[allV_eq]; rfl)
 have HE2:Hid (addAll l2 (allM (.mk 7 n v c L))=addAll l2 (allM.go f v 0 L)):=qq (by rw[allM_eq,← hf]; rfl)
 have hfc:(c==0)=f:=by rw[← hf]; rfl
 have hvs0:=hvW;have hvx:=VOut.refl s W;have Hvx:=qq hvx;have z0:=Hz.out.cell 0;have z4:=Hz.out.cell 4
 have hzg:w.heap.size≠s+1∧w.heap.size≠s+1+1:=by omega
 clear hvW hvx hf
 go_enter Tryz.func76,Tryz.ntmps76
 go_wp2_with fail;rw[HW.out];clear z0 z4
 go_loopg [23] m (fun g i wr=>∃ k:Nat,k≤m∧g=m - k∧i=.int .i64 k∧Vs s (addAll l1 ((L.take k).flatMap allV)) (addAll l2 (allM.go f v 0 (L.take k))) wr∧VOut s W wr)
 case atStart=>exact⟨0,Nat.zero_le _,rfl,rfl,by rw[List.take_zero,allM.go]; exact hvs0,VOut.refl _ _⟩
 case round=>
  obtain⟨k,hk,rfl,rfl,hvr0,hvr⟩:=hrel
  by_cases hkm:k<m
  · have d0:decide (k<m)=true:=by simpa using hkm
    have hk':k<L.length:=by omega
    have hbw:Below s w0 wr:=Hb0.out.trans (Hvx.out.1.trans hvr.1);obtain⟨b,off,rfl,hb,hc⟩:=HL.out.at_ (by omega);obtain⟨f0,f1,f2,f3,Ax,mx,cx,f4,hx⟩:=tyAt_iff.1 (hc k hk');have hcW:∀ j,wr.cell? ⟨b,j,none⟩=w0.cell? ⟨b,j,none⟩:=fun j=>hbw.cell (p:=⟨b,j,none⟩) hb;have e0:=(hcW _).trans f0;have e1:=(hcW _).trans f1;have e2:=(hcW _).trans f2;have e3:=(hcW _).trans f3;have e4:=(hcW _).trans f4;have hspl:=nodesL_split L k hk';have hih:=Hih.out L[k] (List.getElem_mem hk') Ax mx cx hx;have hvs:=hvr0.size;obtain⟨x,hxk⟩:∃ x,L[k]=x:=⟨_,rfl⟩;rw[hxk] at e0 e1 e2 e3 hih hspl;have hbA:=below_box (w:=wr) (Obj.cells #[.int .u8 x.k,.int .i64 x.n,.int .i64 x.v,.int .u8 x.c,.slice Ax mx cx] 27)
    have hsr:s≤wr.heap.size:=by omega
    have hvA:=VOut.of_below hsr hbA;clear f0 f1 f2 f3 f4 hx hcW hc;have hnb:=blk_new wr #[.int .u8 x.k,.int .i64 x.n,.int .i64 x.v,.int .u8 x.c,.slice Ax mx cx] 27;have hzr:=(Hz.out.vout hvr hzg.1 hzg.2 (by decide)).vout hvA hzg.1 hzg.2 (by decide);have z2:=hzr.cell 2;have z3:=hzr.cell 3
    have htk:(L.take k).length=k:=by rw[List.length_take]; omega
    have HE5:Hid (addAll l1 ((L.take (k+1)).flatMap allV)=addAll (addAll l1 ((L.take k).flatMap allV)) (allV x)):=qq (by
     rw[← addAll_append,List.take_succ_eq_append_getElem hk',List.flatMap_append,hxk]; simp)
    have he6:addAll l2 (allM.go f v 0 (L.take (k+1)))=addAll (addAll l2 (allM.go f v 0 (L.take k))) ((if f&&decide (k=1) then [v] else [])++allM x):=by
     rw[← addAll_append,List.take_succ_eq_append_getElem hk',hxk,allM_snoc,htk,Nat.zero_add]
    have hg1:(addAll (addAll l1 ((L.take k).flatMap allV)) (allV x)).length≤1099511627776:=by
     have h1:=HN1.out;rw[HE1.out] at h1;rw[← HE5.out];exact Nat.le_trans (addAll_take l1 allV L (k+1)) h1
    have hg2:(addAll l2 (allM.go f v 0 (L.take (k+1)))).length≤1099511627776:=by
     have h1:=HN2.out;rw[HE2.out] at h1;exact Nat.le_trans (addAll_go l2 f v L (k+1)) h1
    obtain⟨X1,hX1⟩:∃ X,addAll l1 ((L.take k).flatMap allV)=X:=⟨_,rfl⟩;obtain⟨X2,hX2⟩:∃ X,addAll l2 (allM.go f v 0 (L.take k))=X:=⟨_,rfl⟩;rw[hX1] at hvr0 hg1 HE5;rw[hX2] at hvr0 he6;have Hg1:=qq hg1;have Hg2:=qq hg2;clear hg1 hg2;have hvA0:=hvr0.below hbA;have hbwA:=hbw.trans hvA.1;have Hvr:=qq (hvr.trans hvA)
    have k1:(0:Int)≤(k:Int):=by omega
    have k2:(k:Int)<m:=by omega
    by_cases hk1:k=1
    · have d1:((k:Int)==1)=true:=by simp[hk1]
      cases f with
      | true=>
        rw[decide_eq_true hk1] at he6;clear hk1;have e7:addAll X2 ([v]++allM x)=addAll (addN X2 v) (allM x):=rfl
        have hg3:(addAll (addN X2 v) (allM x)).length≤1099511627776:=by have:=Hg2.out; rw[he6] at this; exact this
        have hq0:=vs_note2 v hvA0 (Nat.le_trans (Nat.le_trans (addN_ge X2 v) (addAll_ge _ _)) hg3);have Hg3:=qq hg3;clear hg3 e7
        have HE6:Hid (addAll l2 (allM.go true v 0 (L.take (k+1)))=addAll (addN X2 v) (allM x)):=qq (by rw[he6]; rfl)
        have Hq0:=qq hq0;have Hnb:=qq hnb;have HbwA:=qq hbwA;have Hih':=qq hih
        have hwr:wr.heap.size≠s+1∧wr.heap.size≠s+1+1:=by omega
        clear hq0 hnb hvr hvA hbA hih hbw hvr0 hxk he6 hX1 hX2 hvA0 hbwA hzr;go_wp2_with fail;refine Hq0.out.mono ?_;rintro e w8 ⟨rfl,h8,h8o⟩;have hn8:=Hnb.out.vout h8o hwr.1 hwr.2 (by decide);have y0:=hn8.cell 0;have y1:=hn8.cell 1;have y2:=hn8.cell 2;have y3:=hn8.cell 3;have y4:=hn8.cell 4;have hq:=Hih'.out w8 X1 (addN X2 v) (HbwA.out.trans h8o.1) h8 Hg1.out Hg3.out;replace Hvr:=qq (Hvr.out.trans h8o);clear hn8 h8 h8o Hq0 Hih' e0 e1 e2 e3 e4;have Hq:=qq hq;clear hq;go_wp2_with fail;refine Hq.out.mono ?_;rintro e w9 ⟨rfl,h9,h10⟩;have H9:=qq h9;have H10:=qq h10;clear h9 h10;go_wp2_with fail;go_roundg (m - (k+1))
        case measure=>omega
        case rel=>
         refine⟨k+1,by omega,rfl,by go_num,?_,Hvr.out.trans H10.out⟩
         rw[HE5.out,HE6.out];exact H9.out
      | false=>
        have HE6:Hid (addAll l2 (allM.go false v 0 (L.take (k+1)))=addAll X2 (allM x)):=qq (by rw[he6]; rfl)
        have hq:=hih _ X1 X2 hbwA hvA0 Hg1.out (by rw[← HE6.out]; exact Hg2.out)
        clear hk1 hnb hvr hvA hbA hih hbw hvr0 hxk he6 hX1 hX2 hvA0 hbwA hzr;have Hq:=qq hq;clear hq;go_wp2_with fail;refine Hq.out.mono ?_;rintro e w9 ⟨rfl,h9,h10⟩;have H9:=qq h9;have H10:=qq h10;clear h9 h10;go_wp2_with fail;go_roundg (m - (k+1))
        case measure=>omega
        case rel=>
         refine⟨k+1,by omega,rfl,by go_num,?_,Hvr.out.trans H10.out⟩
         rw[HE5.out,HE6.out];exact H9.out
    · have d1:((k:Int)==1)=false:=by simp; omega
      have HE6:Hid (addAll l2 (allM.go f v 0 (L.take (k+1)))=addAll X2 (allM x)):=qq (by rw[he6,decide_eq_false hk1,Bool.and_false]; rfl)
      have hq:=hih _ X1 X2 hbwA hvA0 Hg1.out (by rw[← HE6.out]; exact Hg2.out)
      clear hnb hvr hvA hbA hih hbw hvr0 hxk he6 hX1 hX2 hvA0 hbwA hzr;have Hq:=qq hq;clear hq;go_wp2_with fail;refine Hq.out.mono ?_;rintro e w9 ⟨rfl,h9,h10⟩;have H9:=qq h9;have H10:=qq h10;clear h9 h10;go_wp2_with fail;go_roundg (m - (k+1))
      case measure=>omega
      case rel=>
       refine⟨k+1,by omega,rfl,by go_num,?_,Hvr.out.trans H10.out⟩
       rw[HE5.out,HE6.out];exact H9.out
  · have d0:decide (k<m)=false:=by simpa using hkm
    have hall:L.take k=L:=List.take_of_length_le (by omega);rw[hall] at hvr0;have Hv0:=qq hvr0;have Hvr:=qq hvr;clear hvr hvr0 hall;go_wp2_with fail;refine bodyPost_ret (v:=.tuple #[]) (by simp[results,Tryz.results76,go_sem]) rfl ⟨rfl,?_,Hvo.out.trans Hvr.out⟩;rw[HE1.out,HE2.out];exact Hv0.out
theorem walk_any (s:Nat) (w0:World) (t:TyD):WalkAt s w0 t:=by
 induction t using ty_ind with
 | h t ih=>
   obtain⟨k,n,v,c,L⟩:=t;have ih:∀ x∈L,WalkAt s w0 x:=ih
   by_cases h1:k=1
   · subst h1; exact walk_var s w0 n v c L ih
   · by_cases h7:k=7
     · subst h7; exact walk_fun s w0 n v c L ih
     · exact walk_else s w0 k n v c L h1 h7 ih
end Go.Proofs.YtdmakpmbknindaaGreatDoor
