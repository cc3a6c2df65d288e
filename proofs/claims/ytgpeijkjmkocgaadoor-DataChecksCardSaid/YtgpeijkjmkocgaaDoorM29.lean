import Derived.Test.YtgpeijkjmkocgaaDoorM27
import Derived.Test.YtgpeijkjmkocgaaDoorM17
set_option linter.unusedVariables false
set_option linter.unusedSimpArgs false
set_option maxHeartbeats 4000000
set_option maxRecDepth 100000
namespace Go.Proofs.YtgpeijkjmkocgaaDoor
open Go.RowKit
theorem declInfo:(Tryd.prog.info? 40).map (fun i=>(i.zero,i.size,i.bytes))=some (some (.agg #[.int .u8 0,.string ByteArray.empty,.int .i64 0,.int .i64 0,.int .i64 0,.slice none 0 0,.slice none 0 0,.bool false,.int .u8 0,.string ByteArray.empty,.int .i64 0,.int .i64 0,.int .i64 0,.int .i64 0,.slice none 0 0,.slice none 0 0]),16,208):=by kernel_rfl
def declRen:Go.Shelf.Ren:=⟨fun | 41=>36 | n=>n,fun | 22=>42 | 23=>40 | 4=>4 | n=>n,fun | n=>n⟩
theorem declLays:Go.Proofs.SlLaysE0.n41 Tryd.prog declRen := {
 mixed:=by kernel_rfl
 f41:=⟨Tryd.f36.name,by decide,Tryd.func36.trans (congrArg some (by kernel_rfl))⟩
 t4:=Tryd.underlying4
 a4:=Tryd.isAgg4
 z4:=Tryd.sizeOf4
 v4:=Tryd.zeroValue4
 t22:=Tryd.underlying42
 a22:=Tryd.isAgg42
 z22:=Tryd.sizeOf42
 v22:=Tryd.zeroValue42 }
def DeclD.one (d:DeclD):Prop:=∃ (a0:Int) (a1:ByteArray) (a2 a3 a4 a5:Int) (A6:Option Addr) (m6 c6:Nat) (A7:Option Addr) (m7 c7:Nat),d.e0=.int .u8 a0∧d.e1=.string a1∧d.e2=.int .i64 a2∧d.e3=.int .i64 a3∧d.e4=.int .i64 a4∧d.e5=.int .i64 a5∧d.e6=.slice A6 m6 c6∧d.e7=.slice A7 m7 c7
theorem DeclD.one.all {d:DeclD} (h:d.one):∀ u∈[d.e0,d.e1,d.e2,d.e3,d.e4,d.e5,d.e6,d.e7],u.oneCell'=true:=by
 obtain⟨a0,a1,a2,a3,a4,a5,A6,m6,c6,A7,m7,c7,h0,h1,h2,h3,h4,h5,h6,h7⟩:=h;rw[h0,h1,h2,h3,h4,h5,h6,h7];intro u hu;simp only[qk,List.not_mem_nil,or_false] at hu
 rcases hu with rfl | rfl | rfl | rfl | rfl | rfl | rfl | rfl <;> rfl
def D16 (w:World) (B:Nat) (cs:List Value) (x:Nat) (d:DeclD):Prop:=
 ∃ Ap np cp Ac nc cc,(∀ k,k<16→cs[x * 16+k]?=(dlCells d Ap np cp Ac nc cc)[k]?)∧Sl w (Lt B) encS 1 d.params Ap np cp∧Sl w (Lt B) encC 5 d.cons Ac nc cc∧d.one
section
variable {w w':World} {B:Nat} {cs:List Value} {x:Nat} {d:DeclD}
theorem D16.keep (h:D16 w B cs x d) (hk:∀ p:Addr,p.block<B→w'.cell? p=w.cell? p):D16 w' B cs x d:=by
 obtain⟨Ap,np,cp,Ac,nc,cc,e,h1,h2,h3⟩:=h;exact⟨Ap,np,cp,Ac,nc,cc,e,h1.keep (fun _ h=>h) fun p hp=>hk p hp,h2.keep (fun _ h=>h) fun p hp=>hk p hp,h3⟩
theorem D16.cut {m:Nat} (h:D16 w B cs x d) (hx:x<m):D16 w B (cs.take (m * 16)) x d:=by
 obtain⟨Ap,np,cp,Ac,nc,cc,e,h1⟩:=h
 exact⟨Ap,np,cp,Ac,nc,cc,fun k hk=>by rw[List.getElem?_take,if_pos (by omega)]; exact e k hk,h1⟩
theorem D16.congr {cs':List Value} (h:D16 w B cs x d) (he:∀ k,x * 16≤k→k<x * 16+16→cs'[k]?=cs[k]?):D16 w B cs' x d:=by
 obtain⟨Ap,np,cp,Ac,nc,cc,e,h1⟩:=h
 exact⟨Ap,np,cp,Ac,nc,cc,fun k hk=>by rw[he _ (by omega) (by omega)]; exact e k hk,h1⟩
theorem dlCells_one (d:DeclD) (h:d.one) (Ap:Option Addr) (np cp:Nat) (Ac:Option Addr) (nc cc:Nat):∀ u∈(dlCells d Ap np cp Ac nc cc).toList,u.oneCell'=true:=by
 intro u hu;unfold dlCells at hu;simp only[qk,List.not_mem_nil,or_false] at hu
 rcases hu with rfl | rfl | rfl | rfl | rfl | rfl | rfl | rfl | hu
 iterate 8 rfl
 exact h.all u (by simp only[qk,List.not_mem_nil,or_false]; exact hu)
theorem D16.cells {base:Nat} {e:TypeId} {g n c:Nat} (h:D16 w B cs x d) (hown:w.ownsRow base e 16 (.slice (some ⟨g,0,none⟩) n c) n cs) (hx:x<n):
  ∃ Ap np cp Ac nc cc,(∀ k,k<16→w.cell? ⟨g,x * 16+k,none⟩=(dlCells d Ap np cp Ac nc cc)[k]?)∧Sl w (Lt B) encS 1 d.params Ap np cp∧Sl w (Lt B) encC 5 d.cons Ac nc cc∧d.one:=by
 obtain⟨Ap,np,cp,Ac,nc,cc,e,h1⟩:=h
 exact⟨Ap,np,cp,Ac,nc,cc,fun k hk=>by rw[hown.cellAt _ (by omega)]; exact e k hk,h1⟩
end
theorem flat_get {X:Type} {enc:X→List Cel} {k:Nat} (hk:∀ x,(enc x).length=k):∀ (xs:List X) (i:Nat) (hi:i<xs.length) (j:Nat),j<k→(xs.flatMap enc)[i * k+j]?=(enc xs[i])[j]?
 | x :: xs,0,_,j,hj=>by
   rw[List.flatMap_cons,Nat.zero_mul,Nat.zero_add,List.getElem?_append_left (by rw[hk]; exact hj)]
   rfl
 | x :: xs,i+1,hi,j,hj=>by
   rw[List.flatMap_cons,List.getElem?_append_right (by rw[hk,Nat.add_mul]; omega),hk,show(i+1) * k+j - k=i * k+j from by rw[Nat.add_mul]; omega]
   exact flat_get hk xs i (by simpa using hi) j hj
theorem declsV {w:World} {B:Nat} {l:List DeclD} {cs:List Value} (h:CelsV w (Lt B) (l.flatMap encD) cs) (h1:∀ d∈l,d.one) (i:Nat) (hi:i<l.length):D16 w B cs i l[i]:=by
 have hg:∀ (j:Nat) (c:Cel),j<16→(encD l[i])[j]?=some c→∃ u,cs[i * 16+j]?=some u∧CelIn w (Lt B) c u:=fun j c hj hc=>h.get (i * 16+j) (by rw[flat_get encD_len l i hi j hj]; exact hc)
 obtain⟨u5,e5,q5⟩:=hg 5 _ (by omega) rfl;obtain⟨Ap,np,cp,rfl,h5⟩:=(sl_iff (enc:=encS) (k:=1) (fun _=>rfl) (by omega)).1 q5;obtain⟨u6,e6,q6⟩:=hg 6 _ (by omega) rfl;obtain⟨Ac,nc,cc,rfl,h6⟩:=(sl_iff (enc:=encC) (k:=5) encC_len (by omega)).1 q6;refine⟨Ap,np,cp,Ac,nc,cc,fun k hk=>?_,h5,h6,h1 _ (List.getElem_mem hi)⟩
 have hv:∀ (j:Nat) (v:Value),j<16→(encD l[i])[j]?=some (.v v)→(dlCells l[i] Ap np cp Ac nc cc)[j]?=some v→cs[i * 16+j]?=(dlCells l[i] Ap np cp Ac nc cc)[j]?:=fun j v hj hc he=>by
  obtain⟨u,hu,hq⟩:=hg j _ hj hc;rw[celIn_v] at hq;rw[hu,hq,he]
 obtain rfl | rfl | rfl | rfl | rfl | rfl | rfl | rfl | rfl | rfl | rfl | rfl | rfl | rfl | rfl | rfl:k=0∨k=1∨k=2∨k=3∨k=4∨k=5∨k=6∨k=7∨k=8∨k=9∨k=10∨k=11∨k=12∨k=13∨k=14∨k=15:=by omega
 · exact hv 0 _ hk rfl rfl
 · exact hv 1 _ hk rfl rfl
 · exact hv 2 _ hk rfl rfl
 · exact hv 3 _ hk rfl rfl
 · exact hv 4 _ hk rfl rfl
 · exact e5
 · exact e6
 · exact hv 7 _ hk rfl rfl
 · exact hv 8 _ hk rfl rfl
 · exact hv 9 _ hk rfl rfl
 · exact hv 10 _ hk rfl rfl
 · exact hv 11 _ hk rfl rfl
 · exact hv 12 _ hk rfl rfl
 · exact hv 13 _ hk rfl rfl
 · exact hv 14 _ hk rfl rfl
 · exact hv 15 _ hk rfl rfl
theorem celsV_one {w:World} {S:Nat→Prop}:∀ {l:List DeclD} {cs:List Value},CelsV w S (l.flatMap encD) cs→(∀ d∈l,d.one)→∀ u∈cs,u.oneCell'=true:=by
 have base:∀ (c:Cel) (u:Value),CelIn w S c u→(∀ v,c=.v v→v.oneCell'=true)→u.oneCell'=true:=by
  intro c u h hv
  cases c with
  | v x=>rw[celIn_v] at h; rw[h]; exact hv x rfl
  | s k l=>
    rw[celIn_s] at h;obtain⟨A,m,cp,rfl,_⟩:=h;rfl
 have go:∀ {L:List Cel} {cs:List Value},CelsV w S L cs→(∀ c∈L,∀ v,c=.v v→v.oneCell'=true)→∀ u∈cs,u.oneCell'=true:=by
  intro L
  induction L with
  | nil=>
    intro cs h _ u hu
    cases cs with
    | nil=>cases hu
    | cons v vs=>exact h.elim
  | cons c L ih=>
    intro cs h hv u hu
    cases cs with
    | nil=>cases hu
    | cons v vs=>
      rcases qk.1 hu with rfl | hu
      · exact base c _ h.1 (hv c (by simp))
      · exact ih h.2 (fun c hc=>hv c (by simp[hc])) u hu
 intro l cs h h1;refine go h fun c hc v e=>?_;obtain⟨d,hd,hc⟩:=List.mem_flatMap.1 hc;have h2:=h1 d hd;subst e;unfold encD at hc;simp only[qk,List.not_mem_nil,or_false,reduceCtorEq,Cel.v.injEq,false_or,List.mem_append] at hc;have h2:=h2.all;simp only[qk,List.not_mem_nil,or_false] at h2
 rcases hc with rfl | rfl | rfl | rfl | rfl | rfl | hc
 iterate 6 rfl
 exact h2 v hc
def OwnD (w:World) (base B:Nat) (v:Value) (n:Nat) (l:List DeclD):Prop:=
 l.length=n∧∃ cs,w.ownsRow base 40 16 v n cs∧∀ i (h:i<l.length),D16 w B cs i l[i]
def CloneD (l:List DeclD) (B n:Nat) (w:World) (e:Ending) (w':World):Prop:=
 ∃ v,e=.returned v∧OwnD w' w.heap.size B v n l∧(v=.slice none 0 0∨∃ g c,v=.slice (some ⟨g,0,none⟩) n c)∧Below w.heap.size w w'
theorem cloneD_zero (B:Nat) (a:Addr) (c:Nat) (w:World):
  Calls Tryd.prog 36 #[.slice (some a) 0 c] w (CloneD [] B 0 w):=by
 obtain⟨i0,hi0,hz0,hz1,hz2⟩:=info_parts declInfo;have hq:=fun w a n c n' c'=>Lib.run_eql_slice_nil (P:=Tryd.prog) w 42 40 a n c n' c' Tryd.underlying42
 go_enter Tryd.func36,Tryd.ntmps36
 go_wp2_with (at_builtin; refine wpList_append_own _ rfl _ _ 42 rfl w.heap.size 40 i0 _ 16 208 Tryd.underlying42 hi0 hz0 hz1 hz2 rfl (by omega) _ 0 [] rfl (World.ownsRow_lit w #[] 0 (Nat.le_refl _) (Nat.zero_le _) rfl) a 0 c [] rfl rfl (fun j u h=>by simp at h) (fun u h=>by simp at h) (Nat.zero_le _) (by omega) (by simp) ?_; intro v1 w1 hown1 hg1 hnil)
 go_ret
 refine⟨v1,rfl,⟨rfl,[],hown1,fun i h=>absurd h (by simp)⟩,?_,((Below.refl _ _).alloc (Nat.le_refl _) _).grown hg1 (by simp) (fun k hk=>by have hk':some w.heap.size=some k:=hk; injection hk' with h; omega)⟩
 rcases hown1.2 with ⟨e0,_⟩ | ⟨g,cap,cur,rfl,_⟩
 · exact .inl e0
 · exact .inr ⟨g,cap,rfl⟩
theorem cloneD_any (B:Nat) (A:Option Addr) (n c:Nat) (l:List DeclD) (w:World) (hr:Sl w (Lt B) encD 16 l A n c) (h1:∀ d∈l,d.one) (hB:B≤w.heap.size) (hbig:n * 208≤140737488355328):
  Calls Tryd.prog 36 #[.slice A n c] w (CloneD l B n w):=by
 obtain⟨hlen,hnc,hcm,hat⟩:=hr
 rcases A with _ | ⟨b,off,sp⟩
 · have hn:n=0:=by
    rcases Nat.eq_zero_or_pos n with h | h
    · exact h
    · obtain⟨_,_,e,_⟩:=hat h
      cases e
   subst hn;have hts:l=[]:=List.eq_nil_of_length_eq_zero hlen;subst hts;refine(AnyE.slices_Clone_nil declLays 0 c w).mono ?_;rintro e w1 ⟨rfl,rfl⟩;exact⟨_,rfl,⟨rfl,[],World.ownsRow_nil _ _ _ _,fun i h=>absurd h (by simp)⟩,.inl rfl,Below.refl _ _⟩
 · obtain⟨i0,hi0,hz0,hz1,hz2⟩:=info_parts declInfo
   rcases Nat.eq_zero_or_pos n with h0 | h0
   · subst h0
     have hts:l=[]:=List.eq_nil_of_length_eq_zero hlen;subst hts;exact cloneD_zero B _ c w
   · obtain⟨b',off',e,hb,hcell⟩:=hat h0
     injection e with e
     injection e with e1 e2 e3
     subst e1; subst e2; subst e3
     obtain⟨cs,hv,hc⟩:=hcell.vals
     have hl:cs.length=n * 16:=by rw[hv.len,flat_len encD_len,hlen]
     refine(AnyE.slices_Clone declLays i0 _ 16 208 hi0 hz0 hz1 hz2 rfl (by omega) Tryd.sizeOf40 b off n c cs w hl (Nat.le_trans hnc hcm) hbig hc (celsV_one hv h1)).mono ?_;rintro e w1 ⟨v',rfl,hown,hne,hb1⟩;refine⟨v',rfl,⟨hlen,cs,hown,fun i hi=>(declsV hv h1 i hi).keep fun q hq=>hb1.cell (by omega)⟩,.inr ?_,hb1⟩
     rcases hown.2 with ⟨e0,_⟩ | ⟨g,cap,cur,rfl,_⟩
     · exact absurd e0 hne
     · exact⟨g,cap,rfl⟩
theorem OwnD.form {w:World} {base B:Nat} {g:Nat} {n m c:Nat} {l:List DeclD} (h:OwnD w base B (.slice (some ⟨g,0,none⟩) m c) n l):m=n∧base≤g∧g<w.heap.size∧n≤c∧c≤maxLen:=by
 obtain⟨_,cs,hown,_⟩:=h
 rcases hown.2 with ⟨e0,_⟩ | ⟨g',cap,cur,e0,hb,hg,hn,hm,_⟩
 · cases e0
 · injection e0 with e1 e2 e3
   injection e1 with e1
   injection e1 with e1
   subst e1; subst e2; subst e3
   exact⟨rfl,hb,(Array.getElem?_eq_some_iff.1 hg).1,hn,hm⟩
theorem OwnD.below {w w':World} {base B:Nat} {v:Value} {n:Nat} {l:List DeclD} (h:OwnD w base B v n l) (hb:Below w.heap.size w w') (hB:B≤w.heap.size):OwnD w' base B v n l:=by
 obtain⟨h0,cs,h1,h2⟩:=h;exact⟨h0,cs,ownsRow_beyond h1 hb,fun i hi=>(h2 i hi).keep fun q hq=>hb.cell (by omega)⟩
theorem check1_any (x:DeclD) (Ap:Option Addr) (np cp:Nat) (Ac:Option Addr) (nc cc:Nat) (r:Bool) (hr:(x.k==2)=r) (w:World):
  Calls Tryd.prog 38 #[.agg (dlCells x Ap np cp Ac nc cc)] w fun e w'=>e=.returned (.bool r)∧Below w.heap.size w w':=by
 have hbx:=below_box (w:=w) (Obj.cells (dlCells x Ap np cp Ac nc cc) 40);have hkx:=blk_new w (dlCells x Ap np cp Ac nc cc) 40;obtain⟨W,hW⟩:∃ q,w.alloc (Obj.cells (dlCells x Ap np cp Ac nc cc) 40)=q:=⟨_,rfl⟩;rw[hW] at hbx hkx;have x0:W.cell? ⟨w.heap.size,0,none⟩=some (.int .u8 x.k):=hkx.cell 0;unfold dlCells at hW ⊢;have HW:=qq hW;have Hb:=qq hbx;clear hW hbx hkx
 go_enter Tryd.func38,Tryd.ntmps38
 go_upto_region 1 with fail;rw[HW.out];go_wp2_with fail;go_ret;exact⟨rfl,Hb.out⟩
def pD (d:DeclD):Bool:=d.k==2
theorem indexDl_any (base B g n c:Nat) (l:List DeclD) (w:World) (hown:OwnD w base B (.slice (some ⟨g,0,none⟩) n c) n l):
  Calls Tryd.prog 66 #[.slice (some ⟨g,0,none⟩) n c,.func (.func 38) #[] #[]] w fun e w'=>e=.returned (.int .i64 (idxP pD l))∧Below w.heap.size w w':=by
 obtain⟨_,hbg,hgl,hnc,hcm⟩:=hown.form;obtain⟨hlen,cs,ho,h16⟩:=hown;have m63:n≤9223372036854775807:=Nat.le_trans hnc hcm;have Ho:=qq ho;have H16:=qq h16;clear ho h16
 go_enter Tryd.func66,Tryd.ntmps66
 go_wp2_with fail
 go_loopg [5,8] n (fun gh _ i wr=>∃ k:Nat,k≤n∧gh=n - k∧i=.int .i64 (k:Nat)∧(∀ j (h:j<l.length),j<k→pD l[j]=false)∧Below w.heap.size w wr)
 case atStart=>exact⟨0,Nat.zero_le _,rfl,rfl,fun j _ hj=>absurd hj (by omega),Below.refl _ _⟩
 case round=>
  obtain⟨k,hk,rfl,rfl,hno,hbel⟩:=hrel;have Hno:=qq hno;have Hbel:=qq hbel;clear hno hbel
  by_cases hkn:k<n
  · have d0:decide (k<n)=true:=by simpa using hkn
    have hk':k<l.length:=by omega
    obtain⟨Ap',np',cp',Ac',nc',cc',hc,_,_,_⟩:=(H16.out k hk').cells Ho.out hkn;obtain⟨x,hx⟩:∃ q,l[k]=q:=⟨_,rfl⟩;rw[hx] at hc;have hcw:∀ j,wr.cell? ⟨g,k * 16+j,none⟩=w.cell? ⟨g,k * 16+j,none⟩:=fun j=>Hbel.out.cell (p:=⟨g,k * 16+j,none⟩) hgl;have c0:wr.cell? ⟨g,k * 16,none⟩=some (.int .u8 x.k):=(hcw 0).trans ((hc 0 (by omega)));have c1:wr.cell? ⟨g,k * 16+1,none⟩=some (.string x.name):=(hcw 1).trans ((hc 1 (by omega)));have c2:wr.cell? ⟨g,k * 16+2,none⟩=some (.int .i64 x.p.at_):=(hcw 2).trans ((hc 2 (by omega)));have c3:wr.cell? ⟨g,k * 16+3,none⟩=some (.int .i64 x.p.line):=(hcw 3).trans ((hc 3 (by omega)));have c4:wr.cell? ⟨g,k * 16+4,none⟩=some (.int .i64 x.p.col):=(hcw 4).trans ((hc 4 (by omega)));have c5:wr.cell? ⟨g,k * 16+5,none⟩=some (.slice Ap' np' cp'):=(hcw 5).trans ((hc 5 (by omega)));have c6:wr.cell? ⟨g,k * 16+6,none⟩=some (.slice Ac' nc' cc'):=(hcw 6).trans ((hc 6 (by omega)));have c7:wr.cell? ⟨g,k * 16+7,none⟩=some (.bool x.rec_):=(hcw 7).trans ((hc 7 (by omega)));have c8:wr.cell? ⟨g,k * 16+8,none⟩=some (x.e0):=(hcw 8).trans ((hc 8 (by omega)));have c9:wr.cell? ⟨g,k * 16+9,none⟩=some (x.e1):=(hcw 9).trans ((hc 9 (by omega)));have c10:wr.cell? ⟨g,k * 16+10,none⟩=some (x.e2):=(hcw 10).trans ((hc 10 (by omega)));have c11:wr.cell? ⟨g,k * 16+11,none⟩=some (x.e3):=(hcw 11).trans ((hc 11 (by omega)));have c12:wr.cell? ⟨g,k * 16+12,none⟩=some (x.e4):=(hcw 12).trans ((hc 12 (by omega)));have c13:wr.cell? ⟨g,k * 16+13,none⟩=some (x.e5):=(hcw 13).trans ((hc 13 (by omega)));have c14:wr.cell? ⟨g,k * 16+14,none⟩=some (x.e6):=(hcw 14).trans ((hc 14 (by omega)));have c15:wr.cell? ⟨g,k * 16+15,none⟩=some (x.e7):=(hcw 15).trans ((hc 15 (by omega)));obtain⟨P,hP⟩:∃ P,(x.k==2)=P:=⟨_,rfl⟩;have hq:=check1_any x Ap' np' cp' Ac' nc' cc' P hP wr
    have HP:Hid (pD l[k]=P):=qq (by rw[hx]; exact hP)
    have k1:(0:Int)≤(k:Int):=by omega
    have k2:(k:Int)<n:=by omega
    unfold dlCells at hq;have Hq:=qq hq;clear hc hcw hP hq hx
    cases P with
    | false=>
      have Hno2:Hid (∀ j (h:j<l.length),j<k+1→pD l[j]=false):=qq fun j hj hjk=>by
       rcases Nat.lt_or_ge j k with h | h
       · exact Hno.out j hj h
       · obtain rfl:j=k:=by omega
         exact HP.out
      go_wp2_with fail
      refine Hq.out.mono ?_; rintro e w1 ⟨rfl,hb1⟩
      have Hb1:=qq (Hbel.out.trans (hb1.mono Hbel.out.size));clear hb1;go_wp2_with fail;go_roundg (n - (k+1))
      case measure=>omega
      case rel=>exact⟨k+1,by omega,rfl,by go_num,Hno2.out,Hb1.out⟩
    | true=>
      have HF:Hid ((k:Int)=idxP pD l):=qq (idxP_at hk' Hno.out HP.out).symm;go_wp2_with fail
      refine Hq.out.mono ?_; rintro e w1 ⟨rfl,hb1⟩
      have Hb1:=qq (Hbel.out.trans (hb1.mono Hbel.out.size));clear hb1;go_wp2_with fail;go_ret;exact⟨ret_int HF.out,Hb1.out⟩
  · have d0:decide (k<n)=false:=by simpa using hkn
    have HF:Hid (-1=idxP pD l):=qq (idxP_none (fun j hj=>Hno.out j hj (by omega))).symm;go_wp2_with fail;go_ret;exact⟨ret_int HF.out,Hbel.out⟩
def DelD (l:List DeclD) (base B:Nat) (w:World) (e:Ending) (w':World):Prop:=
 ∃ v m,e=.returned v∧((v=.slice none 0 0∧m=0)∨∃ g c,v=.slice (some ⟨g,0,none⟩) m c)∧OwnD w' base B v m l∧Below base w w'
theorem filterD_succ (p:DeclD→Bool) (ts:List DeclD) (j:Nat) (hj:j<ts.length):(ts.take (j+1)).filter p=(ts.take j).filter p++(if p ts[j] then [ts[j]] else []):=by
 rw[List.take_succ_eq_append_getElem hj,List.filter_append]
 congr 1
 by_cases h:p ts[j] <;> simp[h]
theorem indexDl_nil (c:Nat) (w:World):Calls Tryd.prog 66 #[.slice none 0 c,.func (.func 38) #[] #[]] w fun e w'=>e=.returned (.int .i64 (-1))∧Below w.heap.size w w':=by
 go_enter Tryd.func66,Tryd.ntmps66
 go_wp2_with fail
 go_loopg [5,8] 0 (fun gh _ i wr=>gh=0∧i=.int .i64 0∧Below w.heap.size w wr)
 case atStart=>exact⟨rfl,rfl,Below.refl _ _⟩
 case round=>
  obtain⟨rfl,rfl,hbel⟩:=hrel;have H:=qq hbel;clear hbel;go_wp2_with fail;go_ret;exact⟨rfl,H.out⟩
theorem storeD {base g n c i:Nat} {w2:World} {cs l16:List Value} (h:w2.ownsRow base 40 16 (.slice (some ⟨g,0,none⟩) n c) n cs) (hi:i<n) (hl:l16.length=16):
  w2.there g (i * 16) 16∧∃ cs3,(w2.setCells g (i * 16) l16).ownsRow base 40 16 (.slice (some ⟨g,0,none⟩) n c) n cs3∧(∀ k,k<16→cs3[i * 16+k]?=l16[k]?)∧(∀ k,k<i * 16∨i * 16+16≤k→cs3[k]?=cs[k]?)∧w2.grownBy (w2.setCells g (i * 16) l16) (some g):=by
 have hcl:cs.length=n * 16:=h.1
 have ht:w2.there g (i * 16) 16:=fun k hk=>⟨by rw[h.cellAt _ (by omega),qj (by omega)]; rfl,h.frozenAt _⟩
 obtain⟨cs3,h1,h2,h3⟩:=ownsRow_setCells l16 cs (i * 16) w2 h;refine⟨ht,cs3,h1,fun k hk=>?_,fun k hk=>?_,h3⟩
 · rw[← h1.cellAt _ (by omega)]
   exact(World.cell?_setCells_in g l16 (i * 16) w2 (fun j hj=>(ht j (by omega)).1) k (by omega)).trans (qj (by omega)).symm
 · rcases Nat.lt_or_ge k (n * 16) with hkn | hkn
   · rw[← h1.cellAt _ hkn,← h.cellAt _ hkn]
     refine World.cell?_setCells_out g l16 (i * 16) w2 ⟨g,k,none⟩ (fun _ _=>?_)
     rcases hk with hk | hk
     · exact Or.inl hk
     · exact Or.inr (by rw[hl]; exact hk)
   · rw[List.getElem?_eq_none (by rw[h1.1]; omega),List.getElem?_eq_none (by rw[h.1]; omega)]
theorem deleteD_any (base B n:Nat) (v:Value) (ts:List DeclD) (w:World) (hown:OwnD w base B v n ts) (hB:B≤base) (hbase:base≤w.heap.size)
  (hform:v=.slice none 0 0∨∃ g c,v=.slice (some ⟨g,0,none⟩) n c):
  Calls Tryd.prog 37 #[v,.func (.func 38) #[] #[]] w (DelD (ts.filter fun t=>!pD t) base B w):=by
 have Hown:=qq hown;have hlen:=hown.1;have Hlen:=qq hlen;clear hlen
 cases hfi:ts.findIdx? pD with
 | none=>
   have hnone:∀ t∈ts,pD t=false:=by
    intro t ht;rw[List.findIdx?_eq_none_iff] at hfi;exact hfi t ht
   have hfil:(ts.filter fun t=>!pD t)=ts:=by
    rw[List.filter_eq_self];intro t ht
    rw[hnone t ht]; rfl
   have hidx:idxP pD ts = -1:=by unfold idxP; rw[hfi]
   rw[hfil];have Hidx:=qq hidx;clear hfil hidx hnone hfi
   rcases hform with rfl | ⟨g,c,rfl⟩
   · have hn:n=0:=by
      obtain⟨_,cs,ho,_⟩:=hown
      rcases ho.2 with ⟨_,q⟩ | ⟨g',cap,cur,e0,_⟩
      · exact q
      · cases e0
     subst hn;clear hown
     go_enter Tryd.func37,Tryd.ntmps37
     go_wp2_with fail
     refine(indexDl_nil 0 _).mono ?_; rintro e w1 ⟨rfl,hb1⟩
     go_wp2_with fail;go_ret
     exact⟨_,0,rfl,.inl ⟨rfl,rfl⟩,⟨Hlen.out,[],World.ownsRow_nil _ _ _ _,fun i hi=>absurd hi (by have:=Hlen.out; omega)⟩,hb1.mono hbase⟩
   · have hq:=indexDl_any base B g n c ts w hown
     rw[Hidx.out] at hq;have Hq:=qq hq;clear hown hq
     go_enter Tryd.func37,Tryd.ntmps37
     go_wp2_with fail
     refine Hq.out.mono ?_; rintro e w1 ⟨rfl,hb1⟩
     go_wp2_with fail;go_ret;exact⟨_,n,rfl,.inr ⟨g,c,rfl⟩,Hown.out.below hb1 (Nat.le_trans hB hbase),hb1.mono hbase⟩
 | some i0=>
   have hidx:idxP pD ts=(i0:Int):=by unfold idxP; rw[hfi]
   rw[List.findIdx?_eq_some_iff_getElem] at hfi;obtain⟨hi0,hpi,hbef⟩:=hfi
   have hin:i0<n:=by rw[← Hlen.out]; exact hi0
   obtain⟨g,c,rfl⟩:∃ g c,v=.slice (some ⟨g,0,none⟩) n c:=by
    rcases hform with rfl | h
    · obtain⟨_,cs,ho,_⟩:=hown
      rcases ho.2 with ⟨_,q⟩ | ⟨g',cap,cur,e0,_⟩
      · omega
      · cases e0
    · exact h
   clear hform;obtain⟨_,hbg,hgl,hnc,hcm⟩:=hown.form;unfold maxLen at hcm;have hq:=indexDl_any base B g n c ts w hown;rw[hidx] at hq;have Hq:=qq hq
   have hk0:((ts.take i0).filter fun t=>!pD t)=ts.take i0:=by
    rw[List.filter_eq_self];intro t ht;obtain⟨j,hj,rfl⟩:=List.getElem_of_mem ht;rw[List.getElem_take]
    have:=hbef j (by rw[List.length_take] at hj; omega)
    simpa using this
   have hk1:((ts.take (i0+1)).filter fun t=>!pD t)=ts.take i0:=by
    rw[filterD_succ _ _ _ hi0,hk0,hpi];simp
   have Hk1:=qq hk1;have hst:=hown.2;have Hst:=qq hst;clear hk0 hk1 hidx hbef hpi hown hst hq
   go_enter Tryd.func37,Tryd.ntmps37
   go_wp2_with fail
   refine Hq.out.mono ?_; rintro e w1 ⟨rfl,hb1⟩
   have hne1:((i0:Int) == -1)=false:=beq_eq_false_iff_ne.2 (by omega);go_wp2_with fail;obtain⟨cs0,ho0,h30⟩:=Hst.out;have ho1:=ho0.kept (below_grown hb1) (by simp[Value.ownBlock]);have h31:∀ i (h:i<ts.length),D16 w1 B cs0 i ts[i]:=fun i hi=>(h30 i hi).keep fun q hq=>hb1.cell (by omega);clear ho0 h30 Hst Hown Hq
   go_loopg [5,6] (n - (i0+1)) (fun gg a b wr=>∃ (i j:Nat) (cs:List Value),j≤n∧i<j∧gg=n - j∧a=.int .i64 i∧b=.int .i64 j∧i=((ts.take j).filter fun t=>!pD t).length ∧
    wr.ownsRow base 40 16 (.slice (some ⟨g,0,none⟩) n c) n cs∧(∀ x (h:x<((ts.take j).filter fun t=>!pD t).length),D16 wr B cs x ((ts.take j).filter fun t=>!pD t)[x])∧(∀ y (h:y<ts.length),j≤y→D16 wr B cs y ts[y])∧Below base w wr∧w.heap.size≤wr.heap.size)
   case atStart=>
    refine⟨i0,i0+1,cs0,by omega,by omega,rfl,rfl,by go_num,?_,ho1,?_,fun y hy _=>h31 y hy,hb1.mono hbase,hb1.size⟩
    · rw[Hk1.out,List.length_take]; omega
    · rw[Hk1.out]
      intro x hx
      have hx':x<ts.length:=by rw[List.length_take] at hx; omega
      rw[List.getElem_take];exact h31 x hx'
   case round=>
    obtain⟨i,j,cs,hj,hij,rfl,rfl,rfl,hi,ho,hpre,hsuf,hbel,hsz⟩:=hrel;have Ho:=qq ho;have Hpre:=qq hpre;have Hsuf:=qq hsuf;have Hi:=qq hi;clear hpre hsuf hi ho ho1 h31
    by_cases hlt:j<n
    · have hj':j<ts.length:=by rw[Hlen.out]; exact hlt
      obtain⟨Ap,np,cp,Ac,nc,cc,hc,hrp,hrc,hone⟩:=(Hsuf.out j hj' (Nat.le_refl _)).cells Ho.out hlt;have hfs:=filterD_succ (fun t=>!pD t) ts j hj';obtain⟨x,hx⟩:∃ q,ts[j]=q:=⟨_,rfl⟩;rw[hx] at hc hrp hrc hone hfs;have Hx:=qq hx;have c0:wr.cell? ⟨g,j * 16,none⟩=some (.int .u8 x.k):=hc 0 (by omega);have c1:wr.cell? ⟨g,j * 16+1,none⟩=some (.string x.name):=hc 1 (by omega);have c2:wr.cell? ⟨g,j * 16+2,none⟩=some (.int .i64 x.p.at_):=hc 2 (by omega);have c3:wr.cell? ⟨g,j * 16+3,none⟩=some (.int .i64 x.p.line):=hc 3 (by omega);have c4:wr.cell? ⟨g,j * 16+4,none⟩=some (.int .i64 x.p.col):=hc 4 (by omega);have c5:wr.cell? ⟨g,j * 16+5,none⟩=some (.slice Ap np cp):=hc 5 (by omega);have c6:wr.cell? ⟨g,j * 16+6,none⟩=some (.slice Ac nc cc):=hc 6 (by omega);have c7:wr.cell? ⟨g,j * 16+7,none⟩=some (.bool x.rec_):=hc 7 (by omega);have c8:wr.cell? ⟨g,j * 16+8,none⟩=some (x.e0):=hc 8 (by omega);have c9:wr.cell? ⟨g,j * 16+9,none⟩=some (x.e1):=hc 9 (by omega);have c10:wr.cell? ⟨g,j * 16+10,none⟩=some (x.e2):=hc 10 (by omega);have c11:wr.cell? ⟨g,j * 16+11,none⟩=some (x.e3):=hc 11 (by omega);have c12:wr.cell? ⟨g,j * 16+12,none⟩=some (x.e4):=hc 12 (by omega);have c13:wr.cell? ⟨g,j * 16+13,none⟩=some (x.e5):=hc 13 (by omega);have c14:wr.cell? ⟨g,j * 16+14,none⟩=some (x.e6):=hc 14 (by omega);have c15:wr.cell? ⟨g,j * 16+15,none⟩=some (x.e7):=hc 15 (by omega);have Hrp:=qq hrp;have Hrc:=qq hrc;have Hone:=qq hone;obtain⟨a0,a1,a2,a3,a4,a5,A6,m6,p6,A7,m7,p7,t0,t1,t2,t3,t4,t5,t6,t7⟩:=hone;rw[t0] at c8;rw[t1] at c9;rw[t2] at c10;rw[t3] at c11;rw[t4] at c12;rw[t5] at c13;rw[t6] at c14;rw[t7] at c15;have HT:=qq (And.intro t0 (And.intro t1 (And.intro t2 (And.intro t3 (And.intro t4 (And.intro t5 (And.intro t6 t7)))))));clear t0 t1 t2 t3 t4 t5 t6 t7;obtain⟨P,hP⟩:∃ P,(x.k==2)=P:=⟨_,rfl⟩;have hpP:pD x=P:=hP;rw[hpP] at hfs;have Hfs0:=qq hfs;have HP:=qq hP;clear hrp hrc hc hx hfs hP hpP;go_wp2_with fail;have hq:=check1_any x Ap np cp Ac nc cc P HP.out (wr.alloc (Obj.cells #[.int .u8 x.k,.string x.name,.int .i64 x.p.at_,.int .i64 x.p.line,.int .i64 x.p.col,.slice Ap np cp,.slice Ac nc cc,.bool x.rec_,.int .u8 a0,.string a1,.int .i64 a2,.int .i64 a3,.int .i64 a4,.int .i64 a5,.slice A6 m6 p6,.slice A7 m7 p7] 40));unfold dlCells at hq;rw[HT.out.1,HT.out.2.1,HT.out.2.2.1,HT.out.2.2.2.1,HT.out.2.2.2.2.1,HT.out.2.2.2.2.2.1,HT.out.2.2.2.2.2.2.1,HT.out.2.2.2.2.2.2.2] at hq
      refine hq.mono ?_; rintro e w2 ⟨rfl,hb2⟩
      clear hq;have hb2':=hb2;simp only[World.size_alloc] at hb2'
      have hvb:Blk w2 wr.heap.size 40 #[.int .u8 x.k,.string x.name,.int .i64 x.p.at_,.int .i64 x.p.line,.int .i64 x.p.col,.slice Ap np cp,.slice Ac nc cc,.bool x.rec_,.int .u8 a0,.string a1,.int .i64 a2,.int .i64 a3,.int .i64 a4,.int .i64 a5,.slice A6 m6 p6,.slice A7 m7 p7]:=by
       show w2.heap[wr.heap.size]?=_;rw[hb2'.block _ (Nat.lt_succ_self _)];exact heap_alloc_new wr _
      have ho2:=(Ho.out.alloc (Obj.cells #[.int .u8 x.k,.string x.name,.int .i64 x.p.at_,.int .i64 x.p.line,.int .i64 x.p.col,.slice Ap np cp,.slice Ac nc cc,.bool x.rec_,.int .u8 a0,.string a1,.int .i64 a2,.int .i64 a3,.int .i64 a4,.int .i64 a5,.slice A6 m6 p6,.slice A7 m7 p7] 40)).kept (below_grown hb2) (by simp[Value.ownBlock]);have hbw:Below wr.heap.size wr w2:=((Below.refl wr.heap.size wr).alloc (Nat.le_refl _) (Obj.cells #[.int .u8 x.k,.string x.name,.int .i64 x.p.at_,.int .i64 x.p.line,.int .i64 x.p.col,.slice Ap np cp,.slice Ac nc cc,.bool x.rec_,.int .u8 a0,.string a1,.int .i64 a2,.int .i64 a3,.int .i64 a4,.int .i64 a5,.slice A6 m6 p6,.slice A7 m7 p7] 40)).trans (hb2.mono (by simp));have hkB:∀ q:Addr,q.block<B→w2.cell? q=wr.cell? q:=fun q hq=>hbw.cell (by omega);have HkB:=qq hkB;have Ho2:=qq ho2;have hsz2:w.heap.size≤w2.heap.size:=Nat.le_trans hsz hbw.size;have hbel2:Below base w w2:=hbel.trans (hbw.mono (by omega));clear hb2 hb2' ho2 hkB hbw hbel hsz c0 c1 c2 c3 c4 c5 c6 c7 c8 c9 c10 c11 c12 c13 c14 c15
      cases P with
      | false=>
        have hfs:=Hfs0.out;simp only[Bool.not_false,if_true] at hfs;have Hfs:=qq hfs;clear hfs Hfs0
        have hin2:i<n:=by omega
        have hcl:cs.length=n * 16:=Ho2.out.1;have d0:w2.cell? ⟨wr.heap.size,0,none⟩=some (.int .u8 x.k):=hvb.cell 0;have d1:w2.cell? ⟨wr.heap.size,1,none⟩=some (.string x.name):=hvb.cell 1;have d2:w2.cell? ⟨wr.heap.size,2,none⟩=some (.int .i64 x.p.at_):=hvb.cell 2;have d3:w2.cell? ⟨wr.heap.size,3,none⟩=some (.int .i64 x.p.line):=hvb.cell 3;have d4:w2.cell? ⟨wr.heap.size,4,none⟩=some (.int .i64 x.p.col):=hvb.cell 4;have d5:w2.cell? ⟨wr.heap.size,5,none⟩=some (.slice Ap np cp):=hvb.cell 5;have d6:w2.cell? ⟨wr.heap.size,6,none⟩=some (.slice Ac nc cc):=hvb.cell 6;have d7:w2.cell? ⟨wr.heap.size,7,none⟩=some (.bool x.rec_):=hvb.cell 7;have d8:w2.cell? ⟨wr.heap.size,8,none⟩=some (.int .u8 a0):=hvb.cell 8;have d9:w2.cell? ⟨wr.heap.size,9,none⟩=some (.string a1):=hvb.cell 9;have d10:w2.cell? ⟨wr.heap.size,10,none⟩=some (.int .i64 a2):=hvb.cell 10;have d11:w2.cell? ⟨wr.heap.size,11,none⟩=some (.int .i64 a3):=hvb.cell 11;have d12:w2.cell? ⟨wr.heap.size,12,none⟩=some (.int .i64 a4):=hvb.cell 12;have d13:w2.cell? ⟨wr.heap.size,13,none⟩=some (.int .i64 a5):=hvb.cell 13;have d14:w2.cell? ⟨wr.heap.size,14,none⟩=some (.slice A6 m6 p6):=hvb.cell 14;have d15:w2.cell? ⟨wr.heap.size,15,none⟩=some (.slice A7 m7 p7):=hvb.cell 15;have hst:=storeD (l16:=(#[.int .u8 x.k,.string x.name,.int .i64 x.p.at_,.int .i64 x.p.line,.int .i64 x.p.col,.slice Ap np cp,.slice Ac nc cc,.bool x.rec_,.int .u8 a0,.string a1,.int .i64 a2,.int .i64 a3,.int .i64 a4,.int .i64 a5,.slice A6 m6 p6,.slice A7 m7 p7]:Array Value).toList) Ho2.out hin2 rfl;obtain⟨ht,hst⟩:=hst;have Hst:=qq hst
        have h1c:((#[.int .u8 x.k,.string x.name,.int .i64 x.p.at_,.int .i64 x.p.line,.int .i64 x.p.col,.slice Ap np cp,.slice Ac nc cc,.bool x.rec_,.int .u8 a0,.string a1,.int .i64 a2,.int .i64 a3,.int .i64 a4,.int .i64 a5,.slice A6 m6 p6,.slice A7 m7 p7]:Array Value)).all (·.oneCell')=true:=by simp[Value.oneCell']
        clear hcl hvb hst;go_upto_region 9 with fail;refine wp_region_list ?_;refine wpList_plain rfl fun K hK=>?_;go_simp;refine hK _ _ ?_;clear hK K;refine wpList_plain rfl fun K hK=>?_;go_simp;refine hK _ _ ?_;clear hK K;refine wpList_plain rfl fun K hK=>?_;go_simp;refine hK _ _ ?_;clear hK K;refine wpList_plain rfl fun K hK=>?_;go_simp;refine hK _ _ ?_;clear hK K;refine wpList_store_mid rfl 40 (.tmp 33) (.tmp 32) rfl g (i * 16) #[.int .u8 x.k,.string x.name,.int .i64 x.p.at_,.int .i64 x.p.line,.int .i64 x.p.col,.slice Ap np cp,.slice Ac nc cc,.bool x.rec_,.int .u8 a0,.string a1,.int .i64 a2,.int .i64 a3,.int .i64 a4,.int .i64 a5,.slice A6 m6 p6,.slice A7 m7 p7] rfl rfl ht (by kernel_rfl) h1c ?_;clear d0 d1 d2 d3 d4 d5 d6 d7 d8 d9 d10 d11 d12 d13 d14 d15 ht h1c;obtain⟨W3,hW3⟩:∃ q,w2.setCells g (i * 16) (#[.int .u8 x.k,.string x.name,.int .i64 x.p.at_,.int .i64 x.p.line,.int .i64 x.p.col,.slice Ap np cp,.slice Ac nc cc,.bool x.rec_,.int .u8 a0,.string a1,.int .i64 a2,.int .i64 a3,.int .i64 a4,.int .i64 a5,.slice A6 m6 p6,.slice A7 m7 p7]:Array Value).toList=q:=⟨_,rfl⟩;have Hst3:=Hst.out;rw[hW3] at Hst3 ⊢;have Hst:=qq Hst3;clear Hst3 hW3;go_wp2_with fail;go_roundg (n - (j+1))
        case measure=>omega
        case rel=>
         obtain⟨cs3,hs3,hcs3,hout,hgr3⟩:=Hst.out
         have hbs3:Below g w2 W3:=⟨hgr3.os,hgr3.tape,hgr3.output,hgr3.size,fun k hk=>hgr3.block k (by omega) (by simp; omega)⟩
         have hsz3:=hgr3.size
         refine⟨i+1,j+1,cs3,by omega,by omega,rfl,by go_num,by go_num,?_,hs3,?_,?_,hbel2.trans (hbs3.mono hbg),by omega⟩
         · rw[Hfs.out,List.length_append,← Hi.out]; rfl
         · rw[Hfs.out]
           intro y hy;rw[List.length_append,← Hi.out] at hy
           rcases Nat.lt_or_ge y i with h | h
           · rw[List.getElem_append_left (by rw[← Hi.out]; exact h)]
             exact(((Hpre.out y (by rw[← Hi.out]; exact h)).keep HkB.out).keep fun q hq=>hbs3.cell (by omega)).congr fun k h1 h2=>hout k (by omega)
           · have hyi:y=i:=by simp at hy; omega
             subst hyi
             rw[List.getElem_append_right (by rw[← Hi.out]; exact Nat.le_refl _)]
             have e0:(([x]:List DeclD)[y - ((ts.take j).filter fun t=>!pD t).length]'(by rw[← Hi.out]; simp))=x:=by
              have:y - ((ts.take j).filter fun t=>!pD t).length=0:=by rw[← Hi.out]; omega
              simp[this]
             rw[e0];have hk3:∀ q:Addr,q.block<B→W3.cell? q=wr.cell? q:=fun q hq=>(hbs3.cell (by omega)).trans (HkB.out q hq)
             exact⟨Ap,np,cp,Ac,nc,cc,fun k hk=>(hcs3 k hk).trans (by unfold dlCells; rw[HT.out.1,HT.out.2.1,HT.out.2.2.1,HT.out.2.2.2.1,HT.out.2.2.2.2.1,HT.out.2.2.2.2.2.1,HT.out.2.2.2.2.2.2.1,HT.out.2.2.2.2.2.2.2]; simp),Hrp.out.keep (fun _ h=>h) fun p hp=>hk3 p hp,Hrc.out.keep (fun _ h=>h) fun p hp=>hk3 p hp,Hone.out⟩
         · intro y hy hjy
           exact(((Hsuf.out y hy (by omega)).keep HkB.out).keep fun q hq=>hbs3.cell (by omega)).congr fun k h1 h2=>hout k (by omega)
      | true=>
        have hfs:=Hfs0.out;simp only[Bool.not_true,Bool.false_eq_true,if_false,List.append_nil] at hfs;have Hfs:=qq hfs;clear hfs Hfs0 hvb;go_wp2_with fail;go_roundg (n - (j+1))
        case measure=>omega
        case rel=>
         refine⟨i,j+1,cs,by omega,by omega,rfl,rfl,by go_num,?_,Ho2.out,?_,fun y hy hjy=>(Hsuf.out y hy (by omega)).keep HkB.out,hbel2,hsz2⟩
         · rw[Hfs.out]; exact Hi.out
         · rw[Hfs.out]
           intro x hx;exact(Hpre.out x hx).keep HkB.out
    · have hjn:j=n:=by omega
      subst hjn
      have hall:ts.take j=ts:=List.take_of_length_le (by rw[Hlen.out]; exact Nat.le_refl _)
      have Hall:=qq hall;clear hall
      have hci:¬ (c=i):=by omega
      have hclr:=fun ty=>run_clear_cells (P:=Tryd.prog) wr 42 40 ty (.agg #[.int .u8 0,.string ByteArray.empty,.int .i64 0,.int .i64 0,.int .i64 0,.slice none 0 0,.slice none 0 0,.bool false,.int .u8 0,.string ByteArray.empty,.int .i64 0,.int .i64 0,.int .i64 0,.int .i64 0,.slice none 0 0,.slice none 0 0]) #[.int .u8 0,.string ByteArray.empty,.int .i64 0,.int .i64 0,.int .i64 0,.slice none 0 0,.slice none 0 0,.bool false,.int .u8 0,.string ByteArray.empty,.int .i64 0,.int .i64 0,.int .i64 0,.int .i64 0,.slice none 0 0,.slice none 0 0] Tryd.underlying42 Tryd.zeroValue40 rfl (by simp[Value.oneCell']) (by simp) g (i * 16) (j - i) (c - i) (by omega) (fun k hk=>by
       have hk':k<(j - i) * 16:=hk
       rw[Ho.out.cellAt _ (by omega),qj (by rw[Ho.out.1]; omega)]; rfl) (fun k hk=>Ho.out.frozenAt _)
      go_wp2_with fail;go_ret;obtain⟨cs',hs1,hs2,hs3⟩:=ownsRow_setCells (Builtin.zeroCells #[.int .u8 0,.string ByteArray.empty,.int .i64 0,.int .i64 0,.int .i64 0,.slice none 0 0,.slice none 0 0,.bool false,.int .u8 0,.string ByteArray.empty,.int .i64 0,.int .i64 0,.int .i64 0,.int .i64 0,.slice none 0 0,.slice none 0 0] (j - i)).toList cs (i * 16) wr Ho.out
      have hkeep:∀ q:Addr,q.block<B→(wr.setCells g (i * 16) (Builtin.zeroCells #[.int .u8 0,.string ByteArray.empty,.int .i64 0,.int .i64 0,.int .i64 0,.slice none 0 0,.slice none 0 0,.bool false,.int .u8 0,.string ByteArray.empty,.int .i64 0,.int .i64 0,.int .i64 0,.int .i64 0,.slice none 0 0,.slice none 0 0] (j - i)).toList).cell? q=wr.cell? q:=by
       intro q hq
       rcases Nat.lt_or_ge q.block wr.heap.size with h | h
       · exact World.cell?_of_block (hs3.block q.block h (by simp; omega))
       · omega
      refine⟨_,i,rfl,.inr ⟨g,c,rfl⟩,⟨?_,_,ownsRow_cut hs1 (by omega),?_⟩,hbel.grown hs3 (Nat.le_trans hbase hsz) (fun k hk=>by injection hk with hk; omega)⟩
      · rw[← Hall.out]; exact Hi.out.symm
      · intro x hx
        have hx':x<((ts.take j).filter fun t=>!pD t).length:=by rw[Hall.out]; exact hx
        have h1:=Hpre.out x hx'
        have hxi:x<i:=by rw[Hi.out]; exact hx'
        have e1:((ts.take j).filter fun t=>!pD t)[x]=(ts.filter fun t=>!pD t)[x]:=by
         congr 1
         rw[Hall.out]
        rw[e1] at h1;exact((h1.keep hkeep).congr fun k h2 h3=>hs2 k (by omega)).cut hxi
theorem headE_ok {s s':SigD} {d:DeclD} (h:headE s d=.ok s'):s'=⟨s.datas++[⟨d.name,d.params.length,[]⟩],s.cons⟩∧s.datas.length<40∧d.params.length≤4:=by
 unfold headE at h
 split at h
 · cases h
 · split at h
   · cases h
   · split at h
     · cases h
     · split at h
       · cases h
       · split at h
         · cases h
         · injection h with h
           exact⟨h.symm,by omega,by omega⟩
structure HdB (n:Nat) (s:SigD):Prop where
 dl:s.datas.length=9+n
 le:s.datas.length≤40
 cs:s.cons=givenS.cons
 sb:SigB s
theorem given_datas:givenS.datas.length=9:=gv_datas 15
theorem given_cons:givenS.cons.length=15:=by decide +kernel
theorem given_B:HdB 0 givenS:=by
 refine⟨by rw[given_datas],by rw[given_datas]; omega,rfl,⟨by rw[given_cons]; omega,fun y hy=>?_,?_,by rw[given_datas]; omega⟩⟩
 · have:=gv_nums 15 y hy
   rw[given_cons];exact this
 · decide +kernel
theorem HdB.next {n:Nat} {s s':SigD} {d:DeclD} (h:HdB n s) (he:headE s d=.ok s'):HdB (n+1) s':=by
 obtain⟨rfl,h1,h2⟩:=headE_ok he;refine⟨?_,?_,h.cs,⟨h.sb.ln,fun y hy=>?_,fun y hy=>?_,?_⟩⟩
 · show(s.datas++[_]).length=_
   rw[List.length_append,h.dl]; rfl
 · show(s.datas++[_]).length≤_
   rw[List.length_append,List.length_singleton]; omega
 · rcases List.mem_append.1 hy with q | q
   · exact h.sb.nm y q
   · rw[List.mem_singleton.1 q]; exact Nat.zero_le _
 · rcases List.mem_append.1 hy with q | q
   · exact h.sb.pr y q
   · rw[List.mem_singleton.1 q]
     show(d.params.length:Int)≤_;omega
 · show(s.datas++[_]).length≤_
   rw[List.length_append,List.length_singleton]; omega
theorem heads_B:∀ (l:List DeclD) (n:Nat) (s s':SigD),HdB n s→foldE headE s l=.ok s'→HdB (n+l.length) s'
 | [],n,s,s',h,he=>by injection he with he; rw[← he]; exact h
 | d :: l,n,s,s',h,he=>by
   simp only[foldE] at he
   cases hd:headE s d with
   | error g=>rw[hd] at he; cases he
   | ok s1=>
     rw[hd] at he;have:=heads_B l (n+1) s1 s' (h.next hd) he
     rw[List.length_cons,show n+(l.length+1)=n+1+l.length from by omega]
     exact this
theorem FoldP.ok {S X:Type} {step:S→X→Except DiagD S} {s0 s:S} {d0 d:DiagD} {l:List X} (hne:∀ s x g,step s x=.error g→g.e≠0) (h:FoldP step s0 d0 l s d) (h0:d0.e=0) (hd:d.e=0):foldE step s0 l=.ok s∧d=d0:=by
 obtain⟨h1,h2⟩:=h;rw[then_z h0] at h1;have hn:=foldE_ne hne l s0;generalize foldE step s0 l=E at h1 h2 hn
 cases E with
 | error g=>
   have h1':d=g:=h1;rw[h1'] at hd;exact absurd hd (hn g rfl)
 | ok z=>
   have:=h2 z h0 rfl;subst this;exact⟨rfl,h1⟩
structure CkF (base g lo:Nat) (wh wx:World):Prop where
 os:wx.os=wh.os
 tape:wx.tape=wh.tape
 output:wx.output=wh.output
 size:wh.heap.size≤wx.heap.size
 block:∀ k,k<wh.heap.size→k≠g→(k<base∨lo≤k)→wx.heap[k]?=wh.heap[k]?
structure CkS (base g lo:Nat) (wh:World) (s:SigD) (vd vc:Value) (vs:List Value) (d:DiagD) (wx:World):Prop where
 bk:Blk wx g 91 (mkC vd vc d)
 sm:SigM wx base (fun b=>b=g∨b<base) s vd vc vs
 no:¬ RowB vd vc vs g
 rw_:∀ b,RowB vd vc vs b→b<lo∨wh.heap.size≤b
 fr:CkF base g lo wh wx
 gw:g<wh.heap.size
section
variable {base g lo:Nat} {wh wx wy:World} {s s':SigD} {vd vc vd' vc':Value} {vs vs':List Value} {d d':DiagD}
theorem CkF.below (h:CkF base g lo wh wx) (hb:Below wx.heap.size wx wy):CkF base g lo wh wy:=
 ⟨hb.os.trans h.os,hb.tape.trans h.tape,hb.output.trans h.output,Nat.le_trans h.size hb.size,fun k hk h1 h2=>(hb.block k (Nat.lt_of_lt_of_le hk h.size)).trans (h.block k hk h1 h2)⟩
theorem CkS.below (h:CkS base g lo wh s vd vc vs d wx) (hb:Below wx.heap.size wx wy):CkS base g lo wh s vd vc vs d wy:=
 ⟨h.bk.below hb h.bk.lt,h.sm.below hb,h.no,h.rw_,h.fr.below hb,h.gw⟩
theorem CkS.next (h:CkS base g lo wh s vd vc vs d wx) (hk:Blk wy g 91 (mkC vd' vc' d')) (hs:SigM wy base (fun b=>b=g∨b<base) s' vd' vc' vs') (hb:ButS g (RowB vd vc vs) wx wy) (hr:∀ b,RowB vd' vc' vs' b→RowB vd vc vs b∨wx.heap.size≤b):CkS base g lo wh s' vd' vc' vs' d' wy:=by
 refine⟨hk,hs,fun e=>?_,fun b e=>?_,⟨hb.os.trans h.fr.os,hb.tape.trans h.fr.tape,hb.output.trans h.fr.output,Nat.le_trans h.fr.size hb.size,fun k hk h1 h2=>(hb.block k (Nat.lt_of_lt_of_le hk h.fr.size) h1 fun e=>?_).trans (h.fr.block k hk h1 h2)⟩,h.gw⟩
 · rcases hr g e with q | q
   · exact h.no q
   · have:=h.bk.lt; omega
 · rcases hr b e with q | q
   · exact h.rw_ b q
   · exact Or.inr (Nat.le_trans h.fr.size q)
 · have h3:=(h.sm.rowB e).1
   rcases h.rw_ k e with q | q <;> omega
theorem CkS.cell (h:CkS base g lo wh s vd vc vs d wx) {p:Addr} (hp:p.block<wh.heap.size) (hg:p.block≠g) (hb:p.block<base∨lo≤p.block):wx.cell? p=wh.cell? p:=World.cell?_of_block (h.fr.block p.block hp hg hb)
theorem CkS.own (h:CkS base g lo wh s vd vc vs d wx) {B:Nat} {v:Value} {m:Nat} {l:List DeclD} (ho:OwnD wh lo B v m l) (hB:B≤base) (hBg:B≤g) (hBw:B≤wh.heap.size) (hg:g<lo):OwnD wx lo B v m l:=by
 obtain⟨h0,cs,h1,h2⟩:=ho;refine⟨h0,cs,own_block h1 fun b e=>?_,fun i hi=>(h2 i hi).keep fun p hp=>h.cell (by omega) (by omega) (by omega)⟩;have:=own_lt h1 e;exact h.fr.block b this.2 (by omega) (by omega)
end
end Go.Proofs.YtgpeijkjmkocgaaDoor
