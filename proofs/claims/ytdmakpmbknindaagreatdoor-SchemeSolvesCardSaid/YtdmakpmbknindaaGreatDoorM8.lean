import Derived.Test.YtdmakpmbknindaaGreatDoorM7
import Derived.Laws.CopyOwn
import Derived.Deep.RegionLaw
set_option linter.unusedVariables false
set_option linter.unusedSimpArgs false
set_option maxHeartbeats 1000000
set_option maxRecDepth 100000
namespace Go.Proofs.YtdmakpmbknindaaGreatDoor
def webE (xs:List IneqD) (u:Nat):List IneqD:=xs.filter fun x=>x.lc==0&&x.lv==(u:Int)
theorem mem_web {xs:List IneqD} {u:Nat} {x:IneqD}:x∈webE xs u↔x∈xs∧x.lc=0∧x.lv=(u:Int):=by
 unfold webE;rw[List.mem_filter];simp
theorem web_len (xs:List IneqD) (u:Nat):(webE xs u).length≤xs.length:=List.length_filter_le _ _
def ToldE (n:Nat) (xs:List IneqD) (c:Int) (v:Nat) (y:Int × Int):Prop:=
 (0≤y.1→y.2=c∧y.1<n∧PathE xs c v y.1.toNat)∧(y.1<0→y.1 = -1∧∃ (u:Nat) (x:IneqD),PathE xs c v u∧x∈xs∧x.lc=0∧x.lv=(u:Int)∧x.r<0∧y.2=max c x.c)
structure AllE (n:Nat) (xs:List IneqD) (c:Int) (v:Nat) (ys:List (Int × Int)):Prop where
 told:∀ y∈ys,ToldE n xs c v y
 vars:∀ r,PathE xs c v r→r=v∨((r:Int),c)∈ys
 ups:∀ (u:Nat) (x:IneqD),PathE xs c v u→x∈xs→x.lc=0→x.lv=(u:Int)→x.r<0→((-1:Int),max c x.c)∈ys
structure BfsE (n:Nat) (xs:List IneqD) (c:Int) (v:Nat) (Q:List Nat) (p j:Nat) (ys:List (Int × Int)):Prop where
 q0:Q[0]?=some v
 nd:Q.Nodup
 lt:∀ r∈Q,r<n
 pa:∀ r∈Q,PathE xs c v r
 sent:∀ r∈Q,r=v∨((r:Int),c)∈ys
 told:∀ y∈ys,ToldE n xs c v y
 cl:∀ i u x,Q[i]?=some u→(i<p∧x∈webE xs u)∨(i=p∧x∈(webE xs u).take j)→(0≤x.r→x.c≤c→x.r.toNat∈Q)∧(x.r<0→((-1:Int),max c x.c)∈ys)
 ct:ys.length≤p * xs.length+j
section
variable {n:Nat} {xs:List IneqD} {c:Int} {v:Nat} {Q:List Nat} {p j:Nat} {ys:List (Int × Int)}
theorem BfsE.start (hv:v<n):BfsE n xs c v [v] 0 0 []:=
 ⟨rfl,by simp,fun r hr=>by simp at hr; omega,fun r hr=>by simp at hr; subst hr; exact .refl,fun r hr=>.inl (by simpa using hr),fun _ hy=>absurd hy (by simp),fun i u x _ h=>(by
  rcases h with ⟨h,_⟩ | ⟨_,h⟩
  · omega
  · simp at h),by simp⟩
theorem take_succ_mem {l:List IneqD} {j:Nat} (hj:j<l.length) {x:IneqD} (h:x∈l.take (j+1)):x∈l.take j∨x=l[j]:=by
 rw[List.take_succ_eq_append_getElem hj] at h
 rcases List.mem_append.1 h with h | h
 · exact .inl h
 · exact .inr (by simpa using h)
theorem BfsE.step (h:BfsE n xs c v Q p j ys) (hw:WellE n xs) {u:Nat} (hu:Q[p]?=some u) (hj:j<(webE xs u).length) {Q':List Nat} {ys':List (Int × Int)}
 (hc:let x:=(webE xs u)[j]; (x.r<0∧Q'=Q∧ys'=ys++[(-1,max c x.c)])∨(0≤x.r∧x.c≤c∧x.r.toNat∉Q∧Q'=Q++[x.r.toNat]∧ys'=ys++[(x.r,c)])∨(0≤x.r∧(¬ x.c≤c∨x.r.toNat∈Q)∧Q'=Q∧ys'=ys)):BfsE n xs c v Q' p (j+1) ys':=by
 have hm:=mem_web.1 (List.getElem_mem hj);have hup:=h.pa u (List.mem_of_getElem? hu);obtain⟨x,hx⟩:∃ x,(webE xs u)[j]=x:=⟨_,rfl⟩;simp only[hx] at hc;rw[hx] at hm;have hrn:=(hw x hm.1).1.r
 rcases hc with ⟨hr,rfl,rfl⟩ | ⟨hr,hcc,hq,rfl,rfl⟩ | ⟨hr,hcc,rfl,rfl⟩
 · refine⟨h.q0,h.nd,h.lt,h.pa,fun r hr'=>(h.sent r hr').imp id fun h=>List.mem_append_left _ h,fun y hy=>?_,fun i u' x' hu' hx'=>?_,?_⟩
   · rcases List.mem_append.1 hy with hy | hy
     · exact h.told y hy
     · rw[List.mem_singleton] at hy
       subst hy
       exact⟨fun h=>absurd h (by show ¬ (0:Int) ≤ -1; omega),fun _=>⟨rfl,u,x,hup,hm.1,hm.2.1,hm.2.2,hr,rfl⟩⟩
   · have old:∀ (h':(i<p∧x'∈webE xs u')∨(i=p∧x'∈(webE xs u').take j)),(0≤x'.r→x'.c≤c→x'.r.toNat∈Q')∧(x'.r<0→((-1:Int),max c x'.c)∈ys++[(-1,max c x.c)]):=fun h'=>⟨(h.cl i u' x' hu' h').1,fun q=>List.mem_append_left _ ((h.cl i u' x' hu' h').2 q)⟩
     rcases hx' with hx' | ⟨rfl,hx'⟩
     · exact old (.inl hx')
     · obtain rfl:u'=u:=by rw[hu] at hu'; injection hu' with e; exact e.symm
       rcases take_succ_mem hj hx' with hx' | hx'
       · exact old (.inr ⟨rfl,hx'⟩)
       · rw[hx] at hx'
         subst hx'
         exact⟨fun q=>by omega,fun _=>by simp⟩
   · rw[List.length_append]
     have:=h.ct;simp only[List.length_cons,List.length_nil];omega
 · have hp2:=PathE.step x hup hm.1 hm.2.1 hm.2.2 hcc hr
   refine⟨?_,?_,fun r hr'=>?_,fun r hr'=>?_,fun r hr'=>?_,fun y hy=>?_,fun i u' x' hu' hx'=>?_,?_⟩
   · rw[List.getElem?_append_left (by have:=List.getElem?_eq_some_iff.1 h.q0; exact this.1)]; exact h.q0
   · rw[List.nodup_append]
     exact⟨h.nd,by simp,fun a ha b hb=>by rw[List.mem_singleton] at hb; subst hb; rintro rfl; exact hq ha⟩
   · rcases List.mem_append.1 hr' with hr' | hr'
     · exact h.lt r hr'
     · rw[List.mem_singleton] at hr'; omega
   · rcases List.mem_append.1 hr' with hr' | hr'
     · exact h.pa r hr'
     · rw[List.mem_singleton] at hr'; subst hr'; exact hp2
   · rcases List.mem_append.1 hr' with hr' | hr'
     · exact(h.sent r hr').imp id fun h=>List.mem_append_left _ h
     · rw[List.mem_singleton] at hr'
       subst hr'
       exact .inr (by rw[Int.toNat_of_nonneg hr]; simp)
   · rcases List.mem_append.1 hy with hy | hy
     · exact h.told y hy
     · rw[List.mem_singleton] at hy
       subst hy
       exact⟨fun _=>⟨rfl,hrn,hp2⟩,fun h=>absurd h (by show ¬ x.r<0; omega)⟩
   · have hlt:i<Q.length:=by
      have hpl:=(List.getElem?_eq_some_iff.1 hu).1
      rcases hx' with ⟨h1,_⟩ | ⟨h1,_⟩ <;> omega
     rw[List.getElem?_append_left hlt] at hu';have old:∀ (h':(i<p∧x'∈webE xs u')∨(i=p∧x'∈(webE xs u').take j)),(0≤x'.r→x'.c≤c→x'.r.toNat∈Q++[x.r.toNat])∧(x'.r<0→((-1:Int),max c x'.c)∈ys++[(x.r,c)]):=fun h'=>⟨fun q1 q2=>List.mem_append_left _ ((h.cl i u' x' hu' h').1 q1 q2),fun q=>List.mem_append_left _ ((h.cl i u' x' hu' h').2 q)⟩
     rcases hx' with hx' | ⟨rfl,hx'⟩
     · exact old (.inl hx')
     · obtain rfl:u'=u:=by rw[hu] at hu'; injection hu' with e; exact e.symm
       rcases take_succ_mem hj hx' with hx' | hx'
       · exact old (.inr ⟨rfl,hx'⟩)
       · rw[hx] at hx'
         subst hx'
         exact⟨fun _ _=>by simp,fun q=>by omega⟩
   · rw[List.length_append]
     have:=h.ct;simp only[List.length_cons,List.length_nil];omega
 · refine⟨h.q0,h.nd,h.lt,h.pa,h.sent,h.told,fun i u' x' hu' hx'=>?_,by have:=h.ct; omega⟩
   rcases hx' with hx' | ⟨rfl,hx'⟩
   · exact h.cl i u' x' hu' (.inl hx')
   · obtain rfl:u'=u:=by rw[hu] at hu'; injection hu' with e; exact e.symm
     rcases take_succ_mem hj hx' with hx' | hx'
     · exact h.cl i u' x' hu' (.inr ⟨rfl,hx'⟩)
     · rw[hx] at hx'
       subst hx'
       exact⟨fun _ q2=>hcc.elim (fun q=>absurd q2 q) id,fun q=>by omega⟩
theorem BfsE.next (h:BfsE n xs c v Q p j ys) {u:Nat} (hu:Q[p]?=some u) (hj:j=(webE xs u).length):BfsE n xs c v Q (p+1) 0 ys:=by
 refine⟨h.q0,h.nd,h.lt,h.pa,h.sent,h.told,fun i u' x hu' hx=>?_,?_⟩
 · rcases hx with ⟨hi,hx⟩ | ⟨_,hx⟩
   · by_cases hip:i=p
     · subst hip
       obtain rfl:u'=u:=by rw[hu] at hu'; injection hu' with e; exact e.symm
       exact h.cl i u' x hu' (.inr ⟨rfl,by rw[hj,List.take_length]; exact hx⟩)
     · exact h.cl i u' x hu' (.inl ⟨by omega,hx⟩)
   · simp at hx
 · have h1:=h.ct
   have h2:=web_len xs u;rw[Nat.add_mul,Nat.one_mul];omega
theorem BfsE.done (h:BfsE n xs c v Q p j ys) (hp:p=Q.length):AllE n xs c v ys:=by
 have hall:∀ u,u∈Q→∀ x∈webE xs u,(0≤x.r→x.c≤c→x.r.toNat∈Q)∧(x.r<0→((-1:Int),max c x.c)∈ys):=fun u hu x hx=>by
  obtain⟨i,hi,rfl⟩:=List.getElem_of_mem hu
  exact h.cl i _ x (qj hi) (.inl ⟨by omega,hx⟩)
 have hin:∀ r,PathE xs c v r→r∈Q:=fun r hr=>by
  induction hr with
  | refl=>exact List.mem_of_getElem? h.q0
  | step x hp' hx h0 hu hc hr ih=>exact(hall _ ih x (mem_web.2 ⟨hx,h0,hu⟩)).1 hr hc
 exact⟨h.told,fun r hr=>h.sent r (hin r hr),fun u x hu hx h0 hl hr=>(hall u (hin u hu) x (mem_web.2 ⟨hx,h0,hl⟩)).2 hr⟩
theorem BfsE.len (h:BfsE n xs c v Q p j ys):Q.length≤n:=by
 have:=h.nd
 have key:∀ (N:Nat) (l:List Nat),l.Nodup→(∀ x∈l,x<N)→l.length≤N:=by
  intro N
  induction N with
  | zero=>
    intro l _ h
    cases l with
    | nil=>simp
    | cons x l=>exact absurd (h x (by simp)) (by omega)
  | succ N ih=>
    intro l hd h
    by_cases hm:N∈l
    · have h1:=ih (l.erase N) (hd.erase N) (fun x hx=>by
       have h2:=(hd.mem_erase_iff).1 hx;have:=h x h2.2;have:=h2.1
       omega)
      rw[List.length_erase_of_mem hm] at h1;omega
    · have:=ih l hd (fun x hx=>by
       have:=h x hx
       have:x≠N:=fun e=>hm (by rw[← e]; exact hx)
       omega)
      omega
 exact key n Q h.nd h.lt
theorem BfsE.few (h:BfsE n xs c v Q p j ys) {u:Nat} (hu:Q[p]?=some u) (hj:j<(webE xs u).length):ys.length<(n+1) * (xs.length+1):=by
 have h1:=h.ct;have h2:=web_len xs u;have h3:=(List.getElem?_eq_some_iff.1 hu).1;have h4:=h.len;have h5:p * xs.length≤n * xs.length:=Nat.mul_le_mul_right _ (by omega)
 have h6:(n+1) * (xs.length+1)=n * xs.length+n+(xs.length+1):=by rw[Nat.add_mul,Nat.mul_add]; omega
 omega
end
def lineS:List Int × Int→List (Int × Int)→List Int × Int
 | s,[]=>s
 | s,y :: r=>lineS (if y.1<0 then (s.1,min s.2 y.2) else (s.1.set y.1.toNat y.2,s.2)) r
theorem lineS_snoc (s:List Int × Int) (ys:List (Int × Int)) (y:Int × Int):lineS s (ys++[y])=(if y.1<0 then ((lineS s ys).1,min (lineS s ys).2 y.2) else ((lineS s ys).1.set y.1.toNat y.2,(lineS s ys).2)):=by
 induction ys generalizing s with
 | nil=>rfl
 | cons z r ih=>rw[List.cons_append,lineS,ih,lineS]
theorem lineS_len (s:List Int × Int) (ys:List (Int × Int)):(lineS s ys).1.length=s.1.length:=by
 induction ys generalizing s with
 | nil=>rfl
 | cons y r ih=>
   rw[lineS,ih]
   split
   · rfl
   · simp
theorem lineS_to {n:Nat} {c:Int} (ys:List (Int × Int)) (hy:∀ y∈ys,0≤y.1→y.2=c∧y.1<n):∀ (s:List Int × Int),s.1.length=n→∀ r:Nat,r<n→(lineS s ys).1.getD r 0=if ((r:Int),c)∈ys then c else s.1.getD r 0:=by
 induction ys with
 | nil=>intro s _ r _; simp[lineS]
 | cons y ys ih=>
   intro s hs r hr;have ih:=ih fun z hz=>hy z (List.mem_cons_of_mem _ hz);rw[lineS]
   by_cases h0:y.1<0
   · rw[if_pos h0,ih (s.1,min s.2 y.2) hs r hr]
     have:((r:Int),c)∈y :: ys↔((r:Int),c)∈ys:=by
      rw[qk];refine⟨fun h=>h.elim (fun e=>?_) id,.inr⟩;rw[← e] at h0
      exact absurd h0 (by show ¬ (r:Int)<0; omega)
     by_cases hm:((r:Int),c)∈ys
     · rw[if_pos hm,if_pos (this.2 hm)]
     · rw[if_neg hm,if_neg fun h=>hm (this.1 h)]
   · obtain⟨e1,e2⟩:=hy y (by simp) (by omega)
     rw[if_neg h0,ih _ (by rw[List.length_set]; exact hs) r hr]
     by_cases hm:((r:Int),c)∈ys
     · rw[if_pos hm,if_pos (List.mem_cons_of_mem _ hm)]
     · rw[if_neg hm,getD_set' _ _ _ _ _ (by omega)]
       by_cases hyr:y.1.toNat=r
       · rw[if_pos hyr,if_pos]
         · exact e1
         · have:y=((r:Int),c):=Prod.ext (by show y.1=(r:Int); omega) e1
           rw[this]; simp
       · rw[if_neg hyr,if_neg]
         rw[qk]
         rintro(h | h)
         · exact hyr (by rw[← h]; simp)
         · exact hm h
theorem lineS_up (ys:List (Int × Int)):∀ (s:List Int × Int),(lineS s ys).2≤s.2∧(∀ y∈ys,y.1<0→(lineS s ys).2≤y.2)∧((lineS s ys).2=s.2∨∃ y∈ys,y.1<0∧(lineS s ys).2=y.2):=by
 induction ys with
 | nil=>intro s; exact⟨Int.le_refl _,fun _ hy=>absurd hy (by simp),Or.inl rfl⟩
 | cons y ys ih=>
   intro s;rw[lineS]
   by_cases h0:y.1<0
   · rw[if_pos h0]
     obtain⟨h1,h2,h3⟩:=ih (s.1,min s.2 y.2);have h1:(lineS (s.1,min s.2 y.2) ys).2≤min s.2 y.2:=h1
     refine⟨by omega,fun z hz hz0=>?_,?_⟩
     · rcases qk.1 hz with rfl | hz
       · omega
       · exact h2 z hz hz0
     · rcases h3 with h3 | ⟨z,hz,hz0,e⟩
       · have h3:(lineS (s.1,min s.2 y.2) ys).2=min s.2 y.2:=h3
         by_cases hc:s.2≤y.2
         · exact .inl (by omega)
         · exact .inr ⟨y,by simp,h0,by omega⟩
       · exact .inr ⟨z,List.mem_cons_of_mem _ hz,hz0,e⟩
   · rw[if_neg h0]
     obtain⟨h1,h2,h3⟩:=ih (s.1.set y.1.toNat y.2,s.2);refine⟨h1,fun z hz hz0=>?_,h3.imp id fun⟨z,hz,q⟩=>⟨z,List.mem_cons_of_mem _ hz,q⟩⟩
     rcases qk.1 hz with rfl | hz
     · exact absurd hz0 h0
     · exact h2 z hz hz0
theorem PathE.mono {xs:List IneqD} {c c':Int} (h:c≤c') {v r:Nat} (hp:PathE xs c v r):PathE xs c' v r:=by
 induction hp with
 | refl=>exact .refl
 | step x hp hx h0 hu hc hr ih=>exact .step x ih hx h0 hu (by omega) hr
theorem line_of {n:Nat} {xs:List IneqD} {v:Nat} (hw:WellE n xs) (hv:v<n) {y2 y1:List (Int × Int)} (h2:AllE n xs 2 v y2) (h1:AllE n xs 1 v y1) {to:List Int} {up:Int}
 (hs:lineS (lineS (List.replicate n 3,3) y2) y1=(to,up)):LineE n xs v (to.set v 1) up:=by
 have t2:∀ y∈y2,0≤y.1→y.2=2∧y.1<n:=fun y hy h=>⟨((h2.told y hy).1 h).1,((h2.told y hy).1 h).2.1⟩;have t1:∀ y∈y1,0≤y.1→y.2=1∧y.1<n:=fun y hy h=>⟨((h1.told y hy).1 h).1,((h1.told y hy).1 h).2.1⟩
 have l2:(lineS (List.replicate n (3:Int),3) y2).1.length=n:=by rw[lineS_len]; simp
 have hlen:to.length=n:=by
  have:=lineS_len (lineS (List.replicate n (3:Int),3) y2) y1;rw[hs,l2] at this;exact this
 have hat:∀ r,r<n→(to.set v 1).getD r 0=if r=v then 1 else if ((r:Int),(1:Int))∈y1 then 1 else if ((r:Int),(2:Int))∈y2 then 2 else 3:=fun r hr=>by
  rw[getD_set' _ _ _ _ _ (by omega)]
  by_cases e:v=r
  · rw[if_pos e,if_pos e.symm]
  · rw[if_neg e,if_neg fun h=>e h.symm]
    have e1:=lineS_to y1 t1 _ l2 r hr;rw[hs] at e1;rw[e1];have e2:=lineS_to y2 t2 (List.replicate n (3:Int),3) (by simp) r hr;rw[e2]
    have:(List.replicate n (3:Int)).getD r 0=3:=by simp[List.getD,hr]
    rw[this]
 have p1:∀ r:Nat,((r:Int),(1:Int))∈y1→PathE xs 1 v r:=fun r hm=>by simpa using ((h1.told _ hm).1 (by show(0:Int)≤r; omega)).2.2
 have p2:∀ r:Nat,((r:Int),(2:Int))∈y2→PathE xs 2 v r:=fun r hm=>by simpa using ((h2.told _ hm).1 (by show(0:Int)≤r; omega)).2.2
 obtain⟨u1,u2,u3⟩:=lineS_up y2 (List.replicate n (3:Int),3);obtain⟨w1,w2,w3⟩:=lineS_up y1 (lineS (List.replicate n (3:Int),3) y2);rw[hs] at w1 w2 w3;have u1:(lineS (List.replicate n (3:Int),3) y2).2≤3:=u1;have hneg:∀ c ys,AllE n xs c v ys→∀ y∈ys,y.1<0→∃ (u:Nat) (x:IneqD),PathE xs c v u∧x∈xs∧x.lc=0∧x.lv=(u:Int)∧x.r<0∧y.2=max c x.c:=fun c ys ha y hy h=>((ha.told y hy).2 h).2
 have hupAt:up=3∨∃ c:Int,(c=1∨c=2)∧∃ (u:Nat) (x:IneqD),PathE xs c v u∧x∈xs∧x.lc=0∧x.lv=(u:Int)∧x.r<0∧up=max c x.c:=by
  have w3:up=(lineS (List.replicate n (3:Int),3) y2).2∨∃ y∈y1,y.1<0∧up=y.2:=w3
  rcases w3 with e | ⟨y,hy,h0,e⟩
  · rcases u3 with e2 | ⟨y,hy,h0,e2⟩
    · exact .inl (by rw[e,e2])
    · obtain⟨u,x,q⟩:=hneg 2 y2 h2 y hy h0
      exact .inr ⟨2,.inr rfl,u,x,by rw[e,e2]; exact q⟩
  · obtain⟨u,x,q⟩:=hneg 1 y1 h1 y hy h0
    exact .inr ⟨1,.inl rfl,u,x,by rw[e]; exact q⟩
 refine⟨by simp[hlen],fun r hr=>?_,fun r hr c hc=>?_,?_,?_,fun c hc u x hp hx h0 hl hr=>?_,hupAt⟩
 · rw[hat r hr]
   split
   · omega
   · split
     · omega
     · split <;> omega
 · rw[hat r hr]
   by_cases e:r=v
   · subst e
     rw[if_pos rfl]
     exact⟨fun _=>.refl,fun _=>by omega⟩
   · rw[if_neg e]
     by_cases m1:((r:Int),(1:Int))∈y1
     · rw[if_pos m1]
       exact⟨fun _=>(p1 r m1).mono (by omega),fun _=>by omega⟩
     · rw[if_neg m1]
       have n1:¬ PathE xs 1 v r:=fun h=>(h1.vars r h).elim e m1
       by_cases m2:((r:Int),(2:Int))∈y2
       · rw[if_pos m2]
         rcases hc with rfl | rfl
         · exact⟨fun h=>absurd h (by omega),fun h=>absurd h n1⟩
         · exact⟨fun _=>p2 r m2,fun _=>by omega⟩
       · rw[if_neg m2]
         have n2:¬ PathE xs 2 v r:=fun h=>(h2.vars r h).elim e m2
         rcases hc with rfl | rfl
         · exact⟨fun h=>absurd h (by omega),fun h=>absurd h n1⟩
         · exact⟨fun h=>absurd h (by omega),fun h=>absurd h n2⟩
 · rcases hupAt with e | ⟨c,hc,u,x,_,hx,_,_,_,e⟩
   · omega
   · have:=(hw x hx).2
     omega
 · have w1:up≤(lineS (List.replicate n (3:Int),3) y2).2:=w1
   omega
 · rcases hc with rfl | rfl
   · exact w2 _ (h1.ups u x hp hx h0 hl hr) (by show(-1:Int)<0; omega)
   · have h3:=u2 _ (h2.ups u x hp hx h0 hl hr) (by show(-1:Int)<0; omega)
     have w1:up≤(lineS (List.replicate n (3:Int),3) y2).2:=w1;have h3:(lineS (List.replicate n (3:Int),3) y2).2≤max 2 x.c:=h3;omega
def solB (n:Nat) (xs:List IneqD) (f:List Int):Bool:=decide (f.length=n)&&f.all (fun z=>decide (1≤z)&&decide (z≤3))&&xs.all fun x=>decide (leftL f x≤if 0≤x.r then max x.c (f.getD x.r.toNat 0) else x.c)
theorem solB_sol {n:Nat} {xs:List IneqD} {f:List Int} (h:solB n xs f=true):SolE n xs f:=by
 unfold solB at h;simp only[Bool.and_eq_true,decide_eq_true_eq,List.all_eq_true] at h;refine⟨⟨h.1.1,fun v hv=>?_⟩,fun x hx=>h.2 x hx⟩
 have hv':v<f.length:=by omega
 have:=h.1.2 f[v] (List.getElem_mem hv');rw[List.getD_eq_getElem?_getD,qj hv'];exact this
theorem lt2 {i:Nat} (h:i<2):i=0∨i=1:=by omega
theorem tab_two {n:Nat} {xs:List IneqD} {u v:Nat} {l0 l1 u0 u1 p q:Int} (hr:1≤l0∧l0≤3∧1≤l1∧l1≤3∧1≤u0∧u0≤3∧1≤u1∧u1≤3∧1≤p∧p≤3∧1≤q∧q≤3)
 (hl:∀ f,SolE n xs f→l0≤f.getD u 0∧f.getD u 0≤u0∧l1≤f.getD v 0∧f.getD v 0≤u1∧f.getD u 0≤max p (f.getD v 0)∧f.getD v 0≤max q (f.getD u 0))
 (fl fu gl gu fp fq:List Int) (h1:solB n xs fl=true∧fl.getD u 0=l0) (h2:solB n xs fu=true∧fu.getD u 0=u0) (h3:solB n xs gl=true∧gl.getD v 0=l1) (h4:solB n xs gu=true∧gu.getD v 0=u1)
 (h5:p=1∨(solB n xs fp=true∧fp.getD u 0=p∧fp.getD v 0<fp.getD u 0)) (h6:q=1∨(solB n xs fq=true∧fq.getD v 0=q∧fq.getD u 0<fq.getD v 0)):
 TabOf 2 (KeptE n xs [u,v]) ⟨[l0,l1],[u0,u1],[[1,p],[q,1]]⟩:=by
 refine⟨rfl,rfl,rfl,fun i hi=>?_,fun i hi=>?_,fun i hi=>?_,fun i j hi hj=>?_,fun a ha i hi=>?_,fun i hi=>?_,fun i hi=>?_,fun i j hi hj=>?_⟩
 · rcases lt2 hi with rfl | rfl <;> rfl
 · rcases lt2 hi with rfl | rfl
   · show 1≤l0∧l0≤3; omega
   · show 1≤l1∧l1≤3; omega
 · rcases lt2 hi with rfl | rfl
   · show 1≤u0∧u0≤3; omega
   · show 1≤u1∧u1≤3; omega
 · rcases lt2 hi with rfl | rfl <;> rcases lt2 hj with rfl | rfl
   · show(1:Int)≤1∧(1:Int)≤3; omega
   · show 1≤p∧p≤3; omega
   · show 1≤q∧q≤3; omega
   · show(1:Int)≤1∧(1:Int)≤3; omega
 · obtain⟨f,hf,rfl⟩:=ha
   have h:=hl f hf
   rcases lt2 hi with rfl | rfl
   · refine⟨h.1,h.2.1,fun j hj=>?_⟩
     rcases lt2 hj with rfl | rfl
     · show f.getD u 0≤max 1 (f.getD u 0); omega
     · exact h.2.2.2.2.1
   · refine⟨h.2.2.1,h.2.2.2.1,fun j hj=>?_⟩
     rcases lt2 hj with rfl | rfl
     · exact h.2.2.2.2.2
     · show f.getD v 0≤max 1 (f.getD v 0); omega
 · rcases lt2 hi with rfl | rfl
   · exact⟨_,⟨fl,solB_sol h1.1,rfl⟩,h1.2⟩
   · exact⟨_,⟨gl,solB_sol h3.1,rfl⟩,h3.2⟩
 · rcases lt2 hi with rfl | rfl
   · exact⟨_,⟨fu,solB_sol h2.1,rfl⟩,h2.2⟩
   · exact⟨_,⟨gu,solB_sol h4.1,rfl⟩,h4.2⟩
 · rcases lt2 hi with rfl | rfl <;> rcases lt2 hj with rfl | rfl
   · exact .inl rfl
   · exact h5.imp id fun h=>⟨_,⟨fp,solB_sol h.1,rfl⟩,h.2.1,h.2.2⟩
   · exact h6.imp id fun h=>⟨_,⟨fq,solB_sol h.1,rfl⟩,h.2.1,h.2.2⟩
   · exact .inl rfl
theorem hold_const {f:List Int} {x:IneqD} (h:holdL f x) (h0:x.lc≠0):x.lc≤if 0≤x.r then max x.c (f.getD x.r.toNat 0) else x.c:=by
 unfold holdL leftL at h;rw[if_neg h0] at h;exact h
end Go.Proofs.YtdmakpmbknindaaGreatDoor
namespace Go.Proofs.YtdmakpmbknindaaGreatDoor
open Go.RowKit Go.Conc
theorem made_one (z:Value) (hz:z.cells=#[z]) (N:Nat):madeCells z.cells N=(List.replicate N z).toArray:=by
 rw[hz];unfold madeCells
 apply Array.ext
 · simp
 · intro i h1 h2
   simp[Nat.mod_one]
theorem multInfo:(Tryz.prog.info? 22).map (fun i=>(i.zero,i.size,i.bytes))=some (some (.int .u8 0),1,1):=by kernel_rfl
theorem rowInfo:(Tryz.prog.info? 30).map (fun i=>(i.zero,i.size,i.bytes))=some (some (.slice none 0 0),1,24):=by kernel_rfl
theorem make_mult (N:Nat) (hN:N≤1048576) (w:World):(Instr.makeSlice 35 (.int .i64 N) (.int .i64 N)).run Tryz.prog w=.ok (.slice (some ⟨w.heap.size,0,none⟩) N N) (w.alloc (.cells (List.replicate N (.int .u8 0)).toArray 22)):=by
 obtain⟨i0,hi0,hi1,hi2,hi3⟩:=info_parts multInfo
 have h:=run_makeSlice (P:=Tryz.prog) w 35 22 i0 _ Tryz.underlying35 hi0 hi1 .i64 .i64 N N (by omega) (by omega) (by rw[hi2]; simp; omega) (by rw[hi3]; simp; omega) (by omega)
 rw[h]
 have:madeCells (.int .u8 0:Value).cells ((N:Int).toNat * i0.size)=(List.replicate N (.int .u8 0)).toArray:=by
  rw[hi2,Int.toNat_natCast,Nat.mul_one];exact made_one _ rfl N
 rw[this];simp
theorem make_int (N:Nat) (hN:N≤1048576) (w:World):(Instr.makeSlice 30 (.int .i64 N) (.int .i64 N)).run Tryz.prog w=.ok (.slice (some ⟨w.heap.size,0,none⟩) N N) (w.alloc (.cells (List.replicate N (.int .i64 0)).toArray 3)):=by
 obtain⟨i0,hi0,hi1,hi2,hi3⟩:=info_parts intInfo
 have h:=run_makeSlice (P:=Tryz.prog) w 30 3 i0 _ Tryz.underlying30 hi0 hi1 .i64 .i64 N N (by omega) (by omega) (by rw[hi2]; simp; omega) (by rw[hi3]; simp; omega) (by omega)
 rw[h]
 have:madeCells (.int .i64 0:Value).cells ((N:Int).toNat * i0.size)=(List.replicate N (.int .i64 0)).toArray:=by
  rw[hi2,Int.toNat_natCast,Nat.mul_one];exact made_one _ rfl N
 rw[this];simp
theorem make_rows (N:Nat) (hN:N≤1048576) (w:World):(Instr.makeSlice 128 (.int .i64 N) (.int .i64 N)).run Tryz.prog w=.ok (.slice (some ⟨w.heap.size,0,none⟩) N N) (w.alloc (.cells (List.replicate N (.slice none 0 0)).toArray 30)):=by
 obtain⟨i0,hi0,hi1,hi2,hi3⟩:=info_parts rowInfo
 have h:=run_makeSlice (P:=Tryz.prog) w 128 30 i0 _ Tryz.underlying128 hi0 hi1 .i64 .i64 N N (by omega) (by omega) (by rw[hi2]; simp; omega) (by rw[hi3]; simp; omega) (by omega)
 rw[h]
 have:madeCells (.slice none 0 0:Value).cells ((N:Int).toNat * i0.size)=(List.replicate N (.slice none 0 0)).toArray:=by
  rw[hi2,Int.toNat_natCast,Nat.mul_one];exact made_one _ rfl N
 rw[this];simp
theorem splice_rep (u z:Value) (n k m:Nat) (hm:k+m≤n):splice (List.replicate k u++List.replicate (n - k) z) k (List.replicate m u)=List.replicate (k+m) u++List.replicate (n - (k+m)) z:=by
 unfold splice;rw[List.take_left' (by simp),List.drop_append,List.drop_of_length_le (by simp),List.nil_append,List.drop_replicate,← List.append_assoc,List.replicate_append_replicate]
 congr 2
 simp;omega
theorem run_copy_at (w:World) (T ty E:TypeId) (g o dLen dCap:Nat) (a:Addr) (sLen sCap:Nat) (cur cs:List Value) (t:TypeId)
 (hu:Tryz.prog.underlying T=some (.slice E)) (hs:(Tryz.prog.info? E).map (·.size)=some 1) (hg:w.heap[g]?=some (.cells cur.toArray t (0,0))) (hn:cs.length=Nat.min sLen dLen)
 (hsrc:∀ j v,cs[j]?=some v→w.cell? (a.add j)=some v) (hfit:o+cs.length≤cur.length) (h1:∀ v∈cs,v.oneCell'=true) (B:Nat) (w0:World) (hb:Below B w0 w) (hB:B≤g):
 ∃ w2,(Builtin.copy_ #[T,T] ty #[.slice (some ⟨g,o,none⟩) dLen dCap,.slice (some a) sLen sCap]).run Tryz.prog w=.ok (.int .i64 (cs.length:Nat)) w2∧Blk w2 g t (splice cur o cs).toArray∧Below B w0 w2:=
 ⟨_,run_copy_row (P:=Tryz.prog) w T T ty E g o dLen dCap a sLen sCap cur.toArray t cs hu hs hg hn hsrc (by simpa using hfit) h1,by have:=setRow_heap w g cur.toArray (splice cur o cs).toArray t (0,0) hg; simpa[splice,Blk] using this,below_setRow hb hB _⟩
theorem repeat_mult (u:Value) (hu1:u.oneCell'=true) (n:Nat) (hn:n≤1048576) (A:Addr) (c:Nat) (w:World) (hA:w.cell? A=some u) (hAb:A.block<w.heap.size):
 Calls Tryz.prog 31 #[.slice (some A) 1 c,.int .i64 n] w fun e w'=>∃ g,e=.returned (.slice (some ⟨g,0,none⟩) n n)∧Blk w' g 22 (List.replicate n u).toArray∧w.heap.size≤g∧Below w.heap.size w w':=by
 have hmul:=Tryz.bits_Mul 1 n (by omega) (by omega) w
 rw[show 1 * n / 18446744073709551616=0 by omega,show 1 * n % 18446744073709551616=n by omega] at hmul
 have Hmul:=qq hmul;clear hmul;have hmk:=make_mult n hn
 have n63:n≤9223372036854775807:=by omega
 go_enter Tryz.func31,Tryz.ntmps31
 have d0:decide ((n:Int)<0)=false:=by simp
 have d1:decide ((n:Int)>9223372036854775807)=false:=by simp; omega
 go_wp2_with fail;refine Hmul.out.mono ?_;rintro e w1 ⟨rfl,rfl⟩;have hb1:Below w1.heap.size w1 (w1.alloc (.cells (Array.replicate n ((Value.int .u8 0))) 22)):=below_box _;have hg1:(w1.alloc (.cells (Array.replicate n ((Value.int .u8 0))) 22)).heap[w1.heap.size]?=some (.cells (List.replicate n ((Value.int .u8 0))).toArray 22 (0,0)):=(blk_new w1 (Array.replicate n ((Value.int .u8 0))) 22).trans (by simp)
 have hA1:∀ j v,(List.replicate (min 1 n) u)[j]?=some v→(w1.alloc (.cells (Array.replicate n ((Value.int .u8 0))) 22)).cell? (A.add j)=some v:=fun j v hj=>by
  obtain⟨hj1,hj2⟩:=List.getElem?_eq_some_iff.1 hj
  have hj0:j=0:=by simp at hj1; omega
  subst hj0;simp at hj2;subst hj2
  rw[show A.add 0=A from by unfold Addr.add; split <;> simp_all]
  exact(World.cell?_alloc_lt _ _ A hAb).trans hA
 obtain⟨w2,hcp,hg2,hb2⟩:=run_copy_at (w1.alloc (.cells (Array.replicate n ((Value.int .u8 0))) 22)) 35 3 22 w1.heap.size 0 n n A 1 c (List.replicate n ((Value.int .u8 0))) (List.replicate (min 1 n) u) 22 Tryz.underlying35 (by kernel_rfl) hg1 (by simp) hA1 (by simp; omega) (by intro v hv; rw[List.eq_of_mem_replicate hv]; exact hu1) w1.heap.size w1 hb1 (Nat.le_refl _)
 have hg3:Blk w2 w1.heap.size 22 (List.replicate (min 1 n) u++List.replicate (n - min 1 n) ((Value.int .u8 0))).toArray:=by
  have:=splice_rep u ((Value.int .u8 0):Value) n 0 (min 1 n) (by omega);simp only[List.replicate_zero,List.nil_append,Nat.sub_zero,Nat.zero_add] at this;rw[this] at hg2;exact hg2
 rw[List.length_replicate] at hcp;have H3:=qq hg3;clear hg2 hg1 hb1 hA1 hg3;go_wp2_with fail;have Hb2:=qq hb2;have Hsz:Hid (w1.heap.size<w2.heap.size):=qq H3.out.lt;clear hb2 hA hAb hcp
 go_loopg [8] (n - min 1 n) (fun gh i wr=>∃ k,k≤n∧gh=n - k∧i=.int .i64 (k:Nat)∧(0<k∨n=0)∧Blk wr w1.heap.size 22 (List.replicate k u++List.replicate (n - k) ((Value.int .u8 0))).toArray∧Below w1.heap.size w1 wr)
 case atStart=>exact⟨min 1 n,by omega,rfl,rfl,by omega,H3.out,Hb2.out⟩
 case round=>
  obtain⟨k,hk,rfl,rfl,hk0,hbk,hbel⟩:=hrel
  by_cases hkn:k<n
  · have i1:(0:Int)≤(k:Int):=by omega
    have i2:(k:Int)≤n:=by omega
    have i3:(k:Int)<n:=by omega
    have hnk:¬ n=k:=by omega
    have hbl:=hbk.lt
    have hsrc:∀ j v,(List.replicate (min k (n - k)) u)[j]?=some v→wr.drew.cell? (Addr.add ⟨w1.heap.size,0,none⟩ j)=some v:=fun j v hj=>by
     obtain⟨hj1,hj2⟩:=List.getElem?_eq_some_iff.1 hj;rw[List.length_replicate] at hj1;rw[List.getElem_replicate] at hj2;subst hj2
     rw[show Addr.add ⟨w1.heap.size,0,none⟩ j=⟨w1.heap.size,j,none⟩ from by unfold Addr.add; split <;> simp_all]
     show wr.cell? _=_;rw[Blk.cell hbk]
     have hj3:j<k:=by omega
     simp[List.getElem?_append,hj3]
    go_wp2_with fail;refine wp_region_noPanic ?_;refine wp_region_T (fun w'=>True) 10 (by kernel_rfl) trivial (fun hHeld=>?_)
    refine wpAnyT_take (i:=0) (v:=?_) rfl (by kernel_rfl) (by kernel_rfl) (by kernel_rfl) (by kernel_rfl) (fun _ _ _ h=>h) (Or.inl ⟨by rfl,?_⟩) (by assumption) ?_
    rotate_left
    · (intro w hSw; (try dsimp only at hSw); first | (go_simp; done) | (go_simp; with_reducible rfl))
    try simp only[Act.put,qg,qe,qf,qd,qh,qi]
    refine wpAnyT_take (i:=1) (v:=?_) rfl (by kernel_rfl) (by kernel_rfl) (by kernel_rfl) (by kernel_rfl) (fun _ _ _ h=>h) (Or.inl ⟨by rfl,?_⟩) (by assumption) ?_
    rotate_left
    · (intro w hSw; (try dsimp only at hSw); first | (go_simp; done) | (go_simp; with_reducible rfl))
    try simp only[Act.put,qg,qe,qf,qd,qh,qi]
    refine wpAnyT_take (i:=2) (v:=?_) rfl (by kernel_rfl) (by kernel_rfl) (by kernel_rfl) (by kernel_rfl) (fun _ _ _ h=>h) (Or.inl ⟨by rfl,?_⟩) (by assumption) ?_
    rotate_left
    · (intro w hSw; (try dsimp only at hSw); first | (go_simp; done) | (go_simp; with_reducible rfl))
    try simp only[Act.put,qg,qe,qf,qd,qh,qi]
    refine wpAnyT_take (i:=3) (v:=?_) rfl (by kernel_rfl) (by kernel_rfl) (by kernel_rfl) (by kernel_rfl) (fun _ _ _ h=>h) (Or.inl ⟨by rfl,?_⟩) (by assumption) ?_
    rotate_left
    · (intro w hSw; (try dsimp only at hSw); first | (go_simp; done) | (go_simp; with_reducible rfl))
    try simp only[Act.put,qg,qe,qf,qd,qh,qi]
    refine wpAnyT_take (i:=4) (v:=?_) rfl (by kernel_rfl) (by kernel_rfl) (by kernel_rfl) (by kernel_rfl) (fun _ _ _ h=>h) (Or.inl ⟨by rfl,?_⟩) (by assumption) ?_
    rotate_left
    · (intro w hSw; (try dsimp only at hSw); first | (go_simp; done) | (go_simp; with_reducible rfl))
    try simp only[Act.put,qg,qe,qf,qd,qh,qi]
    refine wpAnyT_take (i:=5) (v:=?_) rfl (by kernel_rfl) (by kernel_rfl) (by kernel_rfl) (by kernel_rfl) (fun _ _ _ h=>h) (Or.inl ⟨by rfl,?_⟩) (by assumption) ?_
    rotate_left
    · (intro w hSw; (try dsimp only at hSw); first | (go_simp; done) | (go_simp; with_reducible rfl))
    try simp only[Act.put,qg,qe,qf,qd,qh,qi]
    refine wpAnyT_take (i:=6) (v:=?_) rfl (by kernel_rfl) (by kernel_rfl) (by kernel_rfl) (by kernel_rfl) (fun _ _ _ h=>h) (Or.inl ⟨by rfl,?_⟩) (by assumption) ?_
    rotate_left
    · (intro w hSw; (try dsimp only at hSw); first | (go_simp; done) | (go_simp; with_reducible rfl))
    try simp only[Act.put,qg,qe,qf,qd,qh,qi]
    refine wpAnyT_step (i:=7) (by kernel_rfl) rfl (fun K hK=>?_)
    (refine step_copy_splice rfl (.tmp 41) (.tmp 44) 35 35 (by rfl) 22 Tryz.underlying35 (by kernel_rfl) (some ⟨w1.heap.size,k,none⟩) (some ⟨w1.heap.size,0,none⟩) (n - k) (n - k) k n (by rfl) (by rfl) w1.heap.size k (List.replicate k u++List.replicate (n - k) (Value.int .u8 0)) 22 hbk (List.replicate (min k (n - k)) u) (by simp) (fun _=>⟨rfl,_,rfl,hsrc⟩) (by simp; omega) (by intro v hv; rw[List.eq_of_mem_replicate hv]; exact hu1) w1.heap.size w1 hbel.drew (Nat.le_refl _) ?_; intro w7 hg7 hb7)
    refine hK.out _ _ trivial ?_;clear hK K
    try simp only[Act.put,qg,qe,qf,qd,qh,qi]
    rw[List.length_replicate];have hg8:=hg7.out;rw[splice_rep u (Value.int .u8 0) n k (min k (n - k)) (by omega)] at hg8;have Hg8:=qq hg8;have Hb7:=qq hb7;clear hg7 hg8 hb7 hbk hbel hsrc;refine wpAnyT_step (i:=8) (by kernel_rfl) rfl (fun K hK=>?_);go_simp;refine hK.out _ _ trivial ?_;clear hK K
    try simp only[Act.put,qg,qe,qf,qd,qh,qi]
    refine wpAnyT_step (i:=9) (by kernel_rfl) rfl (fun K hK=>?_);go_simp;refine hK.out _ _ trivial ?_;clear hK K
    try simp only[Act.put,qg,qe,qf,qd,qh,qi]
    refine wpAnyT_seq 10 (by omega) (by rfl) (by kernel_rfl) ?_;simp only[List.drop_succ_cons,List.drop_zero];go_wp2_with fail;refine NoPanic.normal ?_;go_wp2_with fail;go_roundg (n - (k+min k (n - k)))
    case measure=>
     have h1:0<min k (n - k):=Nat.lt_min.2 ⟨by omega,by omega⟩
     have h2:min k (n - k)≤n - k:=Nat.min_le_right _ _;exact Nat.sub_lt_sub_left hkn (by omega)
    case rel=>exact⟨k+min k (n - k),by have:=Nat.min_le_right k (n - k); omega,rfl,by have h9:=Nat.min_le_right k (n - k); rw[IntWalk.i64_in _ (by omega),Int.natCast_add],Or.inl (by omega),Hg8.out,Hb7.out⟩
  · have hkn':k=n:=by omega
    subst hkn';rw[Nat.sub_self,List.replicate_zero,List.append_nil] at hbk;have Hbk:=qq hbk;have Hbel:=qq hbel;clear hbk hbel;go_wp2_with fail;go_ret;exact⟨_,rfl,Hbk.out,Nat.le_refl _,Hbel.out⟩
theorem repeat_int (u:Value) (hu1:u.oneCell'=true) (n:Nat) (hn:n≤1048576) (A:Addr) (c:Nat) (w:World) (hA:w.cell? A=some u) (hAb:A.block<w.heap.size):
 Calls Tryz.prog 82 #[.slice (some A) 1 c,.int .i64 n] w fun e w'=>∃ g,e=.returned (.slice (some ⟨g,0,none⟩) n n)∧Blk w' g 3 (List.replicate n u).toArray∧w.heap.size≤g∧Below w.heap.size w w':=by
 have hmul:=Tryz.bits_Mul 1 n (by omega) (by omega) w
 rw[show 1 * n / 18446744073709551616=0 by omega,show 1 * n % 18446744073709551616=n by omega] at hmul
 have Hmul:=qq hmul;clear hmul;have hmk:=make_int n hn
 have n63:n≤9223372036854775807:=by omega
 go_enter Tryz.func82,Tryz.ntmps82
 have d0:decide ((n:Int)<0)=false:=by simp
 have d1:decide ((n:Int)>9223372036854775807)=false:=by simp; omega
 go_wp2_with fail;refine Hmul.out.mono ?_;rintro e w1 ⟨rfl,rfl⟩;have hb1:Below w1.heap.size w1 (w1.alloc (.cells (Array.replicate n ((Value.int .i64 0))) 3)):=below_box _;have hg1:(w1.alloc (.cells (Array.replicate n ((Value.int .i64 0))) 3)).heap[w1.heap.size]?=some (.cells (List.replicate n ((Value.int .i64 0))).toArray 3 (0,0)):=(blk_new w1 (Array.replicate n ((Value.int .i64 0))) 3).trans (by simp)
 have hA1:∀ j v,(List.replicate (min 1 n) u)[j]?=some v→(w1.alloc (.cells (Array.replicate n ((Value.int .i64 0))) 3)).cell? (A.add j)=some v:=fun j v hj=>by
  obtain⟨hj1,hj2⟩:=List.getElem?_eq_some_iff.1 hj
  have hj0:j=0:=by simp at hj1; omega
  subst hj0;simp at hj2;subst hj2
  rw[show A.add 0=A from by unfold Addr.add; split <;> simp_all]
  exact(World.cell?_alloc_lt _ _ A hAb).trans hA
 obtain⟨w2,hcp,hg2,hb2⟩:=run_copy_at (w1.alloc (.cells (Array.replicate n ((Value.int .i64 0))) 3)) 30 3 3 w1.heap.size 0 n n A 1 c (List.replicate n ((Value.int .i64 0))) (List.replicate (min 1 n) u) 3 Tryz.underlying30 (by kernel_rfl) hg1 (by simp) hA1 (by simp; omega) (by intro v hv; rw[List.eq_of_mem_replicate hv]; exact hu1) w1.heap.size w1 hb1 (Nat.le_refl _)
 have hg3:Blk w2 w1.heap.size 3 (List.replicate (min 1 n) u++List.replicate (n - min 1 n) ((Value.int .i64 0))).toArray:=by
  have:=splice_rep u ((Value.int .i64 0):Value) n 0 (min 1 n) (by omega);simp only[List.replicate_zero,List.nil_append,Nat.sub_zero,Nat.zero_add] at this;rw[this] at hg2;exact hg2
 rw[List.length_replicate] at hcp;have H3:=qq hg3;clear hg2 hg1 hb1 hA1 hg3;go_wp2_with fail;have Hb2:=qq hb2;have Hsz:Hid (w1.heap.size<w2.heap.size):=qq H3.out.lt;clear hb2 hA hAb hcp
 go_loopg [8] (n - min 1 n) (fun gh i wr=>∃ k,k≤n∧gh=n - k∧i=.int .i64 (k:Nat)∧(0<k∨n=0)∧Blk wr w1.heap.size 3 (List.replicate k u++List.replicate (n - k) ((Value.int .i64 0))).toArray∧Below w1.heap.size w1 wr)
 case atStart=>exact⟨min 1 n,by omega,rfl,rfl,by omega,H3.out,Hb2.out⟩
 case round=>
  obtain⟨k,hk,rfl,rfl,hk0,hbk,hbel⟩:=hrel
  by_cases hkn:k<n
  · have i1:(0:Int)≤(k:Int):=by omega
    have i2:(k:Int)≤n:=by omega
    have i3:(k:Int)<n:=by omega
    have hnk:¬ n=k:=by omega
    have hbl:=hbk.lt
    have hsrc:∀ j v,(List.replicate (min k (n - k)) u)[j]?=some v→wr.drew.cell? (Addr.add ⟨w1.heap.size,0,none⟩ j)=some v:=fun j v hj=>by
     obtain⟨hj1,hj2⟩:=List.getElem?_eq_some_iff.1 hj;rw[List.length_replicate] at hj1;rw[List.getElem_replicate] at hj2;subst hj2
     rw[show Addr.add ⟨w1.heap.size,0,none⟩ j=⟨w1.heap.size,j,none⟩ from by unfold Addr.add; split <;> simp_all]
     show wr.cell? _=_;rw[Blk.cell hbk]
     have hj3:j<k:=by omega
     simp[List.getElem?_append,hj3]
    go_wp2_with fail;refine wp_region_noPanic ?_;refine wp_region_T (fun w'=>True) 10 (by kernel_rfl) trivial (fun hHeld=>?_)
    refine wpAnyT_take (i:=0) (v:=?_) rfl (by kernel_rfl) (by kernel_rfl) (by kernel_rfl) (by kernel_rfl) (fun _ _ _ h=>h) (Or.inl ⟨by rfl,?_⟩) (by assumption) ?_
    rotate_left
    · (intro w hSw; (try dsimp only at hSw); first | (go_simp; done) | (go_simp; with_reducible rfl))
    try simp only[Act.put,qg,qe,qf,qd,qh,qi]
    refine wpAnyT_take (i:=1) (v:=?_) rfl (by kernel_rfl) (by kernel_rfl) (by kernel_rfl) (by kernel_rfl) (fun _ _ _ h=>h) (Or.inl ⟨by rfl,?_⟩) (by assumption) ?_
    rotate_left
    · (intro w hSw; (try dsimp only at hSw); first | (go_simp; done) | (go_simp; with_reducible rfl))
    try simp only[Act.put,qg,qe,qf,qd,qh,qi]
    refine wpAnyT_take (i:=2) (v:=?_) rfl (by kernel_rfl) (by kernel_rfl) (by kernel_rfl) (by kernel_rfl) (fun _ _ _ h=>h) (Or.inl ⟨by rfl,?_⟩) (by assumption) ?_
    rotate_left
    · (intro w hSw; (try dsimp only at hSw); first | (go_simp; done) | (go_simp; with_reducible rfl))
    try simp only[Act.put,qg,qe,qf,qd,qh,qi]
    refine wpAnyT_take (i:=3) (v:=?_) rfl (by kernel_rfl) (by kernel_rfl) (by kernel_rfl) (by kernel_rfl) (fun _ _ _ h=>h) (Or.inl ⟨by rfl,?_⟩) (by assumption) ?_
    rotate_left
    · (intro w hSw; (try dsimp only at hSw); first | (go_simp; done) | (go_simp; with_reducible rfl))
    try simp only[Act.put,qg,qe,qf,qd,qh,qi]
    refine wpAnyT_take (i:=4) (v:=?_) rfl (by kernel_rfl) (by kernel_rfl) (by kernel_rfl) (by kernel_rfl) (fun _ _ _ h=>h) (Or.inl ⟨by rfl,?_⟩) (by assumption) ?_
    rotate_left
    · (intro w hSw; (try dsimp only at hSw); first | (go_simp; done) | (go_simp; with_reducible rfl))
    try simp only[Act.put,qg,qe,qf,qd,qh,qi]
    refine wpAnyT_take (i:=5) (v:=?_) rfl (by kernel_rfl) (by kernel_rfl) (by kernel_rfl) (by kernel_rfl) (fun _ _ _ h=>h) (Or.inl ⟨by rfl,?_⟩) (by assumption) ?_
    rotate_left
    · (intro w hSw; (try dsimp only at hSw); first | (go_simp; done) | (go_simp; with_reducible rfl))
    try simp only[Act.put,qg,qe,qf,qd,qh,qi]
    refine wpAnyT_take (i:=6) (v:=?_) rfl (by kernel_rfl) (by kernel_rfl) (by kernel_rfl) (by kernel_rfl) (fun _ _ _ h=>h) (Or.inl ⟨by rfl,?_⟩) (by assumption) ?_
    rotate_left
    · (intro w hSw; (try dsimp only at hSw); first | (go_simp; done) | (go_simp; with_reducible rfl))
    try simp only[Act.put,qg,qe,qf,qd,qh,qi]
    refine wpAnyT_step (i:=7) (by kernel_rfl) rfl (fun K hK=>?_)
    (refine step_copy_splice rfl (.tmp 41) (.tmp 44) 30 30 (by rfl) 3 Tryz.underlying30 (by kernel_rfl) (some ⟨w1.heap.size,k,none⟩) (some ⟨w1.heap.size,0,none⟩) (n - k) (n - k) k n (by rfl) (by rfl) w1.heap.size k (List.replicate k u++List.replicate (n - k) (Value.int .i64 0)) 3 hbk (List.replicate (min k (n - k)) u) (by simp) (fun _=>⟨rfl,_,rfl,hsrc⟩) (by simp; omega) (by intro v hv; rw[List.eq_of_mem_replicate hv]; exact hu1) w1.heap.size w1 hbel.drew (Nat.le_refl _) ?_; intro w7 hg7 hb7)
    refine hK.out _ _ trivial ?_;clear hK K
    try simp only[Act.put,qg,qe,qf,qd,qh,qi]
    rw[List.length_replicate];have hg8:=hg7.out;rw[splice_rep u (Value.int .i64 0) n k (min k (n - k)) (by omega)] at hg8;have Hg8:=qq hg8;have Hb7:=qq hb7;clear hg7 hg8 hb7 hbk hbel hsrc;refine wpAnyT_step (i:=8) (by kernel_rfl) rfl (fun K hK=>?_);go_simp;refine hK.out _ _ trivial ?_;clear hK K
    try simp only[Act.put,qg,qe,qf,qd,qh,qi]
    refine wpAnyT_step (i:=9) (by kernel_rfl) rfl (fun K hK=>?_);go_simp;refine hK.out _ _ trivial ?_;clear hK K
    try simp only[Act.put,qg,qe,qf,qd,qh,qi]
    refine wpAnyT_seq 10 (by omega) (by rfl) (by kernel_rfl) ?_;simp only[List.drop_succ_cons,List.drop_zero];go_wp2_with fail;refine NoPanic.normal ?_;go_wp2_with fail;go_roundg (n - (k+min k (n - k)))
    case measure=>
     have h1:0<min k (n - k):=Nat.lt_min.2 ⟨by omega,by omega⟩
     have h2:min k (n - k)≤n - k:=Nat.min_le_right _ _;exact Nat.sub_lt_sub_left hkn (by omega)
    case rel=>exact⟨k+min k (n - k),by have:=Nat.min_le_right k (n - k); omega,rfl,by have h9:=Nat.min_le_right k (n - k); rw[IntWalk.i64_in _ (by omega),Int.natCast_add],Or.inl (by omega),Hg8.out,Hb7.out⟩
  · have hkn':k=n:=by omega
    subst hkn';rw[Nat.sub_self,List.replicate_zero,List.append_nil] at hbk;have Hbk:=qq hbk;have Hbel:=qq hbel;clear hbk hbel;go_wp2_with fail;go_ret;exact⟨_,rfl,Hbk.out,Nat.le_refl _,Hbel.out⟩
end Go.Proofs.YtdmakpmbknindaaGreatDoor
