import Derived.Test.YtgpeijkjmkocgaaDoorM35
import Derived.Test.YtgpeijkjmkocgaaDoorM26
import Derived.Test.YtgpeijkjmkocgaaDoorM24
set_option linter.unusedVariables false
set_option linter.unusedSimpArgs false
set_option maxRecDepth 10000
namespace Go.Proofs.YtgpeijkjmkocgaaDoor
open Go.RowKit
def dnp (d:DataD):ByteArray × Int:=(d.name,d.params)
def prj (c:ConD):ByteArray × Int × Nat:=(c.name,c.data,c.fields.length)
def prjW (n:Nat) (c:ConW):ByteArray × Int × Nat:=(c.name,(n:Int),c.fields.length)
def prjB (n:Nat):List DeclD→List (ByteArray × Int × Nat)
 | []=>[]
 | d :: r=>d.cons.map (prjW n)++prjB (n+1) r
theorem idxP_lt {X:Type} (p:X→Bool) (l:List X):idxP p l<l.length:=by
 rcases idxP_cases p l with ⟨h,_⟩ | ⟨i,h,h2,_⟩
 · rw[h]; omega
 · rw[h]; omega
theorem isB_one (m:Int) (h1:1≤m) (h2:m≤3):isB m 0=true:=by
 obtain rfl | rfl | rfl:m=1∨m=2∨m=3:=by omega
 · decide
 · decide
 · decide
theorem tyE_may {ds:List DataD} {ps:List ByteArray} (hd:ds.length≤40) (hp:ps.length≤4) (hq:∀ x∈ds,0≤x.params∧x.params≤4) (t:TyW):∀ u,tyE ds ps t=.ok u→mayT u=true∧wholeT ds ps.length u=true:=by
 induction t using tyW_ind with
 | h t ih=>
   intro u hu;rw[tyE_eq] at hu
   cases hn:nodeE ds ps t.k t.s t.m t.l.length with
   | error e=>rw[hn] at hu; cases hu
   | ok q=>
     obtain⟨⟨k',n',c'⟩,want⟩:=q;rw[hn] at hu;simp only at hu
     by_cases hw:(t.l.length:Int)≠want
     · rw[if_pos hw] at hu; cases hu
     · rw[if_neg hw] at hu
       have hw':(t.l.length:Int)=want:=Decidable.not_not.1 hw
       cases hL:tyE.tyEL ds ps t.l with
       | error g=>rw[hL] at hu; cases hu
       | ok ks=>
         rw[hL] at hu
         injection hu with hu
         subst hu
         have key:∀ (l:List TyW) (ks:List TyD),(∀ x∈l,∀ u,tyE ds ps x=.ok u→mayT u=true∧wholeT ds ps.length u=true)→tyE.tyEL ds ps l=.ok ks→ks.length=l.length∧ks.all mayT=true∧ks.all (wholeT ds ps.length)=true:=by
          intro l
          induction l with
          | nil=>intro ks _ h; rw[tyE.tyEL] at h; injection h with h; subst h; exact⟨rfl,rfl,rfl⟩
          | cons x l ihl=>
            intro ks hx h;rw[tyE.tyEL] at h
            cases h1:tyE ds ps x with
            | error g=>rw[h1] at h; cases h
            | ok y=>
              rw[h1] at h;simp only at h
              cases h2:tyE.tyEL ds ps l with
              | error g=>rw[h2] at h; cases h
              | ok ys=>
                rw[h2] at h
                injection h with h
                subst h;obtain⟨a1,a2,a3⟩:=ihl ys (fun z hz=>hx z (List.mem_cons_of_mem _ hz)) h2;obtain⟨b1,b2⟩:=hx x List.mem_cons_self y h1
                exact⟨by simp[a1],by rw[List.all_cons,b1,a2]; rfl,by rw[List.all_cons,b2,a3]; rfl⟩
         obtain⟨e1,e2,e3⟩:=key t.l ks ih hL
         have hkl:(ks.length:Int)=want:=by rw[e1]; exact hw'
         -- the node
         have hnode:isN (.mk k' n' 0 c' ks)=true∧wholeN ds ps.length k' n' c' ks.length=true:=by
          unfold nodeE at hn
          by_cases h1:t.k=1
          · rw[if_pos h1] at hn
            by_cases h2:idxS ps t.s<0
            · rw[if_pos h2] at hn; cases hn
            · rw[if_neg h2] at hn
              injection hn with hn
              simp only[Prod.mk.injEq] at hn;obtain⟨⟨rfl,rfl,rfl⟩,rfl⟩:=hn;have h3:=idxP_lt (fun x=>decide (x=t.s)) ps;have h3':idxS ps t.s<ps.length:=h3
              have hk0:ks.length=0:=by omega
              refine⟨?_,?_⟩
              · unfold isN
                simp only[TyD.k,TyD.n,TyD.v,TyD.c,TyD.l,mostI,kidsI];simp[hk0]
                exact⟨decide_eq_true (by omega),by omega⟩
              · unfold wholeN
                rw[if_pos rfl]
                simpa using h3'
          · rw[if_neg h1] at hn
            by_cases h2:t.k=2
            · rw[if_pos h2] at hn
              by_cases h3:(baseK t.s).2<0
              · rw[if_pos h3] at hn
                by_cases h4:idxD ds t.s<0
                · rw[if_pos h4] at hn; cases hn
                · rw[if_neg h4] at hn
                  injection hn with hn
                  simp only[Prod.mk.injEq] at hn;obtain⟨⟨rfl,rfl,rfl⟩,rfl⟩:=hn;have h5:=idxP_lt (fun x:DataD=>decide (x.name=t.s)) ds;have h5':idxD ds t.s<ds.length:=h5
                  obtain⟨i,hi⟩:∃ i:Nat,idxD ds t.s=i:=⟨(idxD ds t.s).toNat,by omega⟩
                  rw[hi] at h5' hkl ⊢
                  have hil:i<ds.length:=by omega
                  rw[Int.toNat_natCast,qj hil] at hkl;have hpi:=hq _ (List.getElem_mem hil);have hkl':(ks.length:Int)=ds[i].params:=hkl;refine⟨?_,?_⟩
                  · unfold isN
                    simp only[TyD.k,TyD.n,TyD.v,TyD.c,TyD.l,mostI,kidsI];simp
                    exact⟨by omega,decide_eq_true (by show(ks.length:Int)≤4; omega)⟩
                  · unfold wholeN
                    rw[if_neg (by decide),if_neg (by decide),if_pos rfl,Int.toNat_natCast,qj hil];simp only[Option.map_some,Option.getD_some,Bool.and_eq_true,decide_eq_true_eq,beq_iff_eq];exact⟨h5',hkl'⟩
              · rw[if_neg h3] at hn
                injection hn with hn
                simp only[Prod.mk.injEq] at hn;obtain⟨⟨rfl,rfl,rfl⟩,rfl⟩:=hn
                have hb:((baseK t.s)=(2,0)∨(baseK t.s)=(3,0)∨(baseK t.s)=(4,0)∨(baseK t.s)=(5,0))∨(baseK t.s)=(6,1):=by
                 unfold baseK at h3 ⊢
                 by_cases q1:t.s=nInt
                 · rw[if_pos q1]; simp
                 · rw[if_neg q1] at h3 ⊢
                   by_cases q2:t.s=nStr
                   · rw[if_pos q2]; simp
                   · rw[if_neg q2] at h3 ⊢
                     by_cases q3:t.s=nIo
                     · rw[if_pos q3]; simp
                     · rw[if_neg q3] at h3 ⊢
                       by_cases q4:t.s=nFile
                       · rw[if_pos q4]; simp
                       · rw[if_neg q4] at h3 ⊢
                         by_cases q5:t.s=nArr
                         · rw[if_pos q5]; simp
                         · rw[if_neg q5] at h3
                           exact absurd (by decide:((0:Int),(-1:Int)).2<0) h3
                rcases hb with (hb | hb | hb | hb) | hb <;> rw[hb] at hkl ⊢ <;> (first | (have hk0:ks.length=0:=by(simp only at hkl; omega)) | (have hk0:ks.length=1:=by(simp only at hkl; omega))) <;> refine⟨?_,?_⟩ <;> first | (unfold isN; simp only[TyD.k,TyD.n,TyD.v,TyD.c,TyD.l,mostI,kidsI]; simp[hk0]; done) | (unfold wholeN; simp; done)
            · rw[if_neg h2] at hn
              by_cases h3:t.k=3
              · rw[if_pos h3] at hn
                by_cases h4:t.l.length≠2∨t.m<1∨3<t.m
                · rw[if_pos h4] at hn; cases hn
                · rw[if_neg h4] at hn
                  injection hn with hn
                  simp only[Prod.mk.injEq] at hn;obtain⟨⟨rfl,rfl,rfl⟩,rfl⟩:=hn
                  have hk2:ks.length=2:=by omega
                  have hb:=isB_one t.m (by omega) (by omega);refine⟨?_,?_⟩
                  · unfold isN
                    simp only[TyD.k,TyD.n,TyD.v,TyD.c,TyD.l,mostI,kidsI];simp[hk2,hb]
                  · unfold wholeN
                    rw[if_neg (by decide),if_pos rfl]
                    have:(t.m==0)=false:=by simp; omega
                    rw[this]; rfl
              · rw[if_neg h3] at hn; cases hn
         refine⟨?_,?_⟩
         · rw[mayT_eq,hnode.1]
           exact e2
         · rw[wholeT_eq]
           show(wholeN ds ps.length k' n' c' ks.length&&ks.all (wholeT ds ps.length))=true;rw[hnode.2,e3];rfl
theorem tyD_ind {P:TyD→Prop} (h:∀ t,(∀ x∈t.l,P x)→P t) (t:TyD):P t:=by
 have:∀ (N:Nat) (t:TyD),nodes t≤N→P t:=by
  intro N
  induction N with
  | zero=>intro t hN; rw[nodes_eq t] at hN; omega
  | succ N ih=>exact fun t hN=>h t fun x hx=>ih x (by have:=nodes_mem hx; rw[nodes_eq t] at hN; omega)
 exact this _ t (Nat.le_refl _)
theorem wholeT_congr {ds ds':List DataD} (h:ds.map dnp=ds'.map dnp) (ps:Int) (t:TyD):wholeT ds ps t=wholeT ds' ps t:=by
 have hl:ds.length=ds'.length:=by have:=congrArg List.length h; simpa using this
 have hp:∀ i:Nat,(ds[i]?).map DataD.params=(ds'[i]?).map DataD.params:=fun i=>by
  have:=congrArg (fun l:List (ByteArray × Int)=>(l[i]?).map Prod.snd) h
  simpa[List.getElem?_map,Option.map_map,dnp,Function.comp_def] using this
 induction t using tyD_ind with
 | h t ih=>
   rw[wholeT_eq,wholeT_eq]
   congr 1
   · unfold wholeN
     rw[hl,hp]
   · rw[Bool.eq_iff_iff,List.all_eq_true,List.all_eq_true]
     exact⟨fun q x hx=>by rw[← ih x hx]; exact q x hx,fun q x hx=>by rw[ih x hx]; exact q x hx⟩
theorem fieldsE_good {ds:List DataD} {ps:List ByteArray} {p:PosD} (hd:ds.length≤40) (hp:ps.length≤4) (hq:∀ x∈ds,0≤x.params∧x.params≤4):∀ (l:List FieldD) (fs:List (Int × TyD)),fieldsE ds ps p l=.ok fs →
  fs.length=l.length∧∀ x∈fs,(1≤x.1∧x.1≤3)∧mayTE x.2=0∧wholeT ds ps.length x.2=true
 | [],fs,h=>by
   rw[fieldsE] at h
   injection h with h
   subst h
   exact⟨rfl,fun x hx=>by cases hx⟩
 | f :: l,fs,h=>by
   rw[fieldsE_cons] at h;unfold fieldE fieldK at h;have hm:=tyE_may hd hp hq f.t;generalize tyE ds ps f.t=r at h hm
   by_cases h1:f.m<1∨3<f.m
   · rw[if_pos h1] at h; cases h
   · rw[if_neg h1] at h
     cases r with
     | error g=>cases h
     | ok u=>
       simp only at h
       by_cases h2:bigT u=true
       · rw[if_pos h2] at h; cases h
       · rw[if_neg h2] at h
         unfold consK at h;simp only at h
         cases h3:fieldsE ds ps p l with
         | error g=>rw[h3] at h; cases h
         | ok gs=>
           rw[h3] at h
           injection h with h
           subst h;obtain⟨a1,a2⟩:=fieldsE_good hd hp hq l gs h3;obtain⟨b1,b2⟩:=hm u rfl
           refine⟨by simp[a1],fun x hx=>?_⟩
           rcases qk.1 hx with rfl | hx
           · refine⟨by show 1≤f.m∧f.m≤3; omega,?_,b2⟩
             unfold mayTE;rw[if_neg (fun q=>h2 (decide_eq_true q)),if_pos b1]
           · exact a2 x hx
def fldGood (ds:List DataD) (ps:Int) (m:Int) (t:TyD):Prop:=(1≤m∧m≤3)∧mayTE t=0∧wholeT ds ps t=true
structure GoodS (s:SigD):Prop where
 dl:s.datas.length≤40
 cl:s.cons.length≤100
 dn:(s.datas.map DataD.name).Nodup
 cn:(s.cons.map ConD.name).Nodup
 pr:∀ x∈s.datas,0≤x.params∧x.params≤4
 con:∀ c∈s.cons,∃ n:Nat,∃ h:n<s.datas.length,c.data=n∧c.fields.length≤8∧c.mults.length=c.fields.length∧∀ (i:Nat) (h1:i<c.fields.length) (h2:i<c.mults.length),fldGood s.datas s.datas[n].params c.mults[i] c.fields[i]
 of_:∀ n (h:n<s.datas.length),s.datas[n].cons=ofN s n s.cons.length
theorem modify_np (ds:List DataD) (n:Nat) (f:List Int→List Int):(ds.modify n fun d => { d with cons:=f d.cons }).map dnp=ds.map dnp:=by
 apply List.ext_getElem?
 intro i;rw[List.getElem?_map,List.getElem?_map,List.getElem?_modify]
 cases ds[i]? with
 | none=>rfl
 | some d=>
   by_cases h:n=i
   · simp[h,dnp]
   · simp[h]
theorem np_params {ds ds':List DataD} (h:ds.map dnp=ds'.map dnp) (i:Nat) (h1:i<ds.length) (h2:i<ds'.length):ds[i].params=ds'[i].params:=by
 have:=congrArg (fun l:List (ByteArray × Int)=>(l[i]?).map Prod.snd) h
 simpa[List.getElem?_map,qj h1,qj h2,dnp] using this
theorem np_names {ds ds':List DataD} (h:ds.map dnp=ds'.map dnp):ds.map DataD.name=ds'.map DataD.name:=by
 have:=congrArg (List.map Prod.fst) h
 simpa[List.map_map,dnp,Function.comp_def] using this
theorem ofN_same {s s':SigD} {n k:Nat} (h:∀ i,i<k→isOf s n i=isOf s' n i):ofN s n k=ofN s' n k:=by
 unfold ofN
 congr 1
 exact List.filter_congr fun i hi=>h i (List.mem_range.1 hi)
theorem isOf_app {s:SigD} {ds:List DataD} {c:ConD} {n i:Nat} (hi:i<s.cons.length):isOf ⟨ds,s.cons++[c]⟩ n i=isOf s n i:=by
 unfold isOf;rw[List.getElem?_append_left hi]
theorem GoodS.add {s:SigD} (h:GoodS s) {n:Nat} (hn:n<s.datas.length) {name:ByteArray} {fs:List (Int × TyD)} (hc:s.cons.length<100) (hnm:idxC s.cons name<0) (hf:fs.length≤8) (hg:∀ x∈fs,fldGood s.datas s.datas[n].params x.1 x.2):GoodS (addCon s n ⟨name,n,fs.map (·.2),fs.map (·.1)⟩):=by
 have hnp:=modify_np s.datas n fun l=>l++[(s.cons.length:Int)]
 have hlen:(s.datas.modify n fun d => { d with cons:=d.cons++[(s.cons.length:Int)] }).length=s.datas.length:=by simp
 refine⟨?_,?_,?_,?_,fun x hx=>?_,fun c hc'=>?_,fun m hm=>?_⟩
 · show(s.datas.modify n _).length≤40
   rw[hlen]; exact h.dl
 · show(s.cons++[_]).length≤100
   rw[List.length_append,List.length_singleton]; omega
 · show((s.datas.modify n _).map DataD.name).Nodup
   rw[np_names hnp]; exact h.dn
 · show((s.cons++[_]).map ConD.name).Nodup
   rw[List.map_append,List.nodup_append]
   refine⟨h.cn,by simp,fun a ha b hb=>?_⟩
   have hb':b=name:=by simpa using hb
   subst hb';obtain⟨c,hc1,rfl⟩:=List.mem_map.1 ha
   rcases idxP_cases (fun x:ConD=>decide (x.name=b)) s.cons with ⟨_,q⟩ | ⟨i,q,_⟩
   · intro e
     have:=q c hc1;simp[e] at this
   · have:idxC s.cons b=(i:Int):=q
     omega
 · obtain⟨i,hi,rfl⟩:=List.getElem_of_mem (show x∈s.datas.modify n (fun d => { d with cons:=d.cons++[(s.cons.length:Int)] }) from hx)
   rw[np_params hnp i hi (by rw[← hlen]; exact hi)]
   exact h.pr _ (List.getElem_mem _)
 · rcases List.mem_append.1 (show c∈s.cons++[_] from hc') with q | q
   · obtain⟨m,hm,e1,e2,e3,e4⟩:=h.con c q
     refine⟨m,by show m<(s.datas.modify n _).length; rw[hlen]; exact hm,e1,e2,e3,fun i h1 h2=>?_⟩
     obtain⟨f1,f2,f3⟩:=e4 i h1 h2;refine⟨f1,f2,?_⟩
     show wholeT (s.datas.modify n _) ((s.datas.modify n _)[m]'(by rw[hlen]; exact hm)).params _=true
     rw[wholeT_congr hnp,np_params hnp m (by rw[hlen]; exact hm) hm]
     exact f3
   · have hc2:c=⟨name,n,fs.map (·.2),fs.map (·.1)⟩:=by simpa using q
     subst hc2
     refine⟨n,by show n<(s.datas.modify n _).length; rw[hlen]; exact hn,rfl,by simpa using hf,by simp,fun i h1 h2=>?_⟩
     have hi:i<fs.length:=by simpa using h1
     obtain⟨f1,f2,f3⟩:=hg _ (List.getElem_mem hi);simp only[List.getElem_map];refine⟨f1,f2,?_⟩
     show wholeT (s.datas.modify n _) ((s.datas.modify n _)[n]'(by rw[hlen]; exact hn)).params _=true
     rw[wholeT_congr hnp,np_params hnp n (by rw[hlen]; exact hn) hn]
     exact f3
 · have hm':m<s.datas.length:=by rw[← hlen]; exact hm
   have hm2:m<(s.datas.modify n fun d => { d with cons:=d.cons++[(s.cons.length:Int)] }).length:=hm
   show((s.datas.modify n fun d => { d with cons:=d.cons++[(s.cons.length:Int)] })[m]'hm2).cons=ofN ⟨_,s.cons++[_]⟩ m (s.cons++[_]).length
   rw[List.length_append,List.length_singleton,ofN_succ _ _ _ (by simp)];rw[ofN_same (s':=s) (fun i hi=>isOf_app hi),← h.of_ m hm'];simp only[List.getElem_append_right (Nat.le_refl _),Nat.sub_self,qe];rw[List.getElem_modify]
   by_cases q:n=m
   · subst q
     rw[if_pos rfl,if_pos rfl]
   · rw[if_neg q,if_neg (fun e=>q (by omega)),List.append_nil]
theorem conE_ok {s s':SigD} {n:Nat} {ps:List ByteArray} {c:ConW} (h:conE s n ps c=.ok s'):∃ fs,fieldsE s.datas ps c.p c.fields=.ok fs∧s'=addCon s n ⟨c.name,n,fs.map (·.2),fs.map (·.1)⟩∧s.cons.length<100∧idxC s.cons c.name<0∧c.fields.length≤8:=by
 unfold conE at h
 split at h
 · cases h
 · split at h
   · cases h
   · split at h
     · cases h
     · generalize fieldsE s.datas ps c.p c.fields=E at h ⊢
       cases E with
       | error g=>cases h
       | ok fs=>
         injection h with h
         exact⟨fs,rfl,h.symm,by omega,by omega,by omega⟩
structure Grow (n:Nat) (s s':SigD) (new:List ConW):Prop where
 prj:s'.cons.map prj=s.cons.map prj++new.map (prjW n)
 pre:s'.cons.take s.cons.length=s.cons
 np:s'.datas.map dnp=s.datas.map dnp
 other:∀ i,i≠n→s'.datas[i]?=s.datas[i]?
 len:(s'.datas[n]?).map (fun d=>d.cons.length)=(s.datas[n]?).map (fun d=>d.cons.length+new.length)
theorem Grow.size {n:Nat} {s s':SigD} {new:List ConW} (h:Grow n s s' new):s'.datas.length=s.datas.length:=by
 have:=congrArg List.length h.np
 simpa using this
theorem Grow.nil (n:Nat) (s:SigD):Grow n s s []:=⟨by simp,by simp,rfl,fun _ _=>rfl,by simp⟩
theorem Grow.conlen {n:Nat} {s s':SigD} {new:List ConW} (h:Grow n s s' new):s'.cons.length=s.cons.length+new.length:=by
 have:=congrArg List.length h.prj
 simpa using this
theorem take_take_pre {X:Type} {a b c:List X} (h1:b.take a.length=a) (h2:c.take b.length=b) (h:a.length≤b.length):c.take a.length=a:=by
 rw[← h2,List.take_take,Nat.min_eq_left h] at h1;exact h1
theorem Grow.trans {n:Nat} {s s' s'':SigD} {a b:List ConW} (h:Grow n s s' a) (h':Grow n s' s'' b):Grow n s s'' (a++b):=by
 refine⟨by rw[h'.prj,h.prj,List.map_append,List.append_assoc],take_take_pre h.pre h'.pre (by rw[h.conlen]; omega),h'.np.trans h.np,fun i hi=>(h'.other i hi).trans (h.other i hi),?_⟩
 rw[h'.len];have h1:=h.len
 cases e:s.datas[n]? with
 | none=>
   rw[e] at h1
   cases e':s'.datas[n]? with
   | none=>rfl
   | some d=>rw[e'] at h1; cases h1
 | some d=>
   rw[e] at h1
   cases e':s'.datas[n]? with
   | none=>rw[e'] at h1; cases h1
   | some d'=>
     rw[e'] at h1;simp only[Option.map_some,Option.some.injEq] at h1 ⊢;rw[h1,List.length_append];omega
theorem con_grow {s s':SigD} {n:Nat} {ps:List ByteArray} {c:ConW} (hs:GoodS s) (hn:n<s.datas.length) (hps:s.datas[n].params=ps.length) (h:conE s n ps c=.ok s'):GoodS s'∧Grow n s s' [c]:=by
 obtain⟨fs,h1,rfl,h2,h3,h4⟩:=conE_ok h
 have hp4:ps.length≤4:=by have:=(hs.pr _ (List.getElem_mem hn)).2; omega
 obtain⟨h5,h6⟩:=fieldsE_good hs.dl hp4 hs.pr c.fields fs h1
 refine⟨hs.add hn h2 h3 (by omega) (fun x hx=>by rw[hps]; exact h6 x hx),?_,?_,by exact modify_np s.datas n fun l=>l++[(s.cons.length:Int)],fun i hi=>?_,?_⟩
 · show(s.cons++[_]).map prj=_
   rw[List.map_append];simp[prj,prjW,h5]
 · show(s.cons++[_]).take _=_
   rw[List.take_left]
 · show(s.datas.modify n _)[i]?=_
   rw[List.getElem?_modify]
   cases s.datas[i]? with
   | none=>rfl
   | some d=>simp[Ne.symm hi]
 · show((s.datas.modify n _)[n]?).map _=_
   rw[List.getElem?_modify]
   cases s.datas[n]? with
   | none=>rfl
   | some d=>simp
theorem cons_grow {n:Nat} {ps:List ByteArray}:∀ (l:List ConW) (s s':SigD),GoodS s→(∃ hn:n<s.datas.length,s.datas[n].params=ps.length)→consE n ps s l=.ok s'→GoodS s'∧Grow n s s' l
 | [],s,s',hs,hn,h=>by
   rw[consE] at h
   injection h with h
   subst h;exact⟨hs,Grow.nil n s⟩
 | c :: l,s,s',hs,⟨hn,hp⟩,h=>by
   rw[consE] at h
   cases h1:conE s n ps c with
   | error g=>rw[h1] at h; cases h
   | ok s1=>
     rw[h1] at h;obtain⟨a,b⟩:=con_grow hs hn hp h1
     obtain⟨a2,b2⟩:=cons_grow l s1 s' a ⟨by rw[b.size]; exact hn,by rw[np_params b.np n (by rw[b.size]; exact hn) hn]; exact hp⟩ h
     exact⟨a2,b.trans b2⟩
theorem bodies_grow:∀ (own:List DeclD) (n:Nat) (s z:SigD),GoodS s→n+own.length=s.datas.length→(∀ j (h:j<own.length) (h2:n+j<s.datas.length),s.datas[n+j].params=own[j].params.length)→bodiesE n s own=.ok z →
  GoodS z∧z.cons.map prj=s.cons.map prj++prjB n own∧z.cons.take s.cons.length=s.cons∧z.datas.map dnp=s.datas.map dnp∧(∀ i,i<n→z.datas[i]?=s.datas[i]?)∧(∀ j (h:j<own.length),(z.datas[n+j]?).map (fun d=>d.cons.length)=(s.datas[n+j]?).map (fun d=>d.cons.length+own[j].cons.length))∧∀ d∈own,d.cons≠[]
 | [],n,s,z,hs,hl,hp,h=>by
   rw[bodiesE] at h
   injection h with h
   subst h
   exact⟨hs,by simp[prjB],by simp,rfl,fun _ _=>rfl,fun j h=>absurd h (by simp),fun d hd=>by cases hd⟩
 | d :: own,n,s,z,hs,hl,hp,h=>by
   rw[bodiesE] at h
   by_cases hd:d.cons=[]
   · rw[if_pos hd] at h; cases h
   · rw[if_neg hd] at h
     rw[List.length_cons] at hl
     cases h1:consE n d.params s d.cons with
     | error g=>rw[h1] at h; cases h
     | ok s1=>
       rw[h1] at h;have hp0:(s.datas[n]'(by omega)).params=d.params.length:=hp 0 (by simp) (by omega)
       obtain⟨a,b⟩:=cons_grow d.cons s s1 hs ⟨by omega,hp0⟩ h1
       have hsz:=b.size
       obtain⟨c1,c2,c3,c4,c5,c6,c7⟩:=bodies_grow own (n+1) s1 z a (by omega) (fun j hj h2=>by
        have:=hp (j+1) (by simpa using hj) (by omega);rw[np_params b.np (n+1+j) h2 (by omega)]
        have e:s.datas[n+1+j]'(by omega)=s.datas[n+(j+1)]'(by omega):=by congr 1; omega
        rw[e,this]
        rfl) h
       refine⟨c1,?_,take_take_pre b.pre c3 (by rw[b.conlen]; omega),c4.trans b.np,fun i hi=>(c5 i (by omega)).trans (b.other i (by omega)),fun j hj=>?_,fun x hx=>?_⟩
       · rw[c2,b.prj,prjB,List.append_assoc]
       · cases j with
         | zero=>
           show(z.datas[n]?).map _=_;rw[c5 n (by omega)];exact b.len
         | succ j=>
           have h3:=c6 j (by simpa using hj)
           rw[show n+1+j=n+(j+1) from by omega] at h3
           rw[h3,b.other (n+(j+1)) (by omega)];rfl
       · rcases qk.1 hx with rfl | hx
         · exact hd
         · exact c7 x hx
theorem wholeT_app {ds:List DataD} (e:List DataD) (ps:Int) (t:TyD) (hm:mayT t=true):wholeT ds ps t=true→wholeT (ds++e) ps t=true:=by
 induction t using tyD_ind with
 | h t ih=>
   rw[wholeT_eq,wholeT_eq,Bool.and_eq_true,Bool.and_eq_true];rintro⟨h1,h2⟩;rw[mayT_eq,Bool.and_eq_true] at hm;refine⟨?_,List.all_eq_true.2 fun x hx=>ih x hx (List.all_eq_true.1 hm.2 x hx) (List.all_eq_true.1 h2 x hx)⟩;unfold wholeN at h1 ⊢
   by_cases q1:t.k=1
   · rw[if_pos q1] at h1 ⊢; exact h1
   · rw[if_neg q1] at h1 ⊢
     by_cases q7:t.k=7
     · rw[if_pos q7] at h1 ⊢; exact h1
     · rw[if_neg q7] at h1 ⊢
       by_cases q8:t.k=8
       · rw[if_pos q8] at h1 ⊢
         simp only[Bool.and_eq_true,decide_eq_true_eq] at h1 ⊢
         have hn:0≤t.n:=by
          have:=hm.1;unfold isN at this;simp only[Bool.and_eq_true,decide_eq_true_eq] at this;omega
         refine⟨by rw[List.length_append]; omega,?_⟩
         rw[List.getElem?_append_left (by omega)];exact h1.2
       · rw[if_neg q8]
theorem mayTE_m {t:TyD} (h:mayTE t=0):mayT t=true:=mayT_of h
theorem head_good {s s':SigD} {d:DeclD} (h:GoodS s) (he:headE s d=.ok s'):GoodS s'∧s'=⟨s.datas++[⟨d.name,d.params.length,[]⟩],s.cons⟩∧d.k=1∧d.params.length≤4:=by
 obtain⟨rfl,h40,h4⟩:=headE_ok he
 have hk:d.k=1∧idxD s.datas d.name<0:=by
  unfold headE at he
  split at he
  · cases he
  · split at he
    · cases he
    · split at he
      · cases he
      · rename_i q1 _ q3
        exact⟨Decidable.not_not.1 q1,by omega⟩
 refine⟨⟨?_,h.cl,?_,h.cn,fun x hx=>?_,fun c hc=>?_,fun n hn=>?_⟩,rfl,hk.1,h4⟩
 · show(s.datas++[_]).length≤40
   rw[List.length_append,List.length_singleton]; omega
 · show((s.datas++[_]).map DataD.name).Nodup
   rw[List.map_append,List.nodup_append]
   refine⟨h.dn,by simp,fun a ha b hb=>?_⟩
   have hb':b=d.name:=by simpa using hb
   subst hb';obtain⟨x,hx,rfl⟩:=List.mem_map.1 ha
   rcases idxP_cases (fun x:DataD=>decide (x.name=d.name)) s.datas with ⟨_,q⟩ | ⟨i,q,_⟩
   · intro e
     have:=q x hx;simp[e] at this
   · have:idxD s.datas d.name=(i:Int):=q
     omega
 · rcases List.mem_append.1 (show x∈s.datas++[_] from hx) with q | q
   · exact h.pr x q
   · have:x=⟨d.name,d.params.length,[]⟩:=by simpa using q
     subst this;show(0:Int)≤d.params.length∧(d.params.length:Int)≤4;omega
 · obtain⟨n,hn,e1,e2,e3,e4⟩:=h.con c hc
   refine⟨n,by show n<(s.datas++[_]).length; rw[List.length_append]; omega,e1,e2,e3,fun i h1 h2=>?_⟩
   obtain⟨f1,f2,f3⟩:=e4 i h1 h2;refine⟨f1,f2,?_⟩
   show wholeT (s.datas++[_]) ((s.datas++[_])[n]'(by rw[List.length_append]; omega)).params _=true
   rw[List.getElem_append_left hn];exact wholeT_app _ _ _ (mayTE_m f2) f3
 · have hn2:n<(s.datas++[(⟨d.name,d.params.length,[]⟩:DataD)]).length:=hn
   show((s.datas++[(⟨d.name,d.params.length,[]⟩:DataD)])[n]'hn2).cons=ofN ⟨_,s.cons⟩ n s.cons.length
   rw[show ofN (⟨s.datas++[(⟨d.name,d.params.length,[]⟩:DataD)],s.cons⟩:SigD) n s.cons.length=ofN s n s.cons.length from ofN_same fun i hi=>rfl]
   by_cases q:n<s.datas.length
   · rw[List.getElem_append_left q]
     exact h.of_ n q
   · have hne:n=s.datas.length:=by rw[List.length_append,List.length_singleton] at hn2; omega
     subst hne;rw[List.getElem_append_right (Nat.le_refl _)];simp only[Nat.sub_self,qe]
     symm
     unfold ofN;rw[List.map_eq_nil_iff,List.filter_eq_nil_iff];intro i hi;have hi':i<s.cons.length:=List.mem_range.1 hi;unfold isOf;rw[qj hi'];obtain⟨m,hm,e1,_⟩:=h.con _ (List.getElem_mem hi');simp only[decide_eq_true_eq,e1];omega
theorem heads_good:∀ (own:List DeclD) (s s':SigD),GoodS s→foldE headE s own=.ok s'→GoodS s'∧s'=⟨s.datas++own.map fun d=>⟨d.name,d.params.length,[]⟩,s.cons⟩∧∀ d∈own,d.k=1
 | [],s,s',hs,h=>by
   injection h with h
   subst h
   exact⟨hs,by simp,fun d hd=>by cases hd⟩
 | d :: own,s,s',hs,h=>by
   simp only[foldE] at h
   cases h1:headE s d with
   | error g=>rw[h1] at h; cases h
   | ok s1=>
     rw[h1] at h;obtain⟨a,b,c,_⟩:=head_good hs h1;obtain⟨a2,b2,c2⟩:=heads_good own s1 s' a h;refine⟨a2,?_,fun x hx=>?_⟩
     · rw[b2,b]
       simp
     · rcases qk.1 hx with rfl | hx
       · exact c
       · exact c2 x hx
def fldGoodB (ds:List DataD) (ps:Int) (m:Int) (t:TyD):Bool:=decide (1≤m)&&decide (m≤3)&&(mayTE t==0)&&wholeT ds ps t
def conGoodB (s:SigD) (c:ConD):Bool:=decide (0≤c.data)&&decide (c.data<s.datas.length)&&decide (c.fields.length≤8)&&decide (c.mults.length=c.fields.length)&&(List.range c.fields.length).all fun i=>fldGoodB s.datas (((s.datas[c.data.toNat]?).map DataD.params).getD 0) (c.mults.getD i 0) (c.fields.getD i (.mk 0 0 0 0 []))
theorem given_conB:givenS.cons.all (conGoodB givenS)=true:=by decide +kernel
theorem given_good:GoodS givenS:=by
 refine⟨by decide +kernel,by decide +kernel,by decide +kernel,by decide +kernel,by decide +kernel,fun c hc=>?_,?_⟩
 · have h:=List.all_eq_true.1 given_conB c hc
   unfold conGoodB at h;simp only[Bool.and_eq_true,decide_eq_true_eq] at h;obtain⟨⟨⟨⟨h1,h2⟩,h3⟩,h4⟩,h5⟩:=h
   obtain⟨n,hn⟩:∃ n:Nat,c.data=n:=⟨c.data.toNat,by omega⟩
   rw[hn,Int.toNat_natCast] at h5
   have hnl:n<givenS.datas.length:=by omega
   refine⟨n,hnl,hn,h3,h4,fun i i1 i2=>?_⟩;have h6:=range_all.1 h5 i i1;unfold fldGoodB at h6;rw[qj hnl] at h6;simp only[Option.map_some,Option.getD_some,Bool.and_eq_true,decide_eq_true_eq,beq_iff_eq,List.getD_eq_getElem?_getD,qj i1,qj i2] at h6;exact⟨⟨h6.1.1.1,h6.1.1.2⟩,h6.1.2,h6.2⟩
 · have h:(List.range givenS.datas.length).all (fun n=>decide (((givenS.datas[n]?).map DataD.cons).getD []=ofN givenS n givenS.cons.length))=true:=by decide +kernel
   intro n hn;have:=range_all.1 h n hn;rw[qj hn] at this
   simpa using this
def ownL (l:List DeclD):List DeclD:=l.filter fun d=>d.k≠2
structure Checked (l:List DeclD) (z:SigD):Prop where
 good:GoodS z
 tk:z.cons.take 15=givenS.cons
 td:z.datas.take 9=givenS.datas
 kk:∀ d∈ownL l,d.k=1
 np:z.datas.map dnp=givenS.datas.map dnp++(ownL l).map fun d=>(d.name,(d.params.length:Int))
 nc:∀ j (h:j<(ownL l).length),(z.datas[9+j]?).map (fun d=>d.cons.length)=some (ownL l)[j].cons.length
 prj:z.cons.map prj=givenS.cons.map prj++prjB 9 (ownL l)
 ne:∀ d∈ownL l,d.cons≠[]
theorem checked {l:List DeclD} {z:SigD} (h:checkE givenS l=.ok z):Checked l z:=by
 unfold checkE at h
 rw[show(l.filter fun d=>d.k≠2)=ownL l from rfl,headsE_eq,given_datas] at h
 cases h1:foldE headE givenS (ownL l) with
 | error g=>rw[h1] at h; cases h
 | ok s=>
   rw[h1] at h;simp only at h;obtain⟨a,b,c⟩:=heads_good (ownL l) givenS s given_good h1
   have hsl:s.datas.length=9+(ownL l).length:=by rw[b]; simp[given_datas]
   have hg9:∀ i,i<9→s.datas[i]?=givenS.datas[i]?:=fun i hi=>by
    rw[b]
    exact List.getElem?_append_left (by rw[given_datas]; exact hi)
   have hgj:∀ j (hj:j<(ownL l).length),s.datas[9+j]?=some ⟨(ownL l)[j].name,(ownL l)[j].params.length,[]⟩:=fun j hj=>by
    rw[b];show(givenS.datas++_)[9+j]?=_
    rw[List.getElem?_append_right (by rw[given_datas]; omega),given_datas,show 9+j - 9=j from by omega,List.getElem?_map,qj hj]
    rfl
   obtain⟨c1,c2,c3,c4,c5,c6,c7⟩:=bodies_grow (ownL l) 9 s z a (by rw[hsl]) (fun j hj h2=>by
    have:=hgj j hj;rw[qj h2] at this
    injection this with this
    rw[this]) h
   have hsc:s.cons=givenS.cons:=by rw[b]
   have hzl:z.datas.length=s.datas.length:=by have:=congrArg List.length c4; simpa using this
   refine⟨c1,by rw[hsc,given_cons] at c3; exact c3,?_,c,?_,fun j hj=>?_,by rw[c2,hsc],c7⟩
   · apply List.ext_getElem?
     intro i;rw[List.getElem?_take]
     by_cases hi:i<9
     · rw[if_pos hi,c5 i hi,hg9 i hi]
     · rw[if_neg hi,List.getElem?_eq_none (by rw[given_datas]; omega)]
   · rw[c4,b]
     simp[dnp,Function.comp_def]
   · rw[c6 j hj,hgj j hj]
     simp
theorem nodup_any {X:Type} {f:X→ByteArray} {l:List X} (h:(l.map f).Nodup) {i:Nat} (hi:i<l.length):((l.take i).any fun x=>decide (f x=f l[i]))=false:=by
 rw[List.any_eq_false];intro x hx;obtain⟨j,hj,rfl⟩:=List.getElem_of_mem hx;rw[List.length_take] at hj;rw[List.getElem_take];simp only[decide_eq_true_eq];intro e
 have hj1:j<(l.map f).length:=by rw[List.length_map]; omega
 have hi1:i<(l.map f).length:=by rw[List.length_map]; omega
 have h1:j=i:=(List.getElem_inj (h₀:=hj1) (h₁:=hi1) h).1 (by simpa using e);omega
def sumC (own:List DeclD):Nat:=(own.map fun d=>d.cons.length).sum
theorem prjB_get:∀ (own:List DeclD) (n j q:Nat) (hj:j<own.length) (hq:q<own[j].cons.length),(prjB n own)[sumC (own.take j)+q]?=some (prjW (n+j) own[j].cons[q])
 | d :: r,n,0,q,hj,hq=>by
   have hq':q<d.cons.length:=hq;show(d.cons.map (prjW n)++prjB (n+1) r)[0+q]?=_;rw[Nat.zero_add,List.getElem?_append_left (by simpa using hq'),List.getElem?_map,qj hq'];rfl
 | d :: r,n,j+1,q,hj,hq=>by
   have h1:=prjB_get r (n+1) j q (by simpa using hj) hq
   have e:sumC ((d :: r).take (j+1))=d.cons.length+sumC (r.take j):=by simp[sumC]
   show(d.cons.map (prjW n)++prjB (n+1) r)[_]?=_
   rw[e,List.getElem?_append_right (by simp; omega),List.length_map,show d.cons.length+sumC (r.take j)+q - d.cons.length=sumC (r.take j)+q from by omega,h1,show n+1+j=n+(j+1) from by omega]
   rfl
theorem Checked.at_ {l:List DeclD} {z:SigD} (h:Checked l z) {j q:Nat} (hj:j<(ownL l).length) (hq:q<(ownL l)[j].cons.length):∃ hc:15+sumC ((ownL l).take j)+q<z.cons.length,z.cons[15+sumC ((ownL l).take j)+q].name=(ownL l)[j].cons[q].name∧z.cons[15+sumC ((ownL l).take j)+q].data=((9+j:Nat):Int)∧z.cons[15+sumC ((ownL l).take j)+q].fields.length=(ownL l)[j].cons[q].fields.length∧idxC z.cons (ownL l)[j].cons[q].name=((15+sumC ((ownL l).take j)+q:Nat):Int):=by
 have h1:(z.cons.map Go.Proofs.YtgpeijkjmkocgaaDoor.prj)[15+sumC ((ownL l).take j)+q]?=(givenS.cons.map Go.Proofs.YtgpeijkjmkocgaaDoor.prj++prjB 9 (ownL l))[15+sumC ((ownL l).take j)+q]?:=by rw[h.prj]
 rw[List.getElem?_append_right (by rw[List.length_map,given_cons]; omega),List.length_map,given_cons,show 15+sumC ((ownL l).take j)+q - 15=sumC ((ownL l).take j)+q from by omega,prjB_get _ _ _ _ hj hq,List.getElem?_map] at h1
 rcases Nat.lt_or_ge (15+sumC ((ownL l).take j)+q) z.cons.length with hc | hc
 · rw[qj hc] at h1
   simp only[Option.map_some,Option.some.injEq,Go.Proofs.YtgpeijkjmkocgaaDoor.prj,prjW,Prod.mk.injEq] at h1;obtain⟨e1,e2,e3⟩:=h1;refine⟨hc,e1,e2,e3,?_⟩;rw[← e1];refine idxP_at hc (fun i hi hlt=>?_) (by simp);have h2:=nodup_any h.good.cn hc;rw[List.any_eq_false] at h2
   have h3:=h2 z.cons[i] (by
    rw[List.mem_take_iff_getElem]
    exact⟨i,by omega,rfl⟩)
   simpa using h3
 · rw[List.getElem?_eq_none hc] at h1
   cases h1
theorem ownL_take_not {l:List DeclD} {k:Nat} (hk:k<l.length) (h:l[k].k=2):ownL (l.take (k+1))=ownL (l.take k):=by
 unfold ownL;rw[List.take_succ_eq_append_getElem hk,List.filter_append];simp[h]
theorem ownL_take_own {l:List DeclD} {k:Nat} (hk:k<l.length) (h:l[k].k≠2):ownL (l.take (k+1))=ownL (l.take k)++[l[k]]:=by
 unfold ownL;rw[List.take_succ_eq_append_getElem hk,List.filter_append];simp[h]
structure RKs (wz:World) (g B:Nat) (vo:Value) (no:Nat) (own:List DeclD) (s:SigD) (vd vc:Value) (vs:List Value) (wx:World):Prop where
 bk:Blk wx g 25 #[vd,vc]
 sm:SigM wx wz.heap.size (fun b=>b<wz.heap.size∨b=g∨vo.ownBlock=some b) s vd vc vs
 ng:¬ RowB vd vc vs g
 nw:∀ b,vo.ownBlock=some b→¬ RowB vd vc vs b
 ow:OwnD wx (g+1) B vo no own
 bel:Below wz.heap.size wz wx
 gz:wz.heap.size≤g
 Bz:B≤wz.heap.size
section
variable {wz wx wy:World} {g B:Nat} {vo:Value} {no:Nat} {own:List DeclD} {s s':SigD} {vd vc vd' vc':Value} {vs vs':List Value}
theorem OwnD.lt {w:World} {base B:Nat} {v:Value} {n:Nat} {l:List DeclD} (h:OwnD w base B v n l) {b:Nat} (e:v.ownBlock=some b):base≤b∧b<w.heap.size:=by
 obtain⟨_,cs,h1,_⟩:=h;exact own_lt h1 e
theorem OwnD.keep {w w':World} {base B:Nat} {v:Value} {n:Nat} {l:List DeclD} (h:OwnD w base B v n l) (h1:∀ b,v.ownBlock=some b→w'.heap[b]?=w.heap[b]?) (h2:∀ b,b<B→w'.heap[b]?=w.heap[b]?):OwnD w' base B v n l:=by
 obtain⟨h0,cs,h3,h4⟩:=h;exact⟨h0,cs,own_block h3 h1,fun i hi=>(h4 i hi).keep fun p hp=>World.cell?_of_block (h2 _ hp)⟩
theorem RKs.below (h:RKs wz g B vo no own s vd vc vs wx) (hb:Below wx.heap.size wx wy):RKs wz g B vo no own s vd vc vs wy:=
 ⟨h.bk.below hb h.bk.lt,h.sm.below hb,h.ng,h.nw,h.ow.keep (fun b e=>hb.block b (h.ow.lt e).2) (fun b hB=>hb.block b (by have:=h.Bz; have:=h.bel.size; omega)),h.bel.trans (hb.mono h.bel.size),h.gz,h.Bz⟩
theorem RKs.next (h:RKs wz g B vo no own s vd vc vs wx) (hk:Blk wy g 25 #[vd',vc']) (hs:SigM wy wz.heap.size (fun b=>b<wz.heap.size∨b=g∨vo.ownBlock=some b) s' vd' vc' vs') (hb:ButS g (RowB vd vc vs) wx wy) (hr:∀ b,RowB vd' vc' vs' b→RowB vd vc vs b∨wx.heap.size≤b):RKs wz g B vo no own s' vd' vc' vs' wy:=by
 have hgz:=h.gz;have hBz:=h.Bz;have hbs:=h.bel.size
 have hrow:∀ b,b<wz.heap.size→¬ RowB vd vc vs b:=fun b hb e=>by have:=(h.sm.rowB e).1; omega
 refine⟨hk,hs,fun e=>?_,fun b e q=>?_,h.ow.keep (fun b e=>?_) (fun b hB=>hb.block b (by omega) (by omega) (hrow b (by omega))),⟨hb.os.trans h.bel.os,hb.tape.trans h.bel.tape,hb.output.trans h.bel.output,Nat.le_trans hbs hb.size,fun k hk=>(hb.block k (by omega) (by omega) (hrow k hk)).trans (h.bel.block k hk)⟩,hgz,hBz⟩
 · rcases hr g e with q | q
   · exact h.ng q
   · have:=h.bk.lt; omega
 · rcases hr b q with q | q
   · exact h.nw b e q
   · have:=(h.ow.lt e).2; omega
 · have:=h.ow.lt e
   exact hb.block b this.2 (by omega) (h.nw b e)
theorem RKs.row {vo':Value} {no':Nat} {own':List DeclD} (h:RKs wz g B vo no own s vd vc vs wx) (hg:wx.grownBy wy vo.ownBlock) (ho:OwnD wy (g+1) B vo' no' own') (hat:vo'.ownBlock=vo.ownBlock∨∃ b,vo'.ownBlock=some b∧wx.heap.size≤b):RKs wz g B vo' no' own' s vd vc vs wy:=by
 have hgz:=h.gz;have hbs:=h.bel.size;have h0:=h.sm.weak (R':=fun b=>(b<wz.heap.size∨b=g∨vo.ownBlock=some b)∨wx.heap.size≤b) (fun b hb q=>q.elim id fun q=>absurd hb (by omega))
 have hsm:SigM wy wz.heap.size (fun b=>(b<wz.heap.size∨b=g∨vo.ownBlock=some b)∨wx.heap.size≤b) s vd vc vs:=by
  cases e:vo.ownBlock with
  | none=>
    rw[e] at hg;have hb:But g wx wy:=⟨hg.os,hg.tape,hg.output,hg.size,fun k hk _=>hg.block k hk (by simp)⟩;have:=h0.but hb h.ng (Or.inl (Or.inr (Or.inl rfl)));rw[e] at this;exact this
  | some b=>
    rw[e] at hg;have hb:But b wx wy:=⟨hg.os,hg.tape,hg.output,hg.size,fun k hk hne=>hg.block k hk (fun q=>hne (Option.some.inj q))⟩;have:=h0.but hb (h.nw b e) (Or.inl (Or.inr (Or.inr e)));rw[e] at this;exact this
 have hne:∀ k,k≤g→some k≠vo.ownBlock:=fun k hk e=>by have:=(h.ow.lt e.symm).1; omega
 refine⟨(hg.block g h.bk.lt (hne g (Nat.le_refl _))).trans h.bk,hsm.weak fun b hb q=>?_,h.ng,fun b e q=>?_,ho,⟨hg.os.trans h.bel.os,hg.tape.trans h.bel.tape,hg.output.trans h.bel.output,Nat.le_trans hbs hg.size,fun k hk=>(hg.block k (by omega) (hne k (by omega))).trans (h.bel.block k hk)⟩,hgz,h.Bz⟩
 · rcases q with q | q | q
   · exact Or.inl (Or.inl q)
   · exact Or.inl (Or.inr (Or.inl q))
   · rcases hat with r | ⟨b',r,r'⟩
     · exact Or.inl (Or.inr (Or.inr (r ▸ q)))
     · rw[r] at q
       injection q with q
       exact Or.inr (by omega)
 · have h1:=(h.sm.rowB q).2
   rcases hat with r | ⟨b',r,r'⟩
   · exact h.nw b (r ▸ e) q
   · rw[r] at e
     injection e with e
     omega
theorem RKs.sig {Ad Ac:Option Addr} {nd cd nc cc:Nat} (h:RKs wz g B vo no own s (.slice Ad nd cd) (.slice Ac nc cc) vs wx):SigR wx (Lt wx.heap.size) s Ad s.datas.length cd Ac s.cons.length cc:=h.sm.sigR
theorem RKs.c (h:RKs wz g B vo no own s vd vc vs wx):wx.cell? ⟨g,0,none⟩=some vd∧wx.cell? ⟨g,1,none⟩=some vc:=⟨h.bk.cell 0,h.bk.cell 1⟩
end
def HeldK (g:Nat) (vd vc:Value) (b o:Nat) (cs:List Value) (w':World):Prop:=w'.cell? ⟨g,0,none⟩=some vd∧w'.cell? ⟨g,1,none⟩=some vc∧w'.rangeAt b o cs∧True
theorem range_below {w w':World} {b o:Nat} {cs:List Value} (h:w.rangeAt b o cs) (hb:Below w.heap.size w w'):w'.rangeAt b o cs:=fun j v hj=>(hb.cell (block_lt_of_cell (h j v hj))).trans (h j v hj)
theorem HeldK.below {g:Nat} {vd vc:Value} {b o:Nat} {cs:List Value} {w w':World} (h:HeldK g vd vc b o cs w) (hb:Below w.heap.size w w'):HeldK g vd vc b o cs w':=
 ⟨(hb.cell (block_lt_of_cell h.1)).trans h.1,(hb.cell (block_lt_of_cell h.2.1)).trans h.2.1,range_below h.2.2.1 hb,trivial⟩
theorem wpList_build1 {P:Program} {ops:Array Oper} {rest:List Oper} {op:Oper} {a:Act} {w:World} {Q:Exit→Act→World→Prop} (hgd:op.guard=none) (t e:TypeId) (x:Operand) (ho:op.op=.buildSlice t 1 #[(0,x)]) (cs:Array Value) (hx:a.eval x=.agg cs)
  (hrun:(Instr.buildSlice t 1 #[(0,.agg cs)]).run P w=.ok (.slice (some ⟨w.heap.size,0,none⟩) 1 1) (w.alloc (.cells cs e))) (h:wpList P ops Q rest (a.put op.dst (.slice (some ⟨w.heap.size,0,none⟩) 1 1)) (w.alloc (.cells cs e))):wpList P ops Q (op :: rest) a w:=
 wpList_plain hgd fun _ hK=>by
  unfold Oper.wp execOp;simp only[ho,List.map_toArray,List.map_cons,List.map_nil,hx,Sem.run_bind,hrun,Result.andThen_ok,Sem.run_pure];exact hK _ _ h
theorem build_dl (x:DeclD) (Ap:Option Addr) (np cp:Nat) (Ac:Option Addr) (nc cc:Nat) (w:World):(Instr.buildSlice 42 1 #[(0,.agg (dlCells x Ap np cp Ac nc cc))]).run Tryd.prog w=.ok (.slice (some ⟨w.heap.size,0,none⟩) 1 1) (w.alloc (.cells (dlCells x Ap np cp Ac nc cc) 40)):=by
 unfold dlCells;go_simp
structure Heads (l:List DeclD) (s:SigD):Prop where
 ok:foldE headE givenS l=.ok s
 dl:s.datas.length=9+l.length
 le:s.datas.length≤40
 cons:s.cons=givenS.cons
theorem Heads.nil:Heads [] givenS:=⟨rfl,by rw[given_datas]; rfl,by rw[given_datas]; decide,rfl⟩
theorem Heads.go {l:List DeclD} {s:SigD} (h:Heads l s) {x:DeclD} (hx:headN s x=0):Heads (l++[x]) ⟨s.datas++[⟨x.name,x.params.length,[]⟩],s.cons⟩:=by
 have h1:headE s x=.ok ⟨s.datas++[⟨x.name,x.params.length,[]⟩],s.cons⟩:=by rw[headE_n,hx]; rfl
 have h40:¬ 40≤s.datas.length:=fun q=>by
  unfold headN at hx
  split at hx
  · cases hx
  · first | (rw[if_pos q] at hx; cases hx) | cases hx
 refine⟨by rw[foldE_snoc,h.ok]; exact h1,?_,?_,h.cons⟩
 · have:=h.dl
   simp only[List.length_append,List.length_singleton];omega
 · simp only[List.length_append,List.length_singleton]
   omega
theorem Heads.err {l:List DeclD} {k:Nat} (hk:k<l.length) {s:SigD} (h:Heads (ownL (l.take k)) s) (h2:l[k].k≠2) (hx:headN s l[k]≠0):checkE givenS l=.error ⟨headN s l[k],l[k].p⟩:=by
 have h1:headE s l[k]=.error ⟨headN s l[k],l[k].p⟩:=by rw[headE_n,if_pos hx]
 have hs:ownL l=ownL (l.take (k+1))++ownL (l.drop (k+1)):=by
  unfold ownL;rw[← List.filter_append,List.take_append_drop]
 have h3:foldE headE givenS (ownL l)=.error ⟨headN s l[k],l[k].p⟩:=by
  rw[hs];refine foldE_pre _ _ _ _ _ ?_;rw[ownL_take_own hk h2,foldE_snoc,h.ok];exact h1
 unfold checkE
 rw[headsE_eq,show(l.filter fun d=>d.k≠2)=ownL l from rfl,h3]
theorem Heads.check {l:List DeclD} {s:SigD} (h:Heads (ownL l) s):checkE givenS l=match foldE bodyS (9,s) (ownL l) with
  | .error g=>.error g
  | .ok q=>.ok q.2:=by
 unfold checkE
 rw[headsE_eq,show(l.filter fun d=>d.k≠2)=ownL l from rfl,h.ok,given_datas]
 simp only;rw[bodiesE_eq]
 cases foldE bodyS (9,s) (ownL l) <;> rfl
theorem fold_err {S X:Type} {step:S→X→Except DiagD S} {s0 s:S} {l:List X} {k:Nat} (hk:k<l.length) (h:foldE step s0 (l.take k)=.ok s) {g:DiagD} (hg:step s l[k]=.error g):foldE step s0 l=.error g:=by
 have h1:foldE step s0 (l.take (k+1))=.error g:=by
  rw[List.take_succ_eq_append_getElem hk,foldE_snoc,h];exact hg
 have h2:=foldE_pre step (l.take (k+1)) (l.drop (k+1)) s0 g h1;rwa [List.take_append_drop] at h2
theorem fold_ok {S X:Type} {step:S→X→Except DiagD S} {s0 s s':S} {l:List X} {k:Nat} (hk:k<l.length) (h:foldE step s0 (l.take k)=.ok s) (hg:step s l[k]=.ok s'):foldE step s0 (l.take (k+1))=.ok s':=by
 rw[List.take_succ_eq_append_getElem hk,foldE_snoc,h];exact hg
def conS (n:Nat) (ps:List ByteArray) (s:SigD) (c:ConW):Except DiagD SigD:=conE s n ps c
theorem bodyE_nil {n:Nat} {s:SigD} {d:DeclD} (h:d.cons=[]):bodyE n s d=.error ⟨2,d.p⟩:=by unfold bodyE; rw[if_pos h]
theorem bodyE_go {n:Nat} {s:SigD} {d:DeclD} (h:d.cons≠[]):bodyE n s d=foldE (conS n d.params) s d.cons:=by unfold bodyE; rw[if_neg h,consE_eq]; rfl
theorem bodyS_err {q:Nat × SigD} {d:DeclD} {g:DiagD} (h:bodyE q.1 q.2 d=.error g):bodyS q d=.error g:=by unfold bodyS; rw[h]
theorem bodyS_go {q:Nat × SigD} {d:DeclD} {s':SigD} (h:bodyE q.1 q.2 d=.ok s'):bodyS q d=.ok (q.1+1,s'):=by unfold bodyS; rw[h]
def ConK (s:SigD) (ps:List ByteArray) (n:Nat) (x:ConW) (R:Nat→Prop) (u0 u1:Array Value) (w:World):Prop:=
 ∃ (l:List (Int × TyD)) (A5:Option Addr) (c5:Nat) (A6:Option Addr) (c6:Nat) (d:DiagD),u0=cn4 x.name n (.slice A5 l.length c5) (.slice A6 l.length c6)∧u1=dgC d∧CelsV w R (encCn ⟨x.name,n,l.map Prod.snd,l.map Prod.fst⟩) [.string x.name,.int .i64 n,.slice A5 l.length c5,.slice A6 l.length c6]∧ConSp s ps n x l d
theorem ConK.keep {s:SigD} {ps:List ByteArray} {n:Nat} {x:ConW} {R:Nat→Prop} {u0 u1:Array Value} {w w':World} (h:ConK s ps n x R u0 u1 w) (hk:∀ b,R b→w'.heap[b]?=w.heap[b]?):ConK s ps n x R u0 u1 w':=by
 obtain⟨l,A5,c5,A6,c6,d,h1,h2,h3,h4⟩:=h;exact⟨l,A5,c5,A6,c6,d,h1,h2,h3.keep (fun _ h=>h) fun p hp=>World.cell?_of_block (hk _ hp),h4⟩
theorem cn4_one (nm:ByteArray) (n:Int) (A5:Option Addr) (m5 c5:Nat) (A6:Option Addr) (m6 c6:Nat):(cn4 nm n (.slice A5 m5 c5) (.slice A6 m6 c6)).all (·.oneCell')=true:=by simp[cn4,Value.oneCell']
theorem RKs.at_ {wz wx:World} {g B:Nat} {Ao:Option Addr} {no co:Nat} {own:List DeclD} {s:SigD} {vd vc:Value} {vs:List Value} (h:RKs wz g B (.slice Ao no co) no own s vd vc vs wx) (h0:0<no):∃ go,Ao=some ⟨go,0,none⟩:=by
 obtain⟨_,cs,h1,_⟩:=h.ow;obtain⟨go,e,_⟩:=own_addr h1 h0;exact⟨go,e⟩
theorem RKs.dcl {wz wx:World} {g B go:Nat} {no co:Nat} {own:List DeclD} {s:SigD} {vd vc:Value} {vs:List Value} (h:RKs wz g B (.slice (some ⟨go,0,none⟩) no co) no own s vd vc vs wx) {k:Nat} (hk:k<own.length):∃ Ap np cp Ac nc cc,(∀ j,j<16→wx.cell? ⟨go,k * 16+j,none⟩=(dlCells own[k] Ap np cp Ac nc cc)[j]?)∧Sl wx (Lt B) encS 1 own[k].params Ap np cp∧Sl wx (Lt B) encC 5 own[k].cons Ac nc cc:=by
 obtain⟨h0,cs,h1,h2⟩:=h.ow;obtain⟨Ap,np,cp,Ac,nc,cc,a1,a2,a3,_⟩:=(h2 k hk).cells h1 (by omega);exact⟨Ap,np,cp,Ac,nc,cc,a1,a2,a3⟩
end Go.Proofs.YtgpeijkjmkocgaaDoor
