import Derived.Test.YtgpeijkjmkocgaaDoorM5
set_option linter.unusedVariables false
set_option linter.unusedSimpArgs false
set_option maxHeartbeats 1000000
set_option maxRecDepth 100000
namespace Go.Proofs.YtgpeijkjmkocgaaDoor
open Go.RowKit
structure PosD where
 at_:Int
 line:Int
 col:Int
structure DiagD where
 e:Int
 p:PosD
def posZ:PosD:=⟨0,0,0⟩
def diagZ:DiagD:=⟨0,posZ⟩
inductive TyW
 | mk (k:Int) (s:ByteArray) (m:Int) (p:PosD) (l:List TyW)
def TyW.k:TyW→Int | .mk k _ _ _ _=>k
def TyW.s:TyW→ByteArray | .mk _ s _ _ _=>s
def TyW.m:TyW→Int | .mk _ _ m _ _=>m
def TyW.p:TyW→PosD | .mk _ _ _ p _=>p
def TyW.l:TyW→List TyW | .mk _ _ _ _ l=>l
def nodesW:TyW→Nat
 | .mk _ _ _ _ l=>1+nodesWL l
where nodesWL:List TyW→Nat
 | []=>0
 | t :: r=>nodesW t+nodesWL r
theorem nodesW_eq (t:TyW):nodesW t=1+nodesW.nodesWL t.l:=by cases t; rw[nodesW]; rfl
theorem nodesWL_mem {l:List TyW} {t:TyW} (h:t∈l):nodesW t≤nodesW.nodesWL l:=by
 induction l with
 | nil=>cases h
 | cons x l ih=>
   rw[nodesW.nodesWL]
   rcases qk.1 h with rfl | h
   · omega
   · have:=ih h; omega
theorem nodesW_get {t:TyW} {i:Nat} (h:i<t.l.length):nodesW t.l[i]<nodesW t:=by
 have:=nodesWL_mem (List.getElem_mem h);rw[nodesW_eq t];omega
theorem tyW_ind {P:TyW→Prop} (h:∀ t,(∀ x∈t.l,P x)→P t) (t:TyW):P t:=by
 obtain⟨n,hn⟩:∃ n,nodesW t≤n:=⟨_,Nat.le_refl _⟩
 induction n generalizing t with
 | zero=>rw[nodesW_eq] at hn; omega
 | succ n ih=>
   refine h t fun x hx=>ih x ?_;have:=nodesWL_mem hx;rw[nodesW_eq] at hn;omega
structure FieldD where
 m:Int
 t:TyW
structure ConW where
 name:ByteArray
 p:PosD
 fields:List FieldD
structure DeclD where
 k:Int
 name:ByteArray
 p:PosD
 params:List ByteArray
 cons:List ConW
 rec_:Bool
 e0:Value
 e1:Value
 e2:Value
 e3:Value
 e4:Value
 e5:Value
 e6:Value
 e7:Value
structure DataD where
 name:ByteArray
 params:Int
 cons:List Int
structure ConD where
 name:ByteArray
 data:Int
 fields:List TyD
 mults:List Int
structure SigD where
 datas:List DataD
 cons:List ConD
def encI (i:Int):List Cel:=[.v (.int .i64 i)]
def encU (i:Int):List Cel:=[.v (.int .u8 i)]
def encS (s:ByteArray):List Cel:=[.v (.string s)]
def encW:TyW→List Cel
 | .mk k s m p l=>[.v (.int .u8 k),.v (.string s),.v (.int .u8 m),.v (.int .i64 p.at_),.v (.int .i64 p.line),.v (.int .i64 p.col),.s 7 (encWL l)]
where encWL:List TyW→List Cel
 | []=>[]
 | t :: r=>encW t++encWL r
theorem encWL_flat (l:List TyW):encW.encWL l=l.flatMap encW:=by
 induction l with
 | nil=>rfl
 | cons t r ih=>rw[encW.encWL,ih,List.flatMap_cons]
theorem encW_eq (t:TyW):encW t=[.v (.int .u8 t.k),.v (.string t.s),.v (.int .u8 t.m),.v (.int .i64 t.p.at_),.v (.int .i64 t.p.line),.v (.int .i64 t.p.col),.s 7 (t.l.flatMap encW)]:=by
 cases t; rw[encW,encWL_flat]; rfl
theorem encW_len (t:TyW):(encW t).length=7:=by rw[encW_eq]; rfl
def encF (f:FieldD):List Cel:=.v (.int .u8 f.m) :: encW f.t
theorem encF_len (f:FieldD):(encF f).length=8:=by rw[encF,List.length_cons,encW_len]
def encC (c:ConW):List Cel:=[.v (.string c.name),.v (.int .i64 c.p.at_),.v (.int .i64 c.p.line),.v (.int .i64 c.p.col),.s 8 (c.fields.flatMap encF)]
theorem encC_len (c:ConW):(encC c).length=5:=rfl
def encD (d:DeclD):List Cel:=[.v (.int .u8 d.k),.v (.string d.name),.v (.int .i64 d.p.at_),.v (.int .i64 d.p.line),.v (.int .i64 d.p.col),.s 1 (d.params.flatMap encS),.s 5 (d.cons.flatMap encC),.v (.bool d.rec_),
 .v d.e0,.v d.e1,.v d.e2,.v d.e3,.v d.e4,.v d.e5,.v d.e6,.v d.e7]
theorem encD_len (d:DeclD):(encD d).length=16:=rfl
def encDt (d:DataD):List Cel:=[.v (.string d.name),.v (.int .i64 d.params),.s 1 (d.cons.flatMap encI)]
theorem encDt_len (d:DataD):(encDt d).length=3:=rfl
def encCn (c:ConD):List Cel:=[.v (.string c.name),.v (.int .i64 c.data),.s 5 (c.fields.flatMap encT),.s 1 (c.mults.flatMap encU)]
theorem encCn_len (c:ConD):(encCn c).length=4:=rfl
def nInt:ByteArray:=⟨#[73,110,116]⟩
def nStr:ByteArray:=⟨#[83,116,114]⟩
def nIo:ByteArray:=⟨#[73,111]⟩
def nFile:ByteArray:=⟨#[70,105,108,101]⟩
def nArr:ByteArray:=⟨#[65,114,114]⟩
def baseK (s:ByteArray):Int × Int:=if s=nInt then (2,0) else if s=nStr then (3,0) else if s=nIo then (4,0) else if s=nFile then (5,0) else if s=nArr then (6,1) else (0, -1)
def idxP {X:Type} (p:X→Bool) (l:List X):Int:=match l.findIdx? p with
 | some i=>i
 | none => -1
def idxS (l:List ByteArray) (s:ByteArray):Int:=idxP (fun x=>decide (x=s)) l
def idxD (l:List DataD) (s:ByteArray):Int:=idxP (fun x=>decide (x.name=s)) l
def idxC (l:List ConD) (s:ByteArray):Int:=idxP (fun x=>decide (x.name=s)) l
def nodeE (ds:List DataD) (ps:List ByteArray) (k:Int) (s:ByteArray) (m:Int) (n:Nat):Except Int ((Int × Int × Int) × Int):=
 if k=1 then (if idxS ps s<0 then .error 131 else .ok ((1,idxS ps s,0),0))
 else if k=2 then
  (if (baseK s).2<0 then
    (if idxD ds s<0 then .error 131 else .ok ((8,idxD ds s,0),((ds[(idxD ds s).toNat]?).map DataD.params).getD 0))
  else .ok (((baseK s).1,0,0),(baseK s).2))
 else if k=3 then (if n≠2∨m<1∨3<m then .error 2 else .ok ((7,0,m),2))
 else .error 2
def tyE (ds:List DataD) (ps:List ByteArray):TyW→Except DiagD TyD
 | .mk k s m p l=>match nodeE ds ps k s m l.length with
   | .error e=>.error ⟨e,p⟩
   | .ok ((k',n',c'),want)=>if (l.length:Int)≠want then .error ⟨132,p⟩ else
     match tyEL l with
     | .error g=>.error g
     | .ok ks=>.ok (.mk k' n' 0 c' ks)
where tyEL:List TyW→Except DiagD (List TyD)
 | []=>.ok []
 | t :: r=>match tyE ds ps t with
   | .error g=>.error g
   | .ok x=>match tyEL r with
     | .error g=>.error g
     | .ok xs=>.ok (x :: xs)
theorem tyE_eq (ds:List DataD) (ps:List ByteArray) (t:TyW):tyE ds ps t=match nodeE ds ps t.k t.s t.m t.l.length with
  | .error e=>.error ⟨e,t.p⟩
  | .ok ((k',n',c'),want)=>if (t.l.length:Int)≠want then .error ⟨132,t.p⟩ else
    match tyE.tyEL ds ps t.l with
    | .error g=>.error g
    | .ok ks=>.ok (.mk k' n' 0 c' ks):=by
 cases t
 rw[tyE];rfl
def twiceP (ps:List ByteArray):Bool:=(List.range (min ps.length 4)).any fun i=>(ps.take i).any fun x=>decide (x=ps.getD i ⟨#[]⟩)
def headE (s:SigD) (d:DeclD):Except DiagD SigD:=
 if d.k≠1 then .error ⟨2,d.p⟩
 else if 40≤s.datas.length then .error ⟨3,d.p⟩
 else if 0≤(baseK d.name).2∨0≤idxD s.datas d.name then .error ⟨130,d.p⟩
 else if 4<d.params.length then .error ⟨3,d.p⟩
 else if twiceP d.params then .error ⟨130,d.p⟩
 else .ok ⟨s.datas++[⟨d.name,d.params.length,[]⟩],s.cons⟩
def fieldsE (ds:List DataD) (ps:List ByteArray) (p:PosD):List FieldD→Except DiagD (List (Int × TyD))
 | []=>.ok []
 | f :: r=>
   if f.m<1∨3<f.m then .error ⟨2,p⟩ else
   match tyE ds ps f.t with
   | .error g=>.error g
   | .ok t=>if 300<sizeW t then .error ⟨3,p⟩ else
     match fieldsE ds ps p r with
     | .error g=>.error g
     | .ok fs=>.ok ((f.m,t) :: fs)
def addCon (s:SigD) (n:Nat) (c:ConD):SigD:=⟨s.datas.modify n fun d => { d with cons:=d.cons++[(s.cons.length:Int)] },s.cons++[c]⟩
def conE (s:SigD) (n:Nat) (ps:List ByteArray) (c:ConW):Except DiagD SigD:=
 if 100≤s.cons.length then .error ⟨3,c.p⟩
 else if 0≤idxC s.cons c.name then .error ⟨130,c.p⟩
 else if 8<c.fields.length then .error ⟨3,c.p⟩
 else match fieldsE s.datas ps c.p c.fields with
  | .error g=>.error g
  | .ok fs=>.ok (addCon s n ⟨c.name,n,fs.map (·.2),fs.map (·.1)⟩)
def consE (n:Nat) (ps:List ByteArray):SigD→List ConW→Except DiagD SigD
 | s,[]=>.ok s
 | s,c :: r=>match conE s n ps c with
   | .error g=>.error g
   | .ok s'=>consE n ps s' r
def headsE:SigD→List DeclD→Except DiagD SigD
 | s,[]=>.ok s
 | s,d :: r=>match headE s d with
   | .error g=>.error g
   | .ok s'=>headsE s' r
def bodiesE:Nat→SigD→List DeclD→Except DiagD SigD
 | _,s,[]=>.ok s
 | n,s,d :: r=>if d.cons=[] then .error ⟨2,d.p⟩ else
   match consE n d.params s d.cons with
   | .error g=>.error g
   | .ok s'=>bodiesE (n+1) s' r
def checkE (given:SigD) (l:List DeclD):Except DiagD SigD:=
 match headsE given (l.filter fun d=>d.k≠2) with
 | .error g=>.error g
 | .ok s=>bodiesE given.datas.length s (l.filter fun d=>d.k≠2)
def DiagD.then_ {X:Type} (d:DiagD) (r:Except DiagD X):DiagD:=if d.e≠0 then d else match r with
 | .error g=>g
 | .ok _=>d
theorem own_lt {w:World} {base:Nat} {e:TypeId} {size:Nat} {v:Value} {n:Nat} {xs:List Value} (h:w.ownsRow base e size v n xs) {b:Nat} (hb:v.ownBlock=some b):base≤b∧b<w.heap.size:=h.lt b hb
theorem own_block {w w':World} {base:Nat} {e:TypeId} {size:Nat} {v:Value} {n:Nat} {xs:List Value} (h:w.ownsRow base e size v n xs) (hb:∀ b,v.ownBlock=some b→w'.heap[b]?=w.heap[b]?):w'.ownsRow base e size v n xs:=by
 refine⟨h.1,?_⟩
 rcases h.2 with q | ⟨g,cap,cur,e1,e2,e3,e4⟩
 · exact Or.inl q
 · exact Or.inr ⟨g,cap,cur,e1,e2,by rw[hb g (by rw[e1]; rfl)]; exact e3,e4⟩
theorem own_grown {w w':World} {base:Nat} {e:TypeId} {size:Nat} {v u:Value} {n:Nat} {xs:List Value} (hg:w.grownBy w' u.ownBlock) (h:w.ownsRow base e size v n xs) (hs:∀ b,u.ownBlock=some b→v.ownBlock≠some b):w'.ownsRow base e size v n xs:=
 own_block h fun b hb=>hg.block b (own_lt h hb).2 fun e=>hs b e.symm hb
theorem OwnC.grown {w w':World} {base:Nat} {e:TypeId} {k:Nat} {R R':Nat→Prop} {v:Value} {n:Nat} {l:List Cel} (h:OwnC w base e k R v n l) {row:Option Nat} (hg:w.grownBy w' row) (hv:∀ b,row=some b→v.ownBlock≠some b) (hR:∀ b,row=some b→R b∨w.heap.size≤b)
  (hR':∀ b,b<w.heap.size→R' b→R b):OwnC w' base e k R' v n l:=by
 obtain⟨h0,cs,h1,h2⟩:=h;refine⟨h0,cs,own_block h1 fun b hb=>hg.block b (own_lt h1 hb).2 fun e=>hv b e.symm hb,h2.keep (fun b h=>⟨Nat.lt_of_lt_of_le h.1 hg.size,h.2.1,fun q=>h.2.2 (hR' b h.1 q)⟩) fun p hp=>?_⟩;refine World.cell?_of_block (hg.block p.block hp.1 fun e=>?_)
 rcases hR _ e.symm with q | q
 · exact hp.2.2 q
 · have:=hp.1; omega
theorem OwnC.lt' {w:World} {base:Nat} {e:TypeId} {k:Nat} {R:Nat→Prop} {v:Value} {n:Nat} {l:List Cel} (h:OwnC w base e k R v n l) {b:Nat} (hb:v.ownBlock=some b):base≤b∧b<w.heap.size:=h.lt b hb
def dCells:List DataD→List Value→List Value
 | d :: ds,v :: vs=>.string d.name :: .int .i64 d.params :: v :: dCells ds vs
 | _,_=>[]
theorem dCells_append:∀ {ds:List DataD} {vs:List Value} (d:DataD) (v:Value),vs.length=ds.length→dCells (ds++[d]) (vs++[v])=dCells ds vs++[.string d.name,.int .i64 d.params,v]
 | [],[],d,v,_=>rfl
 | x :: ds,u :: vs,d,v,h=>by
   have:=dCells_append (ds:=ds) (vs:=vs) d v (by simpa using h);show _ :: _ :: _ :: dCells (ds++[d]) (vs++[v])=_
   rw[this]; rfl
 | [],_ :: _,_,_,h=>by simp at h
 | _ :: _,[],_,_,h=>by simp at h
theorem dCells_get:∀ {ds:List DataD} {vs:List Value} (h:vs.length=ds.length) (i:Nat) (hi:i<ds.length) (hi':i<vs.length),
  (dCells ds vs)[i * 3]?=some (.string ds[i].name)∧(dCells ds vs)[i * 3+1]?=some (.int .i64 ds[i].params)∧(dCells ds vs)[i * 3+2]?=some vs[i]
 | d :: ds,v :: vs,h,0,_,_=>⟨rfl,rfl,rfl⟩
 | d :: ds,v :: vs,h,i+1,hi,hi'=>by
   have:=dCells_get (ds:=ds) (vs:=vs) (by simpa using h) i (by simpa using hi) (by simpa using hi')
   have e:∀ k,(dCells (d :: ds) (v :: vs))[(i+1) * 3+k]?=(dCells ds vs)[i * 3+k]?:=fun k=>by
    show(_ :: _ :: _ :: dCells ds vs)[(i+1) * 3+k]?=_
    rw[show(i+1) * 3+k=i * 3+k+1+1+1 from by omega]
    rfl
   exact⟨(e 0).trans this.1,(e 1).trans this.2.1,(e 2).trans this.2.2⟩
theorem dCells_set:∀ {ds:List DataD} {vs:List Value} (h:vs.length=ds.length) (i:Nat) (v:Value) (f:DataD→DataD) (hf:∀ d,(f d).name=d.name∧(f d).params=d.params),i<ds.length →
  (dCells ds vs).set (i * 3+2) v=dCells (ds.modify i f) (vs.set i v)
 | d :: ds,u :: vs,h,0,v,f,hf,_=>by
   show _ :: _ :: v :: dCells ds vs=.string (f d).name :: .int .i64 (f d).params :: v :: dCells ds vs;rw[(hf d).1,(hf d).2]
 | d :: ds,u :: vs,h,i+1,v,f,hf,hi=>by
   have:=dCells_set (ds:=ds) (vs:=vs) (by simpa using h) i v f hf (by simpa using hi);show(_ :: _ :: _ :: dCells ds vs).set ((i+1) * 3+2) v=.string d.name :: .int .i64 d.params :: u :: dCells (ds.modify i f) (vs.set i v)
   rw[show(i+1) * 3+2=(i * 3+2)+1+1+1 from by omega,← this]
   rfl
def Apart (R:Nat→Prop) (vd:Value) (vs:List Value):Nat→Prop:=fun b=>R b∨vd.ownBlock=some b∨∃ v∈vs,v.ownBlock=some b
structure SigM (w:World) (base:Nat) (R:Nat→Prop) (s:SigD) (vd vc:Value) (vs:List Value):Prop where
 len:vs.length=s.datas.length
 od:w.ownsRow base 52 3 vd s.datas.length (dCells s.datas vs)
 oi:∀ j (h:j<vs.length) (h':j<s.datas.length),w.ownsRow base 3 1 vs[j] s.datas[j].cons.length (s.datas[j].cons.map (Value.int .i64))
 oc:OwnC w base 58 4 (Apart R vd vs) vc s.cons.length (s.cons.flatMap encCn)
 sdc:∀ b,vd.ownBlock=some b→vc.ownBlock≠some b
 sd:∀ b,vd.ownBlock=some b→∀ v∈vs,v.ownBlock≠some b
 sc:∀ b,vc.ownBlock=some b→∀ v∈vs,v.ownBlock≠some b
 sep:∀ i j b (hi:i<vs.length) (hj:j<vs.length),vs[i].ownBlock=some b→vs[j].ownBlock=some b→i=j
section
variable {w w':World} {base:Nat} {R:Nat→Prop} {s:SigD} {vd vc:Value} {vs:List Value}
theorem SigM.nil (w:World) (base:Nat) (R:Nat→Prop):SigM w base R ⟨[],[]⟩ (.slice none 0 0) (.slice none 0 0) []:=
 ⟨rfl,World.ownsRow_nil _ _ _ _,fun j h=>absurd h (by simp),OwnC.nil,fun b e=>absurd e (by simp[Value.ownBlock]),fun b e=>absurd e (by simp[Value.ownBlock]),fun b e=>absurd e (by simp[Value.ownBlock]),fun i j b hi=>absurd hi (by simp)⟩
theorem SigM.below (h:SigM w base R s vd vc vs) (hb:Below w.heap.size w w'):SigM w' base R s vd vc vs:=
 ⟨h.len,ownsRow_beyond h.od hb,fun j hj hj'=>ownsRow_beyond (h.oi j hj hj') hb,h.oc.beyond hb,h.sdc,h.sd,h.sc,h.sep⟩
theorem SigM.set (h:SigM w base R s vd vc vs) {p:Addr} (hp:p.block<base) (hR:R p.block) (u:Value):SigM (w.setCell p u) base R s vd vc vs:=
 ⟨h.len,ownsRow_setCell_below h.od hp u,fun j hj hj'=>ownsRow_setCell_below (h.oi j hj hj') hp u,h.oc.set hp (Or.inl hR) u,h.sdc,h.sd,h.sc,h.sep⟩
def RowB (vd vc:Value) (vs:List Value) (b:Nat):Prop:=vd.ownBlock=some b∨vc.ownBlock=some b∨∃ v∈vs,v.ownBlock=some b
theorem SigM.setR (h:SigM w base R s vd vc vs) {p:Addr} (hp:¬ RowB vd vc vs p.block) (hR:R p.block) (u:Value):SigM (w.setCell p u) base R s vd vc vs:=by
 have hset:∀ {t:TypeId} {size:Nat} {v:Value} {m:Nat} {us:List Value},w.ownsRow base t size v m us→v.ownBlock≠some p.block→(w.setCell p u).ownsRow base t size v m us:=fun h1 h2=>own_block h1 fun b e=>by
  refine Below.heap_setCell _ _ _ _ fun e2=>?_;subst e2;exact h2 e
 refine⟨h.len,hset h.od fun e=>hp (Or.inl e),fun j hj hj'=>hset (h.oi j hj hj') fun e=>hp (Or.inr (Or.inr ⟨_,List.getElem_mem hj,e⟩)),?_,h.sdc,h.sd,h.sc,h.sep⟩;obtain⟨h0,cs,h1,h2⟩:=h.oc
 refine⟨h0,cs,hset h1 fun e=>hp (Or.inr (Or.inl e)),h2.keep (fun b hb=>⟨by rw[World.size_setCell]; exact hb.1,hb.2.1,hb.2.2⟩) fun q hq=>World.cell?_setCell_other _ _ _ _ fun e=>hq.2.2 (Or.inl (by rw[← e]; exact hR))⟩
theorem SigM.rowLt (h:SigM w base R s vd vc vs) {v:Value} (hv:v∈vs) {b:Nat} (e:v.ownBlock=some b):base≤b∧b<w.heap.size:=by
 obtain⟨i,hi,rfl⟩:=List.getElem_of_mem hv
 exact own_lt (h.oi i hi (by rw[← h.len]; exact hi)) e
theorem SigM.data (h:SigM w base R s vd vc vs) {vd':Value} {name:ByteArray} {params:Int} (ho:w'.ownsRow base 52 3 vd' (s.datas.length+1) (dCells s.datas vs++[.string name,.int .i64 params,.slice none 0 0])) (hg:w.grownBy w' vd.ownBlock)
  (hn:vd'.ownBlock=vd.ownBlock∨vd'.ownBlock=some w.heap.size):SigM w' base R ⟨s.datas++[⟨name,params,[]⟩],s.cons⟩ vd' vc (vs++[.slice none 0 0]):=by
 have hnil:(Value.slice none 0 0).ownBlock=none:=rfl
 have hlen:(vs++[Value.slice none 0 0]).length=(s.datas++[(⟨name,params,[]⟩:DataD)]).length:=by simp[h.len]
 have hm:∀ {b:Nat} {v:Value},v∈vs++[Value.slice none 0 0]→v.ownBlock=some b→v∈vs:=fun hv e=>by
  rcases List.mem_append.1 hv with q | q
  · exact q
  · rw[List.mem_singleton.1 q] at e; cases e
 refine⟨hlen,?_,fun j hj hj'=>?_,?_,fun b e e2=>?_,fun b e v hv e2=>?_,fun b e v hv e2=>h.sc b e v (hm hv e2) e2,fun i j b hi hj ei ej=>?_⟩
 · rw[dCells_append _ _ h.len,List.length_append]
   exact ho
 · by_cases q:j<vs.length
   · have q':j<s.datas.length:=by rw[← h.len]; exact q
     have:=own_grown hg (h.oi j q q') fun b e=>h.sd b e _ (List.getElem_mem q)
     simpa[List.getElem_append_left q,List.getElem_append_left q'] using this
   · have e1:j=vs.length:=by simp at hj; omega
     have e2:j=s.datas.length:=by rw[e1,h.len]
     subst e2;rw[List.getElem_append_right (by omega),List.getElem_append_right (by omega)];simp only[h.len,Nat.sub_self,qe];exact World.ownsRow_nil _ _ _ _
 · refine h.oc.grown hg (fun b e=>h.sdc b e) (fun b e=>Or.inl (Or.inr (Or.inl e))) fun b hb q=>?_
   rcases q with q | q | ⟨v,hv,q⟩
   · exact Or.inl q
   · rcases hn with e | e
     · exact Or.inr (Or.inl (e ▸ q))
     · rw[e] at q; cases q; omega
   · exact Or.inr (Or.inr ⟨v,hm hv q,q⟩)
 · rcases hn with q | q
   · exact h.sdc b (q ▸ e) e2
   · rw[q] at e
     have:=(h.oc.lt' e2).2
     cases e; omega
 · have hv':=hm hv e2
   rcases hn with q | q
   · exact h.sd b (q ▸ e) v hv' e2
   · rw[q] at e
     have:=(h.rowLt hv' e2).2
     cases e; omega
 · have hi':i<vs.length:=by
    rcases Nat.lt_or_ge i vs.length with q | q
    · exact q
    · rw[List.getElem_append_right q,List.getElem_singleton] at ei; cases ei
   have hj':j<vs.length:=by
    rcases Nat.lt_or_ge j vs.length with q | q
    · exact q
    · rw[List.getElem_append_right q,List.getElem_singleton] at ej; cases ej
   rw[List.getElem_append_left hi'] at ei;rw[List.getElem_append_left hj'] at ej;exact h.sep i j b hi' hj' ei ej
theorem SigM.con (h:SigM w base R s vd vc vs) {vc':Value} {c:ConD} (ho:OwnC w' base 58 4 (Apart R vd vs) vc' (s.cons.length+1) (s.cons.flatMap encCn++encCn c)) (hg:w.grownBy w' vc.ownBlock) (hz:w.heap.size≤w'.heap.size)
  (hn:vc'.ownBlock=vc.ownBlock∨∃ b,vc'.ownBlock=some b∧w.heap.size≤b):SigM w' base R ⟨s.datas,s.cons++[c]⟩ vd vc' vs:=by
 refine⟨h.len,own_grown hg h.od fun b e e2=>h.sdc b e2 e,fun j hj hj'=>own_grown hg (h.oi j hj hj') fun b e=>h.sc b e _ (List.getElem_mem hj),?_,fun b e e2=>?_,h.sd,fun b e v hv e2=>?_,h.sep⟩
 · rw[List.length_append,List.flatMap_append,List.flatMap_cons,List.flatMap_nil,List.append_nil]
   exact ho
 · rcases hn with q | ⟨b',q,q'⟩
   · exact h.sdc b e (q ▸ e2)
   · rw[q] at e2
     have:=(own_lt h.od e).2
     cases e2; omega
 · rcases hn with q | ⟨b',q,q'⟩
   · exact h.sc b (q ▸ e) v hv e2
   · rw[q] at e
     have:=(h.rowLt hv e2).2
     cases e; omega
theorem SigM.num (h:SigM w base R s vd vc vs) {n:Nat} (hn:n<s.datas.length) {v':Value} {x:Int} (hi:n<vs.length) (ho:w'.ownsRow base 3 1 v' (s.datas[n].cons.length+1) (s.datas[n].cons.map (Value.int .i64)++[.int .i64 x])) (hg:w.grownBy w' vs[n].ownBlock)
  (hb:v'.ownBlock=vs[n].ownBlock∨∃ b,v'.ownBlock=some b∧w.heap.size≤b) {g:Nat} (hgd:vd.ownBlock=some g):
  SigM (w'.setCell ⟨g,n * 3+2,none⟩ v') base R ⟨s.datas.modify n fun d => { d with cons:=d.cons++[x] },s.cons⟩ vd vc (vs.set n v'):=by
 have hml:(s.datas.modify n fun d => { d with cons:=d.cons++[x] }).length=s.datas.length:=by simp
 have hvn:vs[n]∈vs:=List.getElem_mem hi;have hmem:∀ {v:Value},v∈vs.set n v'→v∈vs∨v=v':=fun hv=>(List.mem_or_eq_of_mem_set hv);have hold:∀ (b:Nat),vs[n].ownBlock=some b→v'.ownBlock=some b∨∃ b',v'.ownBlock=some b'∧w.heap.size≤b':=fun b e=>hb.imp (fun q=>q.trans e) id
 have hset:∀ {t:TypeId} {size:Nat} {v:Value} {m:Nat} {us:List Value},w'.ownsRow base t size v m us→(∀ b,vd.ownBlock=some b→v.ownBlock≠some b)→(w'.setCell ⟨g,n * 3+2,none⟩ v').ownsRow base t size v m us:=fun h1 h2=>own_block h1 fun b e=>by
  refine Below.heap_setCell _ _ _ _ fun e2=>?_;subst e2;exact h2 _ hgd e
 have hapart:∀ b,v'.ownBlock=some b→∀ (u:Value),(vs[n].ownBlock=some b→u.ownBlock≠some b)→(∀ c,u.ownBlock=some c→c<w.heap.size)→u.ownBlock≠some b:=fun b e u h1 h2 e2=>by
  rcases hb with q | ⟨b',q,q'⟩
  · exact h1 (q ▸ e) e2
  · rw[q] at e
    cases e
    have:=h2 _ e2;omega
 have hod:=own_grown hg h.od fun b e e2=>h.sd b e2 _ hvn e
 refine⟨by rw[hml,List.length_set,h.len],?_,fun j hj hj'=>?_,?_,h.sdc,fun b e v hv e2=>?_,fun b e v hv e2=>?_,fun i j b hi' hj' ei ej=>?_⟩
 · obtain⟨A,c,rfl⟩:=ownsRow_form hod
   have hA:A=some ⟨g,0,none⟩:=by
    rcases hod.2 with ⟨e0,_⟩ | ⟨g',cap,cur,e0,_⟩
    · injection e0 with e1
      rw[e1] at hgd
      cases hgd
    · injection e0 with e1
      rw[e1] at hgd ⊢
      cases hgd; rfl
   subst hA;have:=(hod.stored (n * 3+2) v').1
   rw[dCells_set h.len n v' (fun d => { d with cons:=d.cons++[x] }) (fun d=>⟨rfl,rfl⟩) hn] at this
   rw[hml];exact this
 · have hj1:j<vs.length:=by simpa using hj
   have hj2:j<s.datas.length:=by rw[← h.len]; exact hj1
   by_cases q:n=j
   · subst q
     have e1:(vs.set n v')[n]=v':=by simp
     have e2:(s.datas.modify n fun d => { d with cons:=d.cons++[x] })[n].cons=s.datas[n].cons++[x]:=by simp[List.getElem_modify]
     rw[e1,e2,List.length_append,List.map_append];refine hset ho fun b e e2=>?_;exact hapart b e2 vd (fun e3=>fun e4=>h.sd b e4 _ hvn e3) (fun c e3=>(own_lt h.od e3).2) e
   · have e1:(vs.set n v')[j]=vs[j]:=by simp[List.getElem_set,q]
     have e2:(s.datas.modify n fun d => { d with cons:=d.cons++[x] })[j].cons=s.datas[j].cons:=by simp[List.getElem_modify,q]
     rw[e1,e2];refine hset (own_grown hg (h.oi j hj1 hj2) fun b e e3=>q (h.sep n j b hi hj1 e e3)) fun b e=>h.sd b e _ (List.getElem_mem hj1)
 · obtain⟨h0,cs,h1,h2⟩:=h.oc
   refine⟨h0,cs,hset (own_grown hg h1 fun b e e2=>h.sc b e2 _ hvn e) h.sdc,h2.keep (fun b hb'=>⟨?_,hb'.2.1,fun q=>?_⟩) fun p hp=>?_⟩
   · rw[World.cell?_setCell_other _ _ _ _ (fun e=>hp.2.2 (Or.inr (Or.inl (by rw[← e]; exact hgd))))]
     exact World.cell?_of_block (hg.block p.block hp.1 fun e=>hp.2.2 (Or.inr (Or.inr ⟨_,hvn,e.symm⟩)))
   · rw[World.size_setCell]
     exact Nat.lt_of_lt_of_le hb'.1 hg.size
   · rcases q with q | q | ⟨v,hv,q⟩
     · exact hb'.2.2 (Or.inl q)
     · exact hb'.2.2 (Or.inr (Or.inl q))
     · rcases hmem hv with hv | rfl
       · exact hb'.2.2 (Or.inr (Or.inr ⟨v,hv,q⟩))
       · rcases hb with e | ⟨b',e,e'⟩
         · exact hb'.2.2 (Or.inr (Or.inr ⟨_,hvn,e ▸ q⟩))
         · rw[e] at q; cases q
           have:=hb'.1; omega
 · rcases hmem hv with hv | rfl
   · exact h.sd b e v hv e2
   · exact hapart b e2 vd (fun e3=>fun e4=>h.sd b e4 _ hvn e3) (fun c e3=>(own_lt h.od e3).2) e
 · rcases hmem hv with hv | rfl
   · exact h.sc b e v hv e2
   · exact hapart b e2 vc (fun e3=>fun e4=>h.sc b e4 _ hvn e3) (fun c e3=>(h.oc.lt' e3).2) e
 · have hi1:i<vs.length:=by simpa using hi'
   have hj1:j<vs.length:=by simpa using hj'
   rw[List.getElem_set] at ei ej
   split at ei
   · split at ej
     · omega
     · rename_i q1 q2
       subst q1;exact absurd ej (hapart b ei vs[j] (fun e3=>fun e4=>q2 (h.sep _ _ b hi hj1 e3 e4)) fun c e3=>(h.rowLt (List.getElem_mem hj1) e3).2)
   · split at ej
     · rename_i q1 q2
       subst q2;exact absurd ei (hapart b ej vs[i] (fun e3=>fun e4=>q1 (h.sep _ _ b hi hi1 e3 e4)) fun c e3=>(h.rowLt (List.getElem_mem hi1) e3).2)
     · exact h.sep i j b hi1 hj1 ei ej
end
theorem nm_eq (s a:ByteArray) (l:List UInt8) (h:a.toList=l):(s.toList==l)=decide (s=a):=by rw[← h]; exact str_eq
theorem nInt_l:nInt.toList=[73,110,116]:=by decide +kernel
theorem nStr_l:nStr.toList=[83,116,114]:=by decide +kernel
theorem nIo_l:nIo.toList=[73,111]:=by decide +kernel
theorem nFile_l:nFile.toList=[70,105,108,101]:=by decide +kernel
theorem nArr_l:nArr.toList=[65,114,114]:=by decide +kernel
theorem base_any (s:ByteArray) (w:World):Calls Tryd.prog 68 #[.string s] w fun e w'=>e=.returned (.tuple #[.int .u8 (baseK s).1,.int .i64 (baseK s).2])∧w'=w:=by
 have q1:=nm_eq s nInt _ nInt_l;have q2:=nm_eq s nStr _ nStr_l;have q3:=nm_eq s nIo _ nIo_l;have q4:=nm_eq s nFile _ nFile_l;have q5:=nm_eq s nArr _ nArr_l
 by_cases h1:s=nInt
 · rw[decide_eq_true h1] at q1
   have HR:Hid (baseK s=(2,0)):=qq (by unfold baseK; rw[if_pos h1])
   have HQ:=qq (And.intro q1 (And.intro q2 (And.intro q3 (And.intro q4 q5))));clear q1 q2 q3 q4 q5 h1;obtain⟨q1,q2,q3,q4,q5⟩:=HQ.out
   go_enter Tryd.func68,Tryd.ntmps68
   go_wp2_with fail
   exact bodyPost_ret (v:=.tuple #[.int .u8 (2),.int .i64 (0)]) (by simp[results,Tryd.results68,go_sem]) rfl ⟨by rw[HR.out],rfl⟩
 · rw[decide_eq_false h1] at q1
   by_cases h2:s=nStr
   · rw[decide_eq_true h2] at q2
     have HR:Hid (baseK s=(3,0)):=qq (by unfold baseK; rw[if_neg h1,if_pos h2])
     have HQ:=qq (And.intro q1 (And.intro q2 (And.intro q3 (And.intro q4 q5))));clear q1 q2 q3 q4 q5 h1 h2;obtain⟨q1,q2,q3,q4,q5⟩:=HQ.out
     go_enter Tryd.func68,Tryd.ntmps68
     go_wp2_with fail
     exact bodyPost_ret (v:=.tuple #[.int .u8 (3),.int .i64 (0)]) (by simp[results,Tryd.results68,go_sem]) rfl ⟨by rw[HR.out],rfl⟩
   · rw[decide_eq_false h2] at q2
     by_cases h3:s=nIo
     · rw[decide_eq_true h3] at q3
       have HR:Hid (baseK s=(4,0)):=qq (by unfold baseK; rw[if_neg h1,if_neg h2,if_pos h3])
       have HQ:=qq (And.intro q1 (And.intro q2 (And.intro q3 (And.intro q4 q5))));clear q1 q2 q3 q4 q5 h1 h2 h3;obtain⟨q1,q2,q3,q4,q5⟩:=HQ.out
       go_enter Tryd.func68,Tryd.ntmps68
       go_wp2_with fail
       exact bodyPost_ret (v:=.tuple #[.int .u8 (4),.int .i64 (0)]) (by simp[results,Tryd.results68,go_sem]) rfl ⟨by rw[HR.out],rfl⟩
     · rw[decide_eq_false h3] at q3
       by_cases h4:s=nFile
       · rw[decide_eq_true h4] at q4
         have HR:Hid (baseK s=(5,0)):=qq (by unfold baseK; rw[if_neg h1,if_neg h2,if_neg h3,if_pos h4])
         have HQ:=qq (And.intro q1 (And.intro q2 (And.intro q3 (And.intro q4 q5))));clear q1 q2 q3 q4 q5 h1 h2 h3 h4;obtain⟨q1,q2,q3,q4,q5⟩:=HQ.out
         go_enter Tryd.func68,Tryd.ntmps68
         go_wp2_with fail
         exact bodyPost_ret (v:=.tuple #[.int .u8 (5),.int .i64 (0)]) (by simp[results,Tryd.results68,go_sem]) rfl ⟨by rw[HR.out],rfl⟩
       · rw[decide_eq_false h4] at q4
         by_cases h5:s=nArr
         · rw[decide_eq_true h5] at q5
           have HR:Hid (baseK s=(6,1)):=qq (by unfold baseK; rw[if_neg h1,if_neg h2,if_neg h3,if_neg h4,if_pos h5])
           have HQ:=qq (And.intro q1 (And.intro q2 (And.intro q3 (And.intro q4 q5))));clear q1 q2 q3 q4 q5 h1 h2 h3 h4 h5;obtain⟨q1,q2,q3,q4,q5⟩:=HQ.out
           go_enter Tryd.func68,Tryd.ntmps68
           go_wp2_with fail
           exact bodyPost_ret (v:=.tuple #[.int .u8 (6),.int .i64 (1)]) (by simp[results,Tryd.results68,go_sem]) rfl ⟨by rw[HR.out],rfl⟩
         · rw[decide_eq_false h5] at q5
           have HR:Hid (baseK s=(0, -1)):=qq (by unfold baseK; rw[if_neg h1,if_neg h2,if_neg h3,if_neg h4,if_neg h5])
           have HQ:=qq (And.intro q1 (And.intro q2 (And.intro q3 (And.intro q4 q5))));clear q1 q2 q3 q4 q5 h1 h2 h3 h4 h5;obtain⟨q1,q2,q3,q4,q5⟩:=HQ.out
           go_enter Tryd.func68,Tryd.ntmps68
           go_wp2_with fail
           exact bodyPost_ret (v:=.tuple #[.int .u8 (0),.int .i64 (-1)]) (by simp[results,Tryd.results68,go_sem]) rfl ⟨by rw[HR.out],rfl⟩
structure But (g:Nat) (w w':World):Prop where
 os:w'.os=w.os
 tape:w'.tape=w.tape
 output:w'.output=w.output
 size:w.heap.size≤w'.heap.size
 block:∀ k,k<w.heap.size→k≠g→w'.heap[k]?=w.heap[k]?
section
variable {g:Nat} {w w' w'':World}
theorem But.refl (g:Nat) (w:World):But g w w:=⟨rfl,rfl,rfl,Nat.le_refl _,fun _ _ _=>rfl⟩
theorem But.trans (h:But g w w') (k:But g w' w''):But g w w'':=
 ⟨k.os.trans h.os,k.tape.trans h.tape,k.output.trans h.output,Nat.le_trans h.size k.size,fun i hi hg=>(k.block i (Nat.lt_of_lt_of_le hi h.size) hg).trans (h.block i hi hg)⟩
theorem But.of (h:Below w.heap.size w w'):But g w w':=⟨h.os,h.tape,h.output,h.size,fun k hk _=>h.block k hk⟩
theorem But.then (h:But g w w') (k:Below w'.heap.size w' w''):But g w w'':=h.trans (But.of k)
theorem But.below {B:Nat} (h:But g w w') (hB:B≤g) (hw:B≤w.heap.size):Below B w w':=⟨h.os,h.tape,h.output,h.size,fun k hk=>h.block k (by omega) (by omega)⟩
theorem But.set (h:But g w w') (i:Nat) (u:Value):But g w (w'.setCell ⟨g,i,none⟩ u):=
 ⟨h.os,h.tape,h.output,by rw[World.size_setCell]; exact h.size,fun k hk hne=>(Below.heap_setCell _ _ _ _ hne).trans (h.block k hk hne)⟩
theorem But.cell (h:But g w w') {p:Addr} (hp:p.block<w.heap.size) (hg:p.block≠g):w'.cell? p=w.cell? p:=World.cell?_of_block (h.block p.block hp hg)
theorem Blk.but {t:TypeId} {cs:Array Value} {s:Nat} (h:Blk w s t cs) (hb:But g w w') (hne:s≠g):Blk w' s t cs:=(hb.block s h.lt hne).trans h
abbrev Off (g:Nat) (w:World):Nat→Prop:=fun b=>b<w.heap.size∧b≠g
theorem Sl.but {X:Type} {enc:X→List Cel} {k:Nat} {xs:List X} {A:Option Addr} {m cp:Nat} (h:Sl w (Off g w) enc k xs A m cp) (hb:But g w w'):Sl w' (Off g w') enc k xs A m cp:=
 h.keep (fun b h=>⟨Nat.lt_of_lt_of_le h.1 hb.size,h.2⟩) fun p hp=>hb.cell hp.1 hp.2
end
def mkC (a0 a1:Value) (d:DiagD):Array Value:=#[a0,a1,.int .i64 d.e,.int .i64 d.p.at_,.int .i64 d.p.line,.int .i64 d.p.col]
def failD (d:DiagD) (bad:Bool) (x:Int) (p:PosD):DiagD:=if bad&&d.e==0 then ⟨x,p⟩ else d
theorem fail_any (g:Nat) (a0 a1:Value) (d:DiagD) (bad:Bool) (x:Int) (p:PosD) (w:World) (hk:Blk w g 91 (mkC a0 a1 d)):
  Calls Tryd.prog 67 #[.pointer (some ⟨g,0,none⟩),.bool bad,.int .i64 x,.agg #[.int .i64 p.at_,.int .i64 p.line,.int .i64 p.col]] w fun e w'=>e=.returned (.tuple #[])∧Blk w' g 91 (mkC a0 a1 (failD d bad x p))∧But g w w':=by
 have hbx:=below_box (w:=w) (Obj.cells #[.int .i64 p.at_,.int .i64 p.line,.int .i64 p.col] 28);have hz:=blk_new w #[.int .i64 p.at_,.int .i64 p.line,.int .i64 p.col] 28;have hkx:=hk.below hbx hk.lt;obtain⟨W,hW⟩:∃ W,w.alloc (Obj.cells #[.int .i64 p.at_,.int .i64 p.line,.int .i64 p.col] 28)=W:=⟨_,rfl⟩;rw[hW] at hbx hz hkx;have hb:But g w W:=But.of hbx;have HW:=qq hW;have HK:=qq hkx;have HB:=qq hb;have HZ:=qq hz;clear hbx hz hkx hW hb hk;have hc:=HK.out;unfold mkC at hc;have c2:=hc.cell 2;have z0:=HZ.out.cell 0;have z1:=HZ.out.cell 1;have z2:=HZ.out.cell 2;have c3:=hc.cell 3;have c4:=hc.cell 4;have c5:=hc.cell 5;simp only[qc,qb,qa] at c2 c3 c4 c5 z0 z1 z2;have f2:=hc.frozen 2;have f3:=hc.frozen 3;have f4:=hc.frozen 4;have f5:=hc.frozen 5;clear hc
 cases bad with
 | false=>
   have HF:Hid (failD d false x p=d):=qq (by simp[failD])
   go_enter Tryd.func67,Tryd.ntmps67
   go_upto_region 1 with fail;rw[HW.out];go_wp2_with fail
   go_end0
   exact⟨rfl,by rw[HF.out]; exact HK.out,HB.out⟩
 | true=>
   by_cases h0:d.e=0
   · have e0:(d.e==0)=true:=by simp[h0]
     have HF:Hid (failD d true x p=⟨x,p⟩):=qq (by simp[failD,h0]);clear h0
     go_enter Tryd.func67,Tryd.ntmps67
     go_upto_region 1 with fail;rw[HW.out];go_wp2_with fail
     go_end0
     refine⟨rfl,?_,(((HB.out.set 2 _).set 3 _).set 4 _).set 5 _⟩;rw[HF.out];exact(((HK.out.set_ 2 _).set_ 3 _).set_ 4 _).set_ 5 _
   · have e0:(d.e==0)=false:=by simpa using h0
     have HF:Hid (failD d true x p=d):=qq (by simp[failD,h0]);clear h0
     go_enter Tryd.func67,Tryd.ntmps67
     go_upto_region 1 with fail;rw[HW.out];go_wp2_with fail
     go_end0
     exact⟨rfl,by rw[HF.out]; exact HK.out,HB.out⟩
end Go.Proofs.YtgpeijkjmkocgaaDoor
