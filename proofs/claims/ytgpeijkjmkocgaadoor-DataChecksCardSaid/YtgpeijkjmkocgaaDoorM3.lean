import Derived.Test.YtgpeijkjmkocgaaDoorM2
import Derived.SizedLaws
import Derived.Deep.Slices
import Derived.Deep.Fields
import Derived.Lib.SmallJoins
set_option linter.unusedVariables false
set_option linter.unusedSimpArgs false
set_option maxRecDepth 100000
namespace Go.Proofs.YtgpeijkjmkocgaaDoor
theorem cons_of_len {l:List Value} {n:Nat} (h:l.length=n+1):∃ v t,l=v :: t∧t.length=n:=by
 cases l with
 | nil=>simp at h
 | cons v t=>exact⟨v,t,rfl,by simpa using h⟩
theorem split137 (P:Act→Prop) (a:Act) (k0 k1 k2 k3 k4 k5 k6:Value) (h:a.tmps.size=137) (q0:a.tmps[0]?=some k0) (q1:a.tmps[1]?=some k1) (q2:a.tmps[2]?=some k2) (q3:a.tmps[3]?=some k3) (q4:a.tmps[4]?=some k4) (q5:a.tmps[5]?=some k5) (q6:a.tmps[6]?=some k6) (hd:a.defers=[]) (H:∀ v7 v8 v9 v10 v11 v12 v13 v14 v15 v16 v17 v18 v19 v20 v21 v22 v23 v24 v25 v26 v27 v28 v29 v30 v31 v32 v33 v34 v35 v36 v37 v38 v39 v40 v41 v42 v43 v44 v45 v46 v47 v48 v49 v50 v51 v52 v53 v54 v55 v56 v57 v58 v59 v60 v61 v62 v63 v64 v65 v66 v67 v68 v69 v70 v71 v72 v73 v74 v75 v76 v77 v78 v79 v80 v81 v82 v83 v84 v85 v86 v87 v88 v89 v90 v91 v92 v93 v94 v95 v96 v97 v98 v99 v100 v101 v102 v103 v104 v105 v106 v107 v108 v109 v110 v111 v112 v113 v114 v115 v116 v117 v118 v119 v120 v121 v122 v123 v124 v125 v126 v127 v128 v129 v130 v131 v132 v133 v134 v135 v136:Value,P ⟨#[k0,k1,k2,k3,k4,k5,k6,v7,v8,v9,v10,v11,v12,v13,v14,v15,v16,v17,v18,v19,v20,v21,v22,v23,v24,v25,v26,v27,v28,v29,v30,v31,v32,v33,v34,v35,v36,v37,v38,v39,v40,v41,v42,v43,v44,v45,v46,v47,v48,v49,v50,v51,v52,v53,v54,v55,v56,v57,v58,v59,v60,v61,v62,v63,v64,v65,v66,v67,v68,v69,v70,v71,v72,v73,v74,v75,v76,v77,v78,v79,v80,v81,v82,v83,v84,v85,v86,v87,v88,v89,v90,v91,v92,v93,v94,v95,v96,v97,v98,v99,v100,v101,v102,v103,v104,v105,v106,v107,v108,v109,v110,v111,v112,v113,v114,v115,v116,v117,v118,v119,v120,v121,v122,v123,v124,v125,v126,v127,v128,v129,v130,v131,v132,v133,v134,v135,v136],[]⟩):P a:=by
 obtain⟨tm,df⟩:=a;dsimp only at hd h q0 q1 q2 q3 q4 q5 q6;subst hd;obtain⟨l⟩:=tm;replace h:l.length=137:=h
 replace q0:l[0]?=some k0:=by rw[← qc]; exact q0
 replace q1:l[1]?=some k1:=by rw[← qc]; exact q1
 replace q2:l[2]?=some k2:=by rw[← qc]; exact q2
 replace q3:l[3]?=some k3:=by rw[← qc]; exact q3
 replace q4:l[4]?=some k4:=by rw[← qc]; exact q4
 replace q5:l[5]?=some k5:=by rw[← qc]; exact q5
 replace q6:l[6]?=some k6:=by rw[← qc]; exact q6
 obtain⟨v0,l0,e0,h0⟩:=cons_of_len h;rw[e0,qa] at q1;rw[e0,qa] at q2;rw[e0,qa] at q3;rw[e0,qa] at q4;rw[e0,qa] at q5;rw[e0,qa] at q6;rw[e0,qb] at q0;obtain rfl:=Option.some.inj q0;obtain⟨v1,l1,e1,h1⟩:=cons_of_len h0;rw[e1,qa] at q2;rw[e1,qa] at q3;rw[e1,qa] at q4;rw[e1,qa] at q5;rw[e1,qa] at q6;rw[e1,qb] at q1;obtain rfl:=Option.some.inj q1;obtain⟨v2,l2,e2,h2⟩:=cons_of_len h1;rw[e2,qa] at q3;rw[e2,qa] at q4;rw[e2,qa] at q5;rw[e2,qa] at q6;rw[e2,qb] at q2;obtain rfl:=Option.some.inj q2;obtain⟨v3,l3,e3,h3⟩:=cons_of_len h2;rw[e3,qa] at q4;rw[e3,qa] at q5;rw[e3,qa] at q6;rw[e3,qb] at q3;obtain rfl:=Option.some.inj q3;obtain⟨v4,l4,e4,h4⟩:=cons_of_len h3;rw[e4,qa] at q5;rw[e4,qa] at q6;rw[e4,qb] at q4;obtain rfl:=Option.some.inj q4;obtain⟨v5,l5,e5,h5⟩:=cons_of_len h4;rw[e5,qa] at q6;rw[e5,qb] at q5;obtain rfl:=Option.some.inj q5;obtain⟨v6,l6,e6,h6⟩:=cons_of_len h5;rw[e6,qb] at q6;obtain rfl:=Option.some.inj q6;obtain⟨v7,l7,e7,h7⟩:=cons_of_len h6;obtain⟨v8,l8,e8,h8⟩:=cons_of_len h7;obtain⟨v9,l9,e9,h9⟩:=cons_of_len h8;obtain⟨v10,l10,e10,h10⟩:=cons_of_len h9;obtain⟨v11,l11,e11,h11⟩:=cons_of_len h10;obtain⟨v12,l12,e12,h12⟩:=cons_of_len h11;obtain⟨v13,l13,e13,h13⟩:=cons_of_len h12;obtain⟨v14,l14,e14,h14⟩:=cons_of_len h13;obtain⟨v15,l15,e15,h15⟩:=cons_of_len h14;obtain⟨v16,l16,e16,h16⟩:=cons_of_len h15;obtain⟨v17,l17,e17,h17⟩:=cons_of_len h16;obtain⟨v18,l18,e18,h18⟩:=cons_of_len h17;obtain⟨v19,l19,e19,h19⟩:=cons_of_len h18;obtain⟨v20,l20,e20,h20⟩:=cons_of_len h19;obtain⟨v21,l21,e21,h21⟩:=cons_of_len h20;obtain⟨v22,l22,e22,h22⟩:=cons_of_len h21;obtain⟨v23,l23,e23,h23⟩:=cons_of_len h22;obtain⟨v24,l24,e24,h24⟩:=cons_of_len h23;obtain⟨v25,l25,e25,h25⟩:=cons_of_len h24;obtain⟨v26,l26,e26,h26⟩:=cons_of_len h25;obtain⟨v27,l27,e27,h27⟩:=cons_of_len h26;obtain⟨v28,l28,e28,h28⟩:=cons_of_len h27;obtain⟨v29,l29,e29,h29⟩:=cons_of_len h28;obtain⟨v30,l30,e30,h30⟩:=cons_of_len h29;obtain⟨v31,l31,e31,h31⟩:=cons_of_len h30;obtain⟨v32,l32,e32,h32⟩:=cons_of_len h31;obtain⟨v33,l33,e33,h33⟩:=cons_of_len h32;obtain⟨v34,l34,e34,h34⟩:=cons_of_len h33;obtain⟨v35,l35,e35,h35⟩:=cons_of_len h34;obtain⟨v36,l36,e36,h36⟩:=cons_of_len h35;obtain⟨v37,l37,e37,h37⟩:=cons_of_len h36;obtain⟨v38,l38,e38,h38⟩:=cons_of_len h37;obtain⟨v39,l39,e39,h39⟩:=cons_of_len h38;obtain⟨v40,l40,e40,h40⟩:=cons_of_len h39;obtain⟨v41,l41,e41,h41⟩:=cons_of_len h40;obtain⟨v42,l42,e42,h42⟩:=cons_of_len h41;obtain⟨v43,l43,e43,h43⟩:=cons_of_len h42;obtain⟨v44,l44,e44,h44⟩:=cons_of_len h43;obtain⟨v45,l45,e45,h45⟩:=cons_of_len h44;obtain⟨v46,l46,e46,h46⟩:=cons_of_len h45;obtain⟨v47,l47,e47,h47⟩:=cons_of_len h46;obtain⟨v48,l48,e48,h48⟩:=cons_of_len h47;obtain⟨v49,l49,e49,h49⟩:=cons_of_len h48;obtain⟨v50,l50,e50,h50⟩:=cons_of_len h49;obtain⟨v51,l51,e51,h51⟩:=cons_of_len h50;obtain⟨v52,l52,e52,h52⟩:=cons_of_len h51;obtain⟨v53,l53,e53,h53⟩:=cons_of_len h52;obtain⟨v54,l54,e54,h54⟩:=cons_of_len h53;obtain⟨v55,l55,e55,h55⟩:=cons_of_len h54;obtain⟨v56,l56,e56,h56⟩:=cons_of_len h55;obtain⟨v57,l57,e57,h57⟩:=cons_of_len h56
 obtain⟨v58,l58,e58,h58⟩:=cons_of_len h57;obtain⟨v59,l59,e59,h59⟩:=cons_of_len h58;obtain⟨v60,l60,e60,h60⟩:=cons_of_len h59;obtain⟨v61,l61,e61,h61⟩:=cons_of_len h60;obtain⟨v62,l62,e62,h62⟩:=cons_of_len h61;obtain⟨v63,l63,e63,h63⟩:=cons_of_len h62;obtain⟨v64,l64,e64,h64⟩:=cons_of_len h63;obtain⟨v65,l65,e65,h65⟩:=cons_of_len h64;obtain⟨v66,l66,e66,h66⟩:=cons_of_len h65;obtain⟨v67,l67,e67,h67⟩:=cons_of_len h66;obtain⟨v68,l68,e68,h68⟩:=cons_of_len h67;obtain⟨v69,l69,e69,h69⟩:=cons_of_len h68;obtain⟨v70,l70,e70,h70⟩:=cons_of_len h69;obtain⟨v71,l71,e71,h71⟩:=cons_of_len h70;obtain⟨v72,l72,e72,h72⟩:=cons_of_len h71;obtain⟨v73,l73,e73,h73⟩:=cons_of_len h72;obtain⟨v74,l74,e74,h74⟩:=cons_of_len h73;obtain⟨v75,l75,e75,h75⟩:=cons_of_len h74;obtain⟨v76,l76,e76,h76⟩:=cons_of_len h75;obtain⟨v77,l77,e77,h77⟩:=cons_of_len h76;obtain⟨v78,l78,e78,h78⟩:=cons_of_len h77;obtain⟨v79,l79,e79,h79⟩:=cons_of_len h78;obtain⟨v80,l80,e80,h80⟩:=cons_of_len h79;obtain⟨v81,l81,e81,h81⟩:=cons_of_len h80;obtain⟨v82,l82,e82,h82⟩:=cons_of_len h81;obtain⟨v83,l83,e83,h83⟩:=cons_of_len h82;obtain⟨v84,l84,e84,h84⟩:=cons_of_len h83;obtain⟨v85,l85,e85,h85⟩:=cons_of_len h84;obtain⟨v86,l86,e86,h86⟩:=cons_of_len h85;obtain⟨v87,l87,e87,h87⟩:=cons_of_len h86;obtain⟨v88,l88,e88,h88⟩:=cons_of_len h87;obtain⟨v89,l89,e89,h89⟩:=cons_of_len h88;obtain⟨v90,l90,e90,h90⟩:=cons_of_len h89;obtain⟨v91,l91,e91,h91⟩:=cons_of_len h90;obtain⟨v92,l92,e92,h92⟩:=cons_of_len h91;obtain⟨v93,l93,e93,h93⟩:=cons_of_len h92;obtain⟨v94,l94,e94,h94⟩:=cons_of_len h93;obtain⟨v95,l95,e95,h95⟩:=cons_of_len h94;obtain⟨v96,l96,e96,h96⟩:=cons_of_len h95;obtain⟨v97,l97,e97,h97⟩:=cons_of_len h96;obtain⟨v98,l98,e98,h98⟩:=cons_of_len h97;obtain⟨v99,l99,e99,h99⟩:=cons_of_len h98;obtain⟨v100,l100,e100,h100⟩:=cons_of_len h99;obtain⟨v101,l101,e101,h101⟩:=cons_of_len h100;obtain⟨v102,l102,e102,h102⟩:=cons_of_len h101;obtain⟨v103,l103,e103,h103⟩:=cons_of_len h102;obtain⟨v104,l104,e104,h104⟩:=cons_of_len h103;obtain⟨v105,l105,e105,h105⟩:=cons_of_len h104;obtain⟨v106,l106,e106,h106⟩:=cons_of_len h105;obtain⟨v107,l107,e107,h107⟩:=cons_of_len h106;obtain⟨v108,l108,e108,h108⟩:=cons_of_len h107;obtain⟨v109,l109,e109,h109⟩:=cons_of_len h108;obtain⟨v110,l110,e110,h110⟩:=cons_of_len h109;obtain⟨v111,l111,e111,h111⟩:=cons_of_len h110;obtain⟨v112,l112,e112,h112⟩:=cons_of_len h111;obtain⟨v113,l113,e113,h113⟩:=cons_of_len h112;obtain⟨v114,l114,e114,h114⟩:=cons_of_len h113;obtain⟨v115,l115,e115,h115⟩:=cons_of_len h114;obtain⟨v116,l116,e116,h116⟩:=cons_of_len h115;obtain⟨v117,l117,e117,h117⟩:=cons_of_len h116;obtain⟨v118,l118,e118,h118⟩:=cons_of_len h117;obtain⟨v119,l119,e119,h119⟩:=cons_of_len h118;obtain⟨v120,l120,e120,h120⟩:=cons_of_len h119;obtain⟨v121,l121,e121,h121⟩:=cons_of_len h120;obtain⟨v122,l122,e122,h122⟩:=cons_of_len h121;obtain⟨v123,l123,e123,h123⟩:=cons_of_len h122;obtain⟨v124,l124,e124,h124⟩:=cons_of_len h123;obtain⟨v125,l125,e125,h125⟩:=cons_of_len h124;obtain⟨v126,l126,e126,h126⟩:=cons_of_len h125
 obtain⟨v127,l127,e127,h127⟩:=cons_of_len h126;obtain⟨v128,l128,e128,h128⟩:=cons_of_len h127;obtain⟨v129,l129,e129,h129⟩:=cons_of_len h128;obtain⟨v130,l130,e130,h130⟩:=cons_of_len h129;obtain⟨v131,l131,e131,h131⟩:=cons_of_len h130;obtain⟨v132,l132,e132,h132⟩:=cons_of_len h131;obtain⟨v133,l133,e133,h133⟩:=cons_of_len h132;obtain⟨v134,l134,e134,h134⟩:=cons_of_len h133;obtain⟨v135,l135,e135,h135⟩:=cons_of_len h134;obtain⟨v136,l136,e136,h136⟩:=cons_of_len h135;have e:l136=[]:=List.eq_nil_of_length_eq_zero h136;rw[e0,e1,e2,e3,e4,e5,e6,e7,e8,e9,e10,e11,e12,e13,e14,e15,e16,e17,e18,e19,e20,e21,e22,e23,e24,e25,e26,e27,e28,e29,e30,e31,e32,e33,e34,e35,e36,e37,e38,e39,e40,e41,e42,e43,e44,e45,e46,e47,e48,e49,e50,e51,e52,e53,e54,e55,e56,e57,e58,e59,e60,e61,e62,e63,e64,e65,e66,e67,e68,e69,e70,e71,e72,e73,e74,e75,e76,e77,e78,e79,e80,e81,e82,e83,e84,e85,e86,e87,e88,e89,e90,e91,e92,e93,e94,e95,e96,e97,e98,e99,e100,e101,e102,e103,e104,e105,e106,e107,e108,e109,e110,e111,e112,e113,e114,e115,e116,e117,e118,e119,e120,e121,e122,e123,e124,e125,e126,e127,e128,e129,e130,e131,e132,e133,e134,e135,e136,e];exact H v7 v8 v9 v10 v11 v12 v13 v14 v15 v16 v17 v18 v19 v20 v21 v22 v23 v24 v25 v26 v27 v28 v29 v30 v31 v32 v33 v34 v35 v36 v37 v38 v39 v40 v41 v42 v43 v44 v45 v46 v47 v48 v49 v50 v51 v52 v53 v54 v55 v56 v57 v58 v59 v60 v61 v62 v63 v64 v65 v66 v67 v68 v69 v70 v71 v72 v73 v74 v75 v76 v77 v78 v79 v80 v81 v82 v83 v84 v85 v86 v87 v88 v89 v90 v91 v92 v93 v94 v95 v96 v97 v98 v99 v100 v101 v102 v103 v104 v105 v106 v107 v108 v109 v110 v111 v112 v113 v114 v115 v116 v117 v118 v119 v120 v121 v122 v123 v124 v125 v126 v127 v128 v129 v130 v131 v132 v133 v134 v135 v136
end Go.Proofs.YtgpeijkjmkocgaaDoor
namespace Go.Proofs.YtgpeijkjmkocgaaDoor
open Go.RowKit
def HeldL:List (Addr × Value)→World→Prop
 | [],_=>True
 | (p,v) :: l,w=>w.cell? p=some v∧HeldL l w
theorem HeldL.of {w w':World}:∀ {l:List (Addr × Value)},HeldL l w→(∀ p∈l,w'.cell? p.1=w.cell? p.1)→HeldL l w'
 | [],_,_=>trivial
 | (p,v) :: l,h,hk=>⟨(hk _ List.mem_cons_self).trans h.1,HeldL.of h.2 fun q hq=>hk q (List.mem_cons_of_mem _ hq)⟩
theorem HeldL.below {w w':World} {l:List (Addr × Value)} (h:HeldL l w) (hb:Below w.heap.size w w'):HeldL l w':=by
 induction l with
 | nil=>exact trivial
 | cons p l ih=>exact⟨(hb.cell (block_lt_of_cell h.1)).trans h.1,ih h.2⟩
theorem HeldL.blocks {w w':World} {l:List (Addr × Value)} (h:HeldL l w) (hk:∀ p∈l,w'.heap[p.1.block]?=w.heap[p.1.block]?):HeldL l w':=h.of fun p hp=>World.cell?_of_block (hk p hp)
def setL (g:Nat):List (Nat × Value)→World→World
 | [],w=>w
 | (o,v) :: l,w=>setL g l (w.setCell ⟨g,o,none⟩ v)
theorem setL_size {g:Nat}:∀ (l:List (Nat × Value)) (w:World),(setL g l w).heap.size=w.heap.size
 | [],_=>rfl
 | (o,v) :: l,w=>by rw[setL,setL_size l]; simp
theorem setL_block {g b:Nat} (h:b≠g):∀ (l:List (Nat × Value)) (w:World),(setL g l w).heap[b]?=w.heap[b]?
 | [],_=>rfl
 | (o,v) :: l,w=>(setL_block h l (w.setCell ⟨g,o,none⟩ v)).trans (Below.heap_setCell _ _ _ _ h)
theorem setL_below {B g:Nat} {w0:World} (hb:B≤g):∀ (l:List (Nat × Value)) (w:World),Below B w0 w→Below B w0 (setL g l w)
 | [],_,h=>h
 | (o,v) :: l,w,h=>setL_below hb l _ (h.setCell (p:=⟨g,o,none⟩) hb v)
theorem HeldL.setL {g:Nat} {w:World} {l:List (Addr × Value)} (h:HeldL l w) (k:List (Nat × Value)) (hk:∀ p∈l,p.1.block≠g):HeldL l (setL g k w):=h.blocks fun p hp=>setL_block (hk p hp) _ _
theorem Blk.setL {g b:Nat} {T:TypeId} {cs:Array Value} (hb:b≠g) (k:List (Nat × Value)) {w:World} (h:Blk w b T cs):Blk (setL g k w) b T cs:=(setL_block hb k w).trans h
theorem blk_setL {g:Nat} {T:TypeId}:∀ (k:List (Nat × Value)) {w:World} {cs:Array Value},Blk w g T cs→Blk (setL g k w) g T (k.foldl (fun c p=>c.setIfInBounds p.1 p.2) cs)
 | [],_,_,h=>h
 | (o,v) :: k,w,cs,h=>blk_setL k (h.set_ o v)
end Go.Proofs.YtgpeijkjmkocgaaDoor
namespace Go.Proofs.YtgpeijkjmkocgaaDoor
open Go.ChangeShapes Go.WideShapes Go.ChangeAt Go.RowKit Go.Deep Go.Joins
section
variable {H:Type} {enc:TypeId × Value→H} {w:World}
theorem addr_add (b o j:Nat):(Addr.add ⟨b,o,none⟩ j)=⟨b,o+j,none⟩:=by unfold Addr.add; split <;> simp_all
instance:Inhabited TermD:=⟨⟨false,0,[]⟩⟩
end
end Go.Proofs.YtgpeijkjmkocgaaDoor
namespace Go.Proofs.YtgpeijkjmkocgaaDoor
open Go.ChangeShapes Go.WideShapes Go.ChangeAt Go.RowKit Go.Deep Go.Joins
section
variable {H:Type} {enc:TypeId × Value→H} {w:World} {P:Program}
def Light (P:Program) (t:TypeId) (d:DataW H):Prop:=∀ x∈d.weights P t,x≤reachBytes
theorem light_of {ts:List TypeId} {ds:List (DataW H)} (h:(DataW.weightsEach P ts ds).all (· ≤ reachBytes)=true) {j:Nat} {t:TypeId} {d:DataW H} (ht:ts[j]?=some t) (hd:ds[j]?=some d):Light P t d:=fun x hx=>by
 have:=List.all_eq_true.1 h _ (DataW.weights_mem_each ht hd x hx)
 simpa using this
theorem weightsAll_mem {e:TypeId}:∀ {l:List (DataW H)} {d:DataW H},d∈l→∀ x∈d.weights P e,x∈DataW.weightsAll P e l
 | y :: l,d,hd,x,hx=>by
   simp only[DataW.weightsAll,List.mem_append]
   rcases qk.1 hd with rfl | hd
   · exact .inl hx
   · exact .inr (weightsAll_mem hd x hx)
 | [],d,hd,_,_=>by simp at hd
theorem Light.slice {t e:TypeId} {elems spare:List (DataW H)} (hu:P.underlying t=some (.slice e)) (h:Light P t (.slice elems spare)):(elems.length+spare.length) * P.bytesOf e≤reachBytes∧∀ d∈elems,Light P e d:=by
 refine⟨h _ (by simp[DataW.weights,hu]),fun d hd x hx=>h x ?_⟩;simp only[DataW.weights,hu,qk,List.mem_append];exact .inr (.inl (weightsAll_mem hd x hx))
theorem Light.agg {t:TypeId} {fs:Array Field} {parts:List (DataW H)} (hu:P.underlying t=some (.struct fs)) (h:Light P t (.agg parts)) {i:Nat} {ft:TypeId} {p:DataW H} (hf:(fs.toList.map (·.type))[i]?=some ft) (hp:parts[i]?=some p):Light P ft p:=fun x hx=>
 h x (by simp only[DataW.weights,hu]; exact DataW.weights_mem_each hf hp x hx)
theorem rows_in {X:Type} [Inhabited X] {t e:TypeId} (k:Nat) (El:List Value→X→Prop) (ht:P.underlying t=some (.slice e)) (hk:P.cellsOf e=k) (hk0:0<k)
  (hel:∀ (n:Nat) (cs':List Value) (D:DataW H) (Pl:List MemPlace),cs'.length=k→DataW.trod enc P w 0 (fun _=>true) true n e cs'=some (D,Pl)→Light P e D→∃ x,El cs' x)
  {fuel:Nat} {cs:List Value} {x:DataW H × List MemPlace} (h:DataW.trod enc P w 0 (fun _=>true) true fuel t cs=some x) (hl:Light P t x.1):
  ∃ (A:Option Addr) (n c:Nat) (xs:List X),cs=[.slice A n c]∧xs.length=n∧n≤c∧c≤maxLen∧n * P.bytesOf e≤reachBytes ∧
   (0<n→∃ b off,A=some ⟨b,off,none⟩∧b<w.heap.size∧∀ i (hi:i<xs.length),∃ cs':List Value,cs'.length=k∧(∀ j (hj:j<cs'.length),w.cell? ⟨b,off+i * k+j,none⟩=some cs'[j])∧El cs' xs[i]) ∧
   (∀ y∈xs,∃ cs',El cs' y):=by
 rcases open_slice ht h with ⟨hcs,_⟩ | ⟨a,l,c',m,n',D,Pl,hcs,hb,hln,hm,hmm,hx,hi⟩
 · exact⟨none,0,0,[],hcs,rfl,Nat.le_refl _,Nat.zero_le _,by omega,fun h=>absurd h (by omega),by simp⟩
 · simp only[if_true] at hmm
   subst hmm;subst hx;have hL:=Light.slice ht hl
   have hall:∀ i,i<l→∃ x:X,∃ b off,a=⟨b,off,none⟩∧b<w.heap.size∧∃ cs':List Value,cs'.length=k∧(∀ j (hj:j<cs'.length),w.cell? ⟨b,off+i * k+j,none⟩=some cs'[j])∧El cs' x:=by
    intro i hin;obtain⟨cs',hc,ht'⟩:=hi i (by omega);rw[hk] at hc;obtain⟨_,hcl,hat⟩:=World.cells?_some hc;obtain⟨x,hx⟩:=hel _ _ _ _ hcl ht' (hL.2 _ (List.mem_map.2 ⟨i,List.mem_range.2 hin,rfl⟩));obtain⟨b,off,sp⟩:=a
    have hs:sp=none:=by
     obtain⟨cs0,hc0,_⟩:=hi 0 (by omega);rw[hk] at hc0;have d0:=(World.cells?_some hc0).2.2 0 (by omega);simp only[Nat.zero_mul,Nat.add_zero,Addr.add,if_true] at d0
     rw[qj (by rw[(World.cells?_some hc0).2.1]; exact hk0)] at d0
     exact spot_none d0
    subst hs;simp only[Go.Deep.add_add] at hat;have h0:=hat 0 (by omega);rw[addr_add,qj (by omega)] at h0;refine⟨x,b,off,rfl,World.block_lt_of_cell? _ _ h0,cs',hcl,fun j hj=>?_,hx⟩;have hj':=hat j (by omega);rw[addr_add,qj hj] at hj';rw[Nat.add_assoc];exact hj'
   obtain⟨f,hf⟩:=choose_lt hall
   refine⟨some a,l,m,(List.range l).map f,hcs,by simp,hln,hm,?_,fun hn=>?_,fun y hy=>?_⟩
   · have:=hL.1
     simp only[List.length_map,List.length_range] at this;exact Nat.le_trans (Nat.mul_le_mul_right _ (by omega)) this
   · obtain⟨b,off,rfl,hb,_⟩:=hf 0 hn
     refine⟨b,off,rfl,hb,fun i hi=>?_⟩;rw[List.length_map,List.length_range] at hi;obtain⟨b',off',e,_,h'⟩:=hf i hi
     injection e with e1 e2 _
     subst e1; subst e2
     simpa using h'
   · obtain⟨i,hi,rfl⟩:=List.mem_map.1 hy
     obtain⟨_,_,_,_,cs',_,_,hw⟩:=hf i (List.mem_range.1 hi);exact⟨cs',hw⟩
end
end Go.Proofs.YtgpeijkjmkocgaaDoor
namespace Go.Proofs.YtgpeijkjmkocgaaDoor
open Go.RowKit
theorem is_any (c v:Int) (w:World):
  Calls Tryd.prog 88 #[.agg #[.int .i64 v,.int .u8 c]] w fun e w'=>e=.returned (.int .i64 (isE c v))∧Below w.heap.size w w':=by
 by_cases h0:c=0∧0≤v∧v<1048576
 · obtain⟨rfl,ha,hb⟩:=h0
   have H:Hid (0=isE 0 v):=by show _=_; rw[isE_yes]; simp[isB,ha,hb]
   go_enter Tryd.func88,Tryd.ntmps88
   go_wp2_with fail;go_ret;exact⟨ret_int H.out,(Below.refl _ _).alloc (Nat.le_refl _) _⟩
 · have hx:(c==0&&decide (0≤v)&&decide (v<1048576))=false:=by
    rw[Bool.eq_false_iff];intro h;simp only[Bool.and_eq_true,beq_iff_eq,decide_eq_true_eq] at h;exact h0 ⟨h.1.1,h.1.2,h.2⟩
   have hcase:(c==0)=false∨(c==0)=true∧(¬ (0≤v)∨0≤v∧¬ (v<1048576)):=by
    by_cases hc:c=0
    · refine .inr ⟨by simp[hc],?_⟩
      by_cases hv:0≤v
      · exact .inr ⟨hv,fun h=>h0 ⟨hc,hv,h⟩⟩
      · exact .inl hv
    · exact .inl (by simp[hc])
   clear h0
   have hfin:∀ b,(oneB c&&v==0)=b→isB c v=b:=by intro b hb; unfold isB; rw[hx,hb]; rfl
   have Hfin:=qq hfin;clear hfin hx
   cases h1:oneB c
   · have H:Hid (2=isE c v):=by show _=_; rw[isE_no (Hfin.out false (by simp[h1]))]
     have H1:=qq h1;clear h1
     rcases hcase with h | ⟨h,h | ⟨h,h'⟩⟩
     all_goals
      go_enter Tryd.func88,Tryd.ntmps88
      go_wp2_with fail
      refine(one_at _ _ H1.out _).mono ?_; rintro e w1 ⟨rfl,rfl⟩
      go_wp2_with fail;go_ret;exact⟨ret_int H.out,(Below.refl _ _).alloc (Nat.le_refl _) _⟩
   · have hc1:(c==0)=false:=by
      rw[Bool.eq_false_iff]; intro h; rw[beq_iff_eq] at h; subst h; simp[oneB] at h1
     clear hcase;have H1:=qq h1
     by_cases hv:v=0
     · have H:Hid (0=isE c v):=by show _=_; rw[isE_yes (Hfin.out true (by simp[h1,hv]))]
       subst hv;clear h1
       go_enter Tryd.func88,Tryd.ntmps88
       go_wp2_with fail
       refine(one_at _ _ H1.out _).mono ?_; rintro e w1 ⟨rfl,rfl⟩
       go_wp2_with fail;go_ret;exact⟨ret_int H.out,(Below.refl _ _).alloc (Nat.le_refl _) _⟩
     · have hv0:(v==0)=false:=by simp[hv]
       have H:Hid (2=isE c v):=by show _=_; rw[isE_no (Hfin.out false (by simp[h1,hv]))]
       clear h1 hv
       go_enter Tryd.func88,Tryd.ntmps88
       go_wp2_with fail
       refine(one_at _ _ H1.out _).mono ?_; rintro e w1 ⟨rfl,rfl⟩
       go_wp2_with fail;go_ret;exact⟨ret_int H.out,(Below.refl _ _).alloc (Nat.le_refl _) _⟩
end Go.Proofs.YtgpeijkjmkocgaaDoor
