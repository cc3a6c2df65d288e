/- A frame's slots. -/
import Derived.Test.YthabkpkgocafoaaSlots
namespace Go.Proofs.Ythabkpkgocafoaa
set_option maxRecDepth 100000 in
theorem split97 (P : Act → Prop) (a : Act) (k1 k2 k3 k6 k7 k8 k45 k46 k48 k51 k53 : Value) (h : a.tmps.size = 97) (q1 : a.tmps[1]? = some k1) (q2 : a.tmps[2]? = some k2) (q3 : a.tmps[3]? = some k3) (q6 : a.tmps[6]? = some k6) (q7 : a.tmps[7]? = some k7) (q8 : a.tmps[8]? = some k8) (q45 : a.tmps[45]? = some k45) (q46 : a.tmps[46]? = some k46) (q48 : a.tmps[48]? = some k48) (q51 : a.tmps[51]? = some k51) (q53 : a.tmps[53]? = some k53) (hd : a.defers = []) (H : ∀ v0 v4 v5 v9 v10 v11 v12 v13 v14 v15 v16 v17 v18 v19 v20 v21 v22 v23 v24 v25 v26 v27 v28 v29 v30 v31 v32 v33 v34 v35 v36 v37 v38 v39 v40 v41 v42 v43 v44 v47 v49 v50 v52 v54 v55 v56 v57 v58 v59 v60 v61 v62 v63 v64 v65 v66 v67 v68 v69 v70 v71 v72 v73 v74 v75 v76 v77 v78 v79 v80 v81 v82 v83 v84 v85 v86 v87 v88 v89 v90 v91 v92 v93 v94 v95 v96 : Value, P ⟨#[v0, k1, k2, k3, v4, v5, k6, k7, k8, v9, v10, v11, v12, v13, v14, v15, v16, v17, v18, v19, v20, v21, v22, v23, v24, v25, v26, v27, v28, v29, v30, v31, v32, v33, v34, v35, v36, v37, v38, v39, v40, v41, v42, v43, v44, k45, k46, v47, k48, v49, v50, k51, v52, k53, v54, v55, v56, v57, v58, v59, v60, v61, v62, v63, v64, v65, v66, v67, v68, v69, v70, v71, v72, v73, v74, v75, v76, v77, v78, v79, v80, v81, v82, v83, v84, v85, v86, v87, v88, v89, v90, v91, v92, v93, v94, v95, v96], []⟩) : P a := by
  obtain ⟨tm, df⟩ := a
  dsimp only at hd h q1 q2 q3 q6 q7 q8 q45 q46 q48 q51 q53
  subst hd
  obtain ⟨l⟩ := tm
  replace h : l.length = 97 := h
  replace q1 : l[1]? = some k1 := by rw [← List.getElem?_toArray]; exact q1
  replace q2 : l[2]? = some k2 := by rw [← List.getElem?_toArray]; exact q2
  replace q3 : l[3]? = some k3 := by rw [← List.getElem?_toArray]; exact q3
  replace q6 : l[6]? = some k6 := by rw [← List.getElem?_toArray]; exact q6
  replace q7 : l[7]? = some k7 := by rw [← List.getElem?_toArray]; exact q7
  replace q8 : l[8]? = some k8 := by rw [← List.getElem?_toArray]; exact q8
  replace q45 : l[45]? = some k45 := by rw [← List.getElem?_toArray]; exact q45
  replace q46 : l[46]? = some k46 := by rw [← List.getElem?_toArray]; exact q46
  replace q48 : l[48]? = some k48 := by rw [← List.getElem?_toArray]; exact q48
  replace q51 : l[51]? = some k51 := by rw [← List.getElem?_toArray]; exact q51
  replace q53 : l[53]? = some k53 := by rw [← List.getElem?_toArray]; exact q53
  obtain ⟨v0, l0, e0, h0⟩ := cons_of_len h
  rw [e0, List.getElem?_cons_succ] at q1
  rw [e0, List.getElem?_cons_succ] at q2
  rw [e0, List.getElem?_cons_succ] at q3
  rw [e0, List.getElem?_cons_succ] at q6
  rw [e0, List.getElem?_cons_succ] at q7
  rw [e0, List.getElem?_cons_succ] at q8
  rw [e0, List.getElem?_cons_succ] at q45
  rw [e0, List.getElem?_cons_succ] at q46
  rw [e0, List.getElem?_cons_succ] at q48
  rw [e0, List.getElem?_cons_succ] at q51
  rw [e0, List.getElem?_cons_succ] at q53
  obtain ⟨v1, l1, e1, h1⟩ := cons_of_len h0
  rw [e1, List.getElem?_cons_succ] at q2
  rw [e1, List.getElem?_cons_succ] at q3
  rw [e1, List.getElem?_cons_succ] at q6
  rw [e1, List.getElem?_cons_succ] at q7
  rw [e1, List.getElem?_cons_succ] at q8
  rw [e1, List.getElem?_cons_succ] at q45
  rw [e1, List.getElem?_cons_succ] at q46
  rw [e1, List.getElem?_cons_succ] at q48
  rw [e1, List.getElem?_cons_succ] at q51
  rw [e1, List.getElem?_cons_succ] at q53
  rw [e1, List.getElem?_cons_zero] at q1
  obtain rfl := Option.some.inj q1
  obtain ⟨v2, l2, e2, h2⟩ := cons_of_len h1
  rw [e2, List.getElem?_cons_succ] at q3
  rw [e2, List.getElem?_cons_succ] at q6
  rw [e2, List.getElem?_cons_succ] at q7
  rw [e2, List.getElem?_cons_succ] at q8
  rw [e2, List.getElem?_cons_succ] at q45
  rw [e2, List.getElem?_cons_succ] at q46
  rw [e2, List.getElem?_cons_succ] at q48
  rw [e2, List.getElem?_cons_succ] at q51
  rw [e2, List.getElem?_cons_succ] at q53
  rw [e2, List.getElem?_cons_zero] at q2
  obtain rfl := Option.some.inj q2
  obtain ⟨v3, l3, e3, h3⟩ := cons_of_len h2
  rw [e3, List.getElem?_cons_succ] at q6
  rw [e3, List.getElem?_cons_succ] at q7
  rw [e3, List.getElem?_cons_succ] at q8
  rw [e3, List.getElem?_cons_succ] at q45
  rw [e3, List.getElem?_cons_succ] at q46
  rw [e3, List.getElem?_cons_succ] at q48
  rw [e3, List.getElem?_cons_succ] at q51
  rw [e3, List.getElem?_cons_succ] at q53
  rw [e3, List.getElem?_cons_zero] at q3
  obtain rfl := Option.some.inj q3
  obtain ⟨v4, l4, e4, h4⟩ := cons_of_len h3
  rw [e4, List.getElem?_cons_succ] at q6
  rw [e4, List.getElem?_cons_succ] at q7
  rw [e4, List.getElem?_cons_succ] at q8
  rw [e4, List.getElem?_cons_succ] at q45
  rw [e4, List.getElem?_cons_succ] at q46
  rw [e4, List.getElem?_cons_succ] at q48
  rw [e4, List.getElem?_cons_succ] at q51
  rw [e4, List.getElem?_cons_succ] at q53
  obtain ⟨v5, l5, e5, h5⟩ := cons_of_len h4
  rw [e5, List.getElem?_cons_succ] at q6
  rw [e5, List.getElem?_cons_succ] at q7
  rw [e5, List.getElem?_cons_succ] at q8
  rw [e5, List.getElem?_cons_succ] at q45
  rw [e5, List.getElem?_cons_succ] at q46
  rw [e5, List.getElem?_cons_succ] at q48
  rw [e5, List.getElem?_cons_succ] at q51
  rw [e5, List.getElem?_cons_succ] at q53
  obtain ⟨v6, l6, e6, h6⟩ := cons_of_len h5
  rw [e6, List.getElem?_cons_succ] at q7
  rw [e6, List.getElem?_cons_succ] at q8
  rw [e6, List.getElem?_cons_succ] at q45
  rw [e6, List.getElem?_cons_succ] at q46
  rw [e6, List.getElem?_cons_succ] at q48
  rw [e6, List.getElem?_cons_succ] at q51
  rw [e6, List.getElem?_cons_succ] at q53
  rw [e6, List.getElem?_cons_zero] at q6
  obtain rfl := Option.some.inj q6
  obtain ⟨v7, l7, e7, h7⟩ := cons_of_len h6
  rw [e7, List.getElem?_cons_succ] at q8
  rw [e7, List.getElem?_cons_succ] at q45
  rw [e7, List.getElem?_cons_succ] at q46
  rw [e7, List.getElem?_cons_succ] at q48
  rw [e7, List.getElem?_cons_succ] at q51
  rw [e7, List.getElem?_cons_succ] at q53
  rw [e7, List.getElem?_cons_zero] at q7
  obtain rfl := Option.some.inj q7
  obtain ⟨v8, l8, e8, h8⟩ := cons_of_len h7
  rw [e8, List.getElem?_cons_succ] at q45
  rw [e8, List.getElem?_cons_succ] at q46
  rw [e8, List.getElem?_cons_succ] at q48
  rw [e8, List.getElem?_cons_succ] at q51
  rw [e8, List.getElem?_cons_succ] at q53
  rw [e8, List.getElem?_cons_zero] at q8
  obtain rfl := Option.some.inj q8
  obtain ⟨v9, l9, e9, h9⟩ := cons_of_len h8
  rw [e9, List.getElem?_cons_succ] at q45
  rw [e9, List.getElem?_cons_succ] at q46
  rw [e9, List.getElem?_cons_succ] at q48
  rw [e9, List.getElem?_cons_succ] at q51
  rw [e9, List.getElem?_cons_succ] at q53
  obtain ⟨v10, l10, e10, h10⟩ := cons_of_len h9
  rw [e10, List.getElem?_cons_succ] at q45
  rw [e10, List.getElem?_cons_succ] at q46
  rw [e10, List.getElem?_cons_succ] at q48
  rw [e10, List.getElem?_cons_succ] at q51
  rw [e10, List.getElem?_cons_succ] at q53
  obtain ⟨v11, l11, e11, h11⟩ := cons_of_len h10
  rw [e11, List.getElem?_cons_succ] at q45
  rw [e11, List.getElem?_cons_succ] at q46
  rw [e11, List.getElem?_cons_succ] at q48
  rw [e11, List.getElem?_cons_succ] at q51
  rw [e11, List.getElem?_cons_succ] at q53
  obtain ⟨v12, l12, e12, h12⟩ := cons_of_len h11
  rw [e12, List.getElem?_cons_succ] at q45
  rw [e12, List.getElem?_cons_succ] at q46
  rw [e12, List.getElem?_cons_succ] at q48
  rw [e12, List.getElem?_cons_succ] at q51
  rw [e12, List.getElem?_cons_succ] at q53
  obtain ⟨v13, l13, e13, h13⟩ := cons_of_len h12
  rw [e13, List.getElem?_cons_succ] at q45
  rw [e13, List.getElem?_cons_succ] at q46
  rw [e13, List.getElem?_cons_succ] at q48
  rw [e13, List.getElem?_cons_succ] at q51
  rw [e13, List.getElem?_cons_succ] at q53
  obtain ⟨v14, l14, e14, h14⟩ := cons_of_len h13
  rw [e14, List.getElem?_cons_succ] at q45
  rw [e14, List.getElem?_cons_succ] at q46
  rw [e14, List.getElem?_cons_succ] at q48
  rw [e14, List.getElem?_cons_succ] at q51
  rw [e14, List.getElem?_cons_succ] at q53
  obtain ⟨v15, l15, e15, h15⟩ := cons_of_len h14
  rw [e15, List.getElem?_cons_succ] at q45
  rw [e15, List.getElem?_cons_succ] at q46
  rw [e15, List.getElem?_cons_succ] at q48
  rw [e15, List.getElem?_cons_succ] at q51
  rw [e15, List.getElem?_cons_succ] at q53
  obtain ⟨v16, l16, e16, h16⟩ := cons_of_len h15
  rw [e16, List.getElem?_cons_succ] at q45
  rw [e16, List.getElem?_cons_succ] at q46
  rw [e16, List.getElem?_cons_succ] at q48
  rw [e16, List.getElem?_cons_succ] at q51
  rw [e16, List.getElem?_cons_succ] at q53
  obtain ⟨v17, l17, e17, h17⟩ := cons_of_len h16
  rw [e17, List.getElem?_cons_succ] at q45
  rw [e17, List.getElem?_cons_succ] at q46
  rw [e17, List.getElem?_cons_succ] at q48
  rw [e17, List.getElem?_cons_succ] at q51
  rw [e17, List.getElem?_cons_succ] at q53
  obtain ⟨v18, l18, e18, h18⟩ := cons_of_len h17
  rw [e18, List.getElem?_cons_succ] at q45
  rw [e18, List.getElem?_cons_succ] at q46
  rw [e18, List.getElem?_cons_succ] at q48
  rw [e18, List.getElem?_cons_succ] at q51
  rw [e18, List.getElem?_cons_succ] at q53
  obtain ⟨v19, l19, e19, h19⟩ := cons_of_len h18
  rw [e19, List.getElem?_cons_succ] at q45
  rw [e19, List.getElem?_cons_succ] at q46
  rw [e19, List.getElem?_cons_succ] at q48
  rw [e19, List.getElem?_cons_succ] at q51
  rw [e19, List.getElem?_cons_succ] at q53
  obtain ⟨v20, l20, e20, h20⟩ := cons_of_len h19
  rw [e20, List.getElem?_cons_succ] at q45
  rw [e20, List.getElem?_cons_succ] at q46
  rw [e20, List.getElem?_cons_succ] at q48
  rw [e20, List.getElem?_cons_succ] at q51
  rw [e20, List.getElem?_cons_succ] at q53
  obtain ⟨v21, l21, e21, h21⟩ := cons_of_len h20
  rw [e21, List.getElem?_cons_succ] at q45
  rw [e21, List.getElem?_cons_succ] at q46
  rw [e21, List.getElem?_cons_succ] at q48
  rw [e21, List.getElem?_cons_succ] at q51
  rw [e21, List.getElem?_cons_succ] at q53
  obtain ⟨v22, l22, e22, h22⟩ := cons_of_len h21
  rw [e22, List.getElem?_cons_succ] at q45
  rw [e22, List.getElem?_cons_succ] at q46
  rw [e22, List.getElem?_cons_succ] at q48
  rw [e22, List.getElem?_cons_succ] at q51
  rw [e22, List.getElem?_cons_succ] at q53
  obtain ⟨v23, l23, e23, h23⟩ := cons_of_len h22
  rw [e23, List.getElem?_cons_succ] at q45
  rw [e23, List.getElem?_cons_succ] at q46
  rw [e23, List.getElem?_cons_succ] at q48
  rw [e23, List.getElem?_cons_succ] at q51
  rw [e23, List.getElem?_cons_succ] at q53
  obtain ⟨v24, l24, e24, h24⟩ := cons_of_len h23
  rw [e24, List.getElem?_cons_succ] at q45
  rw [e24, List.getElem?_cons_succ] at q46
  rw [e24, List.getElem?_cons_succ] at q48
  rw [e24, List.getElem?_cons_succ] at q51
  rw [e24, List.getElem?_cons_succ] at q53
  obtain ⟨v25, l25, e25, h25⟩ := cons_of_len h24
  rw [e25, List.getElem?_cons_succ] at q45
  rw [e25, List.getElem?_cons_succ] at q46
  rw [e25, List.getElem?_cons_succ] at q48
  rw [e25, List.getElem?_cons_succ] at q51
  rw [e25, List.getElem?_cons_succ] at q53
  obtain ⟨v26, l26, e26, h26⟩ := cons_of_len h25
  rw [e26, List.getElem?_cons_succ] at q45
  rw [e26, List.getElem?_cons_succ] at q46
  rw [e26, List.getElem?_cons_succ] at q48
  rw [e26, List.getElem?_cons_succ] at q51
  rw [e26, List.getElem?_cons_succ] at q53
  obtain ⟨v27, l27, e27, h27⟩ := cons_of_len h26
  rw [e27, List.getElem?_cons_succ] at q45
  rw [e27, List.getElem?_cons_succ] at q46
  rw [e27, List.getElem?_cons_succ] at q48
  rw [e27, List.getElem?_cons_succ] at q51
  rw [e27, List.getElem?_cons_succ] at q53
  obtain ⟨v28, l28, e28, h28⟩ := cons_of_len h27
  rw [e28, List.getElem?_cons_succ] at q45
  rw [e28, List.getElem?_cons_succ] at q46
  rw [e28, List.getElem?_cons_succ] at q48
  rw [e28, List.getElem?_cons_succ] at q51
  rw [e28, List.getElem?_cons_succ] at q53
  obtain ⟨v29, l29, e29, h29⟩ := cons_of_len h28
  rw [e29, List.getElem?_cons_succ] at q45
  rw [e29, List.getElem?_cons_succ] at q46
  rw [e29, List.getElem?_cons_succ] at q48
  rw [e29, List.getElem?_cons_succ] at q51
  rw [e29, List.getElem?_cons_succ] at q53
  obtain ⟨v30, l30, e30, h30⟩ := cons_of_len h29
  rw [e30, List.getElem?_cons_succ] at q45
  rw [e30, List.getElem?_cons_succ] at q46
  rw [e30, List.getElem?_cons_succ] at q48
  rw [e30, List.getElem?_cons_succ] at q51
  rw [e30, List.getElem?_cons_succ] at q53
  obtain ⟨v31, l31, e31, h31⟩ := cons_of_len h30
  rw [e31, List.getElem?_cons_succ] at q45
  rw [e31, List.getElem?_cons_succ] at q46
  rw [e31, List.getElem?_cons_succ] at q48
  rw [e31, List.getElem?_cons_succ] at q51
  rw [e31, List.getElem?_cons_succ] at q53
  obtain ⟨v32, l32, e32, h32⟩ := cons_of_len h31
  rw [e32, List.getElem?_cons_succ] at q45
  rw [e32, List.getElem?_cons_succ] at q46
  rw [e32, List.getElem?_cons_succ] at q48
  rw [e32, List.getElem?_cons_succ] at q51
  rw [e32, List.getElem?_cons_succ] at q53
  obtain ⟨v33, l33, e33, h33⟩ := cons_of_len h32
  rw [e33, List.getElem?_cons_succ] at q45
  rw [e33, List.getElem?_cons_succ] at q46
  rw [e33, List.getElem?_cons_succ] at q48
  rw [e33, List.getElem?_cons_succ] at q51
  rw [e33, List.getElem?_cons_succ] at q53
  obtain ⟨v34, l34, e34, h34⟩ := cons_of_len h33
  rw [e34, List.getElem?_cons_succ] at q45
  rw [e34, List.getElem?_cons_succ] at q46
  rw [e34, List.getElem?_cons_succ] at q48
  rw [e34, List.getElem?_cons_succ] at q51
  rw [e34, List.getElem?_cons_succ] at q53
  obtain ⟨v35, l35, e35, h35⟩ := cons_of_len h34
  rw [e35, List.getElem?_cons_succ] at q45
  rw [e35, List.getElem?_cons_succ] at q46
  rw [e35, List.getElem?_cons_succ] at q48
  rw [e35, List.getElem?_cons_succ] at q51
  rw [e35, List.getElem?_cons_succ] at q53
  obtain ⟨v36, l36, e36, h36⟩ := cons_of_len h35
  rw [e36, List.getElem?_cons_succ] at q45
  rw [e36, List.getElem?_cons_succ] at q46
  rw [e36, List.getElem?_cons_succ] at q48
  rw [e36, List.getElem?_cons_succ] at q51
  rw [e36, List.getElem?_cons_succ] at q53
  obtain ⟨v37, l37, e37, h37⟩ := cons_of_len h36
  rw [e37, List.getElem?_cons_succ] at q45
  rw [e37, List.getElem?_cons_succ] at q46
  rw [e37, List.getElem?_cons_succ] at q48
  rw [e37, List.getElem?_cons_succ] at q51
  rw [e37, List.getElem?_cons_succ] at q53
  obtain ⟨v38, l38, e38, h38⟩ := cons_of_len h37
  rw [e38, List.getElem?_cons_succ] at q45
  rw [e38, List.getElem?_cons_succ] at q46
  rw [e38, List.getElem?_cons_succ] at q48
  rw [e38, List.getElem?_cons_succ] at q51
  rw [e38, List.getElem?_cons_succ] at q53
  obtain ⟨v39, l39, e39, h39⟩ := cons_of_len h38
  rw [e39, List.getElem?_cons_succ] at q45
  rw [e39, List.getElem?_cons_succ] at q46
  rw [e39, List.getElem?_cons_succ] at q48
  rw [e39, List.getElem?_cons_succ] at q51
  rw [e39, List.getElem?_cons_succ] at q53
  obtain ⟨v40, l40, e40, h40⟩ := cons_of_len h39
  rw [e40, List.getElem?_cons_succ] at q45
  rw [e40, List.getElem?_cons_succ] at q46
  rw [e40, List.getElem?_cons_succ] at q48
  rw [e40, List.getElem?_cons_succ] at q51
  rw [e40, List.getElem?_cons_succ] at q53
  obtain ⟨v41, l41, e41, h41⟩ := cons_of_len h40
  rw [e41, List.getElem?_cons_succ] at q45
  rw [e41, List.getElem?_cons_succ] at q46
  rw [e41, List.getElem?_cons_succ] at q48
  rw [e41, List.getElem?_cons_succ] at q51
  rw [e41, List.getElem?_cons_succ] at q53
  obtain ⟨v42, l42, e42, h42⟩ := cons_of_len h41
  rw [e42, List.getElem?_cons_succ] at q45
  rw [e42, List.getElem?_cons_succ] at q46
  rw [e42, List.getElem?_cons_succ] at q48
  rw [e42, List.getElem?_cons_succ] at q51
  rw [e42, List.getElem?_cons_succ] at q53
  obtain ⟨v43, l43, e43, h43⟩ := cons_of_len h42
  rw [e43, List.getElem?_cons_succ] at q45
  rw [e43, List.getElem?_cons_succ] at q46
  rw [e43, List.getElem?_cons_succ] at q48
  rw [e43, List.getElem?_cons_succ] at q51
  rw [e43, List.getElem?_cons_succ] at q53
  obtain ⟨v44, l44, e44, h44⟩ := cons_of_len h43
  rw [e44, List.getElem?_cons_succ] at q45
  rw [e44, List.getElem?_cons_succ] at q46
  rw [e44, List.getElem?_cons_succ] at q48
  rw [e44, List.getElem?_cons_succ] at q51
  rw [e44, List.getElem?_cons_succ] at q53
  obtain ⟨v45, l45, e45, h45⟩ := cons_of_len h44
  rw [e45, List.getElem?_cons_succ] at q46
  rw [e45, List.getElem?_cons_succ] at q48
  rw [e45, List.getElem?_cons_succ] at q51
  rw [e45, List.getElem?_cons_succ] at q53
  rw [e45, List.getElem?_cons_zero] at q45
  obtain rfl := Option.some.inj q45
  obtain ⟨v46, l46, e46, h46⟩ := cons_of_len h45
  rw [e46, List.getElem?_cons_succ] at q48
  rw [e46, List.getElem?_cons_succ] at q51
  rw [e46, List.getElem?_cons_succ] at q53
  rw [e46, List.getElem?_cons_zero] at q46
  obtain rfl := Option.some.inj q46
  obtain ⟨v47, l47, e47, h47⟩ := cons_of_len h46
  rw [e47, List.getElem?_cons_succ] at q48
  rw [e47, List.getElem?_cons_succ] at q51
  rw [e47, List.getElem?_cons_succ] at q53
  obtain ⟨v48, l48, e48, h48⟩ := cons_of_len h47
  rw [e48, List.getElem?_cons_succ] at q51
  rw [e48, List.getElem?_cons_succ] at q53
  rw [e48, List.getElem?_cons_zero] at q48
  obtain rfl := Option.some.inj q48
  obtain ⟨v49, l49, e49, h49⟩ := cons_of_len h48
  rw [e49, List.getElem?_cons_succ] at q51
  rw [e49, List.getElem?_cons_succ] at q53
  obtain ⟨v50, l50, e50, h50⟩ := cons_of_len h49
  rw [e50, List.getElem?_cons_succ] at q51
  rw [e50, List.getElem?_cons_succ] at q53
  obtain ⟨v51, l51, e51, h51⟩ := cons_of_len h50
  rw [e51, List.getElem?_cons_succ] at q53
  rw [e51, List.getElem?_cons_zero] at q51
  obtain rfl := Option.some.inj q51
  obtain ⟨v52, l52, e52, h52⟩ := cons_of_len h51
  rw [e52, List.getElem?_cons_succ] at q53
  obtain ⟨v53, l53, e53, h53⟩ := cons_of_len h52
  rw [e53, List.getElem?_cons_zero] at q53
  obtain rfl := Option.some.inj q53
  obtain ⟨v54, l54, e54, h54⟩ := cons_of_len h53
  obtain ⟨v55, l55, e55, h55⟩ := cons_of_len h54
  obtain ⟨v56, l56, e56, h56⟩ := cons_of_len h55
  obtain ⟨v57, l57, e57, h57⟩ := cons_of_len h56
  obtain ⟨v58, l58, e58, h58⟩ := cons_of_len h57
  obtain ⟨v59, l59, e59, h59⟩ := cons_of_len h58
  obtain ⟨v60, l60, e60, h60⟩ := cons_of_len h59
  obtain ⟨v61, l61, e61, h61⟩ := cons_of_len h60
  obtain ⟨v62, l62, e62, h62⟩ := cons_of_len h61
  obtain ⟨v63, l63, e63, h63⟩ := cons_of_len h62
  obtain ⟨v64, l64, e64, h64⟩ := cons_of_len h63
  obtain ⟨v65, l65, e65, h65⟩ := cons_of_len h64
  obtain ⟨v66, l66, e66, h66⟩ := cons_of_len h65
  obtain ⟨v67, l67, e67, h67⟩ := cons_of_len h66
  obtain ⟨v68, l68, e68, h68⟩ := cons_of_len h67
  obtain ⟨v69, l69, e69, h69⟩ := cons_of_len h68
  obtain ⟨v70, l70, e70, h70⟩ := cons_of_len h69
  obtain ⟨v71, l71, e71, h71⟩ := cons_of_len h70
  obtain ⟨v72, l72, e72, h72⟩ := cons_of_len h71
  obtain ⟨v73, l73, e73, h73⟩ := cons_of_len h72
  obtain ⟨v74, l74, e74, h74⟩ := cons_of_len h73
  obtain ⟨v75, l75, e75, h75⟩ := cons_of_len h74
  obtain ⟨v76, l76, e76, h76⟩ := cons_of_len h75
  obtain ⟨v77, l77, e77, h77⟩ := cons_of_len h76
  obtain ⟨v78, l78, e78, h78⟩ := cons_of_len h77
  obtain ⟨v79, l79, e79, h79⟩ := cons_of_len h78
  obtain ⟨v80, l80, e80, h80⟩ := cons_of_len h79
  obtain ⟨v81, l81, e81, h81⟩ := cons_of_len h80
  obtain ⟨v82, l82, e82, h82⟩ := cons_of_len h81
  obtain ⟨v83, l83, e83, h83⟩ := cons_of_len h82
  obtain ⟨v84, l84, e84, h84⟩ := cons_of_len h83
  obtain ⟨v85, l85, e85, h85⟩ := cons_of_len h84
  obtain ⟨v86, l86, e86, h86⟩ := cons_of_len h85
  obtain ⟨v87, l87, e87, h87⟩ := cons_of_len h86
  obtain ⟨v88, l88, e88, h88⟩ := cons_of_len h87
  obtain ⟨v89, l89, e89, h89⟩ := cons_of_len h88
  obtain ⟨v90, l90, e90, h90⟩ := cons_of_len h89
  obtain ⟨v91, l91, e91, h91⟩ := cons_of_len h90
  obtain ⟨v92, l92, e92, h92⟩ := cons_of_len h91
  obtain ⟨v93, l93, e93, h93⟩ := cons_of_len h92
  obtain ⟨v94, l94, e94, h94⟩ := cons_of_len h93
  obtain ⟨v95, l95, e95, h95⟩ := cons_of_len h94
  obtain ⟨v96, l96, e96, h96⟩ := cons_of_len h95
  have e : l96 = [] := List.eq_nil_of_length_eq_zero h96
  rw [e0, e1, e2, e3, e4, e5, e6, e7, e8, e9, e10, e11, e12, e13, e14, e15, e16, e17, e18, e19, e20, e21, e22, e23, e24, e25, e26, e27, e28, e29, e30, e31, e32, e33, e34, e35, e36, e37, e38, e39, e40, e41, e42, e43, e44, e45, e46, e47, e48, e49, e50, e51, e52, e53, e54, e55, e56, e57, e58, e59, e60, e61, e62, e63, e64, e65, e66, e67, e68, e69, e70, e71, e72, e73, e74, e75, e76, e77, e78, e79, e80, e81, e82, e83, e84, e85, e86, e87, e88, e89, e90, e91, e92, e93, e94, e95, e96, e]
  exact H v0 v4 v5 v9 v10 v11 v12 v13 v14 v15 v16 v17 v18 v19 v20 v21 v22 v23 v24 v25 v26 v27 v28 v29 v30 v31 v32 v33 v34 v35 v36 v37 v38 v39 v40 v41 v42 v43 v44 v47 v49 v50 v52 v54 v55 v56 v57 v58 v59 v60 v61 v62 v63 v64 v65 v66 v67 v68 v69 v70 v71 v72 v73 v74 v75 v76 v77 v78 v79 v80 v81 v82 v83 v84 v85 v86 v87 v88 v89 v90 v91 v92 v93 v94 v95 v96

end Go.Proofs.Ythabkpkgocafoaa
