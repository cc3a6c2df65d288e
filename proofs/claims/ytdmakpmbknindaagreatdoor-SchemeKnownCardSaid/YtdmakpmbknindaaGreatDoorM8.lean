import Derived.Test.YtdmakpmbknindaaGreatDoorM6
import Derived.Test.YtdmakpmbknindaaGreatDoorM1
import Derived.Test.YtdmakpmbknindaaGreatDoorShelfP
import Derived.Laws.CopyOwn
import Derived.Deep.RegionLaw
import Derived.Test.YtdmakpmbknindaaGreatDoorM2
import Derived.Test.YtdmakpmbknindaaGreatDoorM7
import Derived.RangeFuncNested
import Derived.RangeFuncBound
import Derived.RangeFuncCalls
import Derived.RangeFuncLeaves
import Derived.Shelf.Abstract
import Derived.Shelf.RegionOpen
import Derived.WalkKit
import Derived.TacticsInMore
import Derived.LoopNIn
import Derived.LoopIn
import Derived.Sort.LoopGhostIn
import Derived.Lib.QuietBelowIn
namespace Go.Proofs.YtdmakpmbknindaaGreatDoor
set_option linter.unusedVariables false
set_option linter.unusedSimpArgs false
open Go.RowKit Go.Conc
theorem made_one (z:Value) (hz:z.cells=#[z]) (N:Nat):madeCells z.cells N=(List.replicate N z).toArray:=by
 rw[hz];unfold madeCells
 apply Array.ext
 · simp
 · intro i h1 h2
   simp[Nat.mod_one]
theorem multInfo:(Tryz.prog.info? 22).map (fun i=>(i.zero,i.size,i.bytes))=some (some (.int .u8 0),1,1):=by kernel_rfl
theorem rowInfo:(Tryz.prog.info? 30).map (fun i=>(i.zero,i.size,i.bytes))=some (some (.slice none 0 0),1,24):=by kernel_rfl
theorem make_mult (N:Nat) (hN:N≤1048576) (w:World):(Instr.makeSlice 35 (.int .i64 N) (.int .i64 N)).run Tryz.prog w=.ok (.slice (some ⟨w.heap.size,0,none⟩) N N) (w.alloc (.cells (List.replicate N (.int .u8 0)).toArray 22)):=by
 obtain⟨i0,hi0,hi1,hi2,hi3⟩:=info_parts multInfo
 have h:=run_makeSlice (P:=Tryz.prog) w 35 22 i0 _ Tryz.underlying35 hi0 hi1 .i64 .i64 N N (by omega) (by omega) (by rw[hi2]; simp; omega) (by rw[hi3]; simp; omega) (by omega)
 rw[h]
 have:madeCells (.int .u8 0:Value).cells ((N:Int).toNat * i0.size)=(List.replicate N (.int .u8 0)).toArray:=by
  rw[hi2,Int.toNat_natCast,Nat.mul_one];exact made_one _ rfl N
 rw[this];simp
theorem make_int (N:Nat) (hN:N≤1048576) (w:World):(Instr.makeSlice 30 (.int .i64 N) (.int .i64 N)).run Tryz.prog w=.ok (.slice (some ⟨w.heap.size,0,none⟩) N N) (w.alloc (.cells (List.replicate N (.int .i64 0)).toArray 3)):=by
 obtain⟨i0,hi0,hi1,hi2,hi3⟩:=info_parts intInfo
 have h:=run_makeSlice (P:=Tryz.prog) w 30 3 i0 _ Tryz.underlying30 hi0 hi1 .i64 .i64 N N (by omega) (by omega) (by rw[hi2]; simp; omega) (by rw[hi3]; simp; omega) (by omega)
 rw[h]
 have:madeCells (.int .i64 0:Value).cells ((N:Int).toNat * i0.size)=(List.replicate N (.int .i64 0)).toArray:=by
  rw[hi2,Int.toNat_natCast,Nat.mul_one];exact made_one _ rfl N
 rw[this];simp
theorem make_rows (N:Nat) (hN:N≤1048576) (w:World):(Instr.makeSlice 128 (.int .i64 N) (.int .i64 N)).run Tryz.prog w=.ok (.slice (some ⟨w.heap.size,0,none⟩) N N) (w.alloc (.cells (List.replicate N (.slice none 0 0)).toArray 30)):=by
 obtain⟨i0,hi0,hi1,hi2,hi3⟩:=info_parts rowInfo
 have h:=run_makeSlice (P:=Tryz.prog) w 128 30 i0 _ Tryz.underlying128 hi0 hi1 .i64 .i64 N N (by omega) (by omega) (by rw[hi2]; simp; omega) (by rw[hi3]; simp; omega) (by omega)
 rw[h]
 have:madeCells (.slice none 0 0:Value).cells ((N:Int).toNat * i0.size)=(List.replicate N (.slice none 0 0)).toArray:=by
  rw[hi2,Int.toNat_natCast,Nat.mul_one];exact made_one _ rfl N
 rw[this];simp
theorem splice_rep (u z:Value) (n k m:Nat) (hm:k+m≤n):splice (List.replicate k u++List.replicate (n - k) z) k (List.replicate m u)=List.replicate (k+m) u++List.replicate (n - (k+m)) z:=by
 unfold splice;rw[List.take_left' (by simp),List.drop_append,List.drop_of_length_le (by simp),List.nil_append,List.drop_replicate,← List.append_assoc,List.replicate_append_replicate]
 congr 2
 simp;omega
theorem run_copy_at (w:World) (T ty E:TypeId) (g o dLen dCap:Nat) (a:Addr) (sLen sCap:Nat) (cur cs:List Value) (t:TypeId)
 (hu:Tryz.prog.underlying T=some (.slice E)) (hs:(Tryz.prog.info? E).map (·.size)=some 1) (hg:w.heap[g]?=some (.cells cur.toArray t (0,0))) (hn:cs.length=Nat.min sLen dLen)
 (hsrc:∀ j v,cs[j]?=some v→w.cell? (a.add j)=some v) (hfit:o+cs.length≤cur.length) (h1:∀ v∈cs,v.oneCell'=true) (B:Nat) (w0:World) (hb:Below B w0 w) (hB:B≤g):
 ∃ w2,(Builtin.copy_ #[T,T] ty #[.slice (some ⟨g,o,none⟩) dLen dCap,.slice (some a) sLen sCap]).run Tryz.prog w=.ok (.int .i64 (cs.length:Nat)) w2∧Blk w2 g t (splice cur o cs).toArray∧Below B w0 w2:=
 ⟨_,run_copy_row (P:=Tryz.prog) w T T ty E g o dLen dCap a sLen sCap cur.toArray t cs hu hs hg hn hsrc (by simpa using hfit) h1,by have:=setRow_heap w g cur.toArray (splice cur o cs).toArray t (0,0) hg; simpa[splice,Blk] using this,below_setRow hb hB _⟩
set_option maxRecDepth 100000 in
set_option maxHeartbeats 1000000 in
theorem repeat_mult (u:Value) (hu1:u.oneCell'=true) (n:Nat) (hn:n≤1048576) (A:Addr) (c:Nat) (w:World) (hA:w.cell? A=some u) (hAb:A.block<w.heap.size):
 Calls Tryz.prog 31 #[.slice (some A) 1 c,.int .i64 n] w fun e w'=>∃ g,e=.returned (.slice (some ⟨g,0,none⟩) n n)∧Blk w' g 22 (List.replicate n u).toArray∧w.heap.size≤g∧Below w.heap.size w w':=by
 have hmul:=Tryz.bits_Mul 1 n (by omega) (by omega) w
 rw[show 1 * n / 18446744073709551616=0 by omega,show 1 * n % 18446744073709551616=n by omega] at hmul
 have Hmul:=qq hmul;clear hmul;have hmk:=make_mult n hn
 have n63:n≤9223372036854775807:=by omega
 go_enter Tryz.func31,Tryz.ntmps31
 have d0:decide ((n:Int)<0)=false:=by simp
 have d1:decide ((n:Int)>9223372036854775807)=false:=by simp; omega
 go_wp2_with fail;refine Hmul.out.mono ?_;rintro e w1 ⟨rfl,rfl⟩;have hb1:Below w1.heap.size w1 (w1.alloc (.cells (Array.replicate n ((Value.int .u8 0))) 22)):=below_box _;have hg1:(w1.alloc (.cells (Array.replicate n ((Value.int .u8 0))) 22)).heap[w1.heap.size]?=some (.cells (List.replicate n ((Value.int .u8 0))).toArray 22 (0,0)):=(blk_new w1 (Array.replicate n ((Value.int .u8 0))) 22).trans (by simp)
 have hA1:∀ j v,(List.replicate (min 1 n) u)[j]?=some v→(w1.alloc (.cells (Array.replicate n ((Value.int .u8 0))) 22)).cell? (A.add j)=some v:=fun j v hj=>by
  obtain⟨hj1,hj2⟩:=List.getElem?_eq_some_iff.1 hj
  have hj0:j=0:=by simp at hj1; omega
  subst hj0;simp at hj2;subst hj2
  rw[show A.add 0=A from by unfold Addr.add; split <;> simp_all]
  exact(World.cell?_alloc_lt _ _ A hAb).trans hA
 obtain⟨w2,hcp,hg2,hb2⟩:=run_copy_at (w1.alloc (.cells (Array.replicate n ((Value.int .u8 0))) 22)) 35 3 22 w1.heap.size 0 n n A 1 c (List.replicate n ((Value.int .u8 0))) (List.replicate (min 1 n) u) 22 Tryz.underlying35 (by kernel_rfl) hg1 (by simp) hA1 (by simp; omega) (by intro v hv; rw[List.eq_of_mem_replicate hv]; exact hu1) w1.heap.size w1 hb1 (Nat.le_refl _)
 have hg3:Blk w2 w1.heap.size 22 (List.replicate (min 1 n) u++List.replicate (n - min 1 n) ((Value.int .u8 0))).toArray:=by
  have:=splice_rep u ((Value.int .u8 0):Value) n 0 (min 1 n) (by omega);simp only[List.replicate_zero,List.nil_append,Nat.sub_zero,Nat.zero_add] at this;rw[this] at hg2;exact hg2
 rw[List.length_replicate] at hcp;have H3:=qq hg3;clear hg2 hg1 hb1 hA1 hg3;go_wp2_with fail;have Hb2:=qq hb2;have Hsz:Hid (w1.heap.size<w2.heap.size):=qq H3.out.lt;clear hb2 hA hAb hcp
 go_loopg [8] (n - min 1 n) (fun gh i wr=>∃ k,k≤n∧gh=n - k∧i=.int .i64 (k:Nat)∧(0<k∨n=0)∧Blk wr w1.heap.size 22 (List.replicate k u++List.replicate (n - k) ((Value.int .u8 0))).toArray∧Below w1.heap.size w1 wr)
 case atStart=>exact⟨min 1 n,by omega,rfl,rfl,by omega,H3.out,Hb2.out⟩
 case round=>
  obtain⟨k,hk,rfl,rfl,hk0,hbk,hbel⟩:=hrel
  by_cases hkn:k<n
  · have i1:(0:Int)≤(k:Int):=by omega
    have i2:(k:Int)≤n:=by omega
    have i3:(k:Int)<n:=by omega
    have hnk:¬ n=k:=by omega
    have hbl:=hbk.lt
    have hsrc:∀ j v,(List.replicate (min k (n - k)) u)[j]?=some v→wr.drew.cell? (Addr.add ⟨w1.heap.size,0,none⟩ j)=some v:=fun j v hj=>by
     obtain⟨hj1,hj2⟩:=List.getElem?_eq_some_iff.1 hj;rw[List.length_replicate] at hj1;rw[List.getElem_replicate] at hj2;subst hj2
     rw[show Addr.add ⟨w1.heap.size,0,none⟩ j=⟨w1.heap.size,j,none⟩ from by unfold Addr.add; split <;> simp_all]
     show wr.cell? _=_;rw[Blk.cell hbk]
     have hj3:j<k:=by omega
     simp[List.getElem?_append,hj3]
    go_wp2_with fail;refine wp_region_noPanic ?_;refine wp_region_T (fun w'=>True) 10 (by kernel_rfl) trivial (fun hHeld=>?_)
    refine wpAnyT_take (i:=0) (v:=?_) rfl (by kernel_rfl) (by kernel_rfl) (by kernel_rfl) (by kernel_rfl) (fun _ _ _ h=>h) (Or.inl ⟨by rfl,?_⟩) (by assumption) ?_
    rotate_left
    · (intro w hSw; (try dsimp only at hSw); first | (go_simp; done) | (go_simp; with_reducible rfl))
    try simp only[Act.put,qg,qe,qf,qd,qh,qi]
    refine wpAnyT_take (i:=1) (v:=?_) rfl (by kernel_rfl) (by kernel_rfl) (by kernel_rfl) (by kernel_rfl) (fun _ _ _ h=>h) (Or.inl ⟨by rfl,?_⟩) (by assumption) ?_
    rotate_left
    · (intro w hSw; (try dsimp only at hSw); first | (go_simp; done) | (go_simp; with_reducible rfl))
    try simp only[Act.put,qg,qe,qf,qd,qh,qi]
    refine wpAnyT_take (i:=2) (v:=?_) rfl (by kernel_rfl) (by kernel_rfl) (by kernel_rfl) (by kernel_rfl) (fun _ _ _ h=>h) (Or.inl ⟨by rfl,?_⟩) (by assumption) ?_
    rotate_left
    · (intro w hSw; (try dsimp only at hSw); first | (go_simp; done) | (go_simp; with_reducible rfl))
    try simp only[Act.put,qg,qe,qf,qd,qh,qi]
    refine wpAnyT_take (i:=3) (v:=?_) rfl (by kernel_rfl) (by kernel_rfl) (by kernel_rfl) (by kernel_rfl) (fun _ _ _ h=>h) (Or.inl ⟨by rfl,?_⟩) (by assumption) ?_
    rotate_left
    · (intro w hSw; (try dsimp only at hSw); first | (go_simp; done) | (go_simp; with_reducible rfl))
    try simp only[Act.put,qg,qe,qf,qd,qh,qi]
    refine wpAnyT_take (i:=4) (v:=?_) rfl (by kernel_rfl) (by kernel_rfl) (by kernel_rfl) (by kernel_rfl) (fun _ _ _ h=>h) (Or.inl ⟨by rfl,?_⟩) (by assumption) ?_
    rotate_left
    · (intro w hSw; (try dsimp only at hSw); first | (go_simp; done) | (go_simp; with_reducible rfl))
    try simp only[Act.put,qg,qe,qf,qd,qh,qi]
    refine wpAnyT_take (i:=5) (v:=?_) rfl (by kernel_rfl) (by kernel_rfl) (by kernel_rfl) (by kernel_rfl) (fun _ _ _ h=>h) (Or.inl ⟨by rfl,?_⟩) (by assumption) ?_
    rotate_left
    · (intro w hSw; (try dsimp only at hSw); first | (go_simp; done) | (go_simp; with_reducible rfl))
    try simp only[Act.put,qg,qe,qf,qd,qh,qi]
    refine wpAnyT_take (i:=6) (v:=?_) rfl (by kernel_rfl) (by kernel_rfl) (by kernel_rfl) (by kernel_rfl) (fun _ _ _ h=>h) (Or.inl ⟨by rfl,?_⟩) (by assumption) ?_
    rotate_left
    · (intro w hSw; (try dsimp only at hSw); first | (go_simp; done) | (go_simp; with_reducible rfl))
    try simp only[Act.put,qg,qe,qf,qd,qh,qi]
    refine wpAnyT_step (i:=7) (by kernel_rfl) rfl (fun K hK=>?_)
    (refine step_copy_splice rfl (.tmp 41) (.tmp 44) 35 35 (by rfl) 22 Tryz.underlying35 (by kernel_rfl) (some ⟨w1.heap.size,k,none⟩) (some ⟨w1.heap.size,0,none⟩) (n - k) (n - k) k n (by rfl) (by rfl) w1.heap.size k (List.replicate k u++List.replicate (n - k) (Value.int .u8 0)) 22 hbk (List.replicate (min k (n - k)) u) (by simp) (fun _=>⟨rfl,_,rfl,hsrc⟩) (by simp; omega) (by intro v hv; rw[List.eq_of_mem_replicate hv]; exact hu1) w1.heap.size w1 hbel.drew (Nat.le_refl _) ?_; intro w7 hg7 hb7)
    refine hK.out _ _ trivial ?_;clear hK K
    try simp only[Act.put,qg,qe,qf,qd,qh,qi]
    rw[List.length_replicate];have hg8:=hg7.out;rw[splice_rep u (Value.int .u8 0) n k (min k (n - k)) (by omega)] at hg8;have Hg8:=qq hg8;have Hb7:=qq hb7;clear hg7 hg8 hb7 hbk hbel hsrc;refine wpAnyT_step (i:=8) (by kernel_rfl) rfl (fun K hK=>?_);go_simp;refine hK.out _ _ trivial ?_;clear hK K
    try simp only[Act.put,qg,qe,qf,qd,qh,qi]
    refine wpAnyT_step (i:=9) (by kernel_rfl) rfl (fun K hK=>?_);go_simp;refine hK.out _ _ trivial ?_;clear hK K
    try simp only[Act.put,qg,qe,qf,qd,qh,qi]
    refine wpAnyT_seq 10 (by omega) (by rfl) (by kernel_rfl) ?_;simp only[List.drop_succ_cons,List.drop_zero];go_wp2_with fail;refine NoPanic.normal ?_;go_wp2_with fail;go_roundg (n - (k+min k (n - k)))
    case measure=>
     have h1:0<min k (n - k):=Nat.lt_min.2 ⟨by omega,by omega⟩
     have h2:min k (n - k)≤n - k:=Nat.min_le_right _ _;exact Nat.sub_lt_sub_left hkn (by omega)
    case rel=>exact⟨k+min k (n - k),by have:=Nat.min_le_right k (n - k); omega,rfl,by have h9:=Nat.min_le_right k (n - k); rw[IntWalk.i64_in _ (by omega),Int.natCast_add],Or.inl (by omega),Hg8.out,Hb7.out⟩
  · have hkn':k=n:=by omega
    subst hkn';rw[Nat.sub_self,List.replicate_zero,List.append_nil] at hbk;have Hbk:=qq hbk;have Hbel:=qq hbel;clear hbk hbel;go_wp2_with fail;go_ret;exact⟨_,rfl,Hbk.out,Nat.le_refl _,Hbel.out⟩
set_option maxRecDepth 100000 in
set_option maxHeartbeats 1000000 in
theorem repeat_int (u:Value) (hu1:u.oneCell'=true) (n:Nat) (hn:n≤1048576) (A:Addr) (c:Nat) (w:World) (hA:w.cell? A=some u) (hAb:A.block<w.heap.size):
 Calls Tryz.prog 82 #[.slice (some A) 1 c,.int .i64 n] w fun e w'=>∃ g,e=.returned (.slice (some ⟨g,0,none⟩) n n)∧Blk w' g 3 (List.replicate n u).toArray∧w.heap.size≤g∧Below w.heap.size w w':=by
 have hmul:=Tryz.bits_Mul 1 n (by omega) (by omega) w
 rw[show 1 * n / 18446744073709551616=0 by omega,show 1 * n % 18446744073709551616=n by omega] at hmul
 have Hmul:=qq hmul;clear hmul;have hmk:=make_int n hn
 have n63:n≤9223372036854775807:=by omega
 go_enter Tryz.func82,Tryz.ntmps82
 have d0:decide ((n:Int)<0)=false:=by simp
 have d1:decide ((n:Int)>9223372036854775807)=false:=by simp; omega
 go_wp2_with fail;refine Hmul.out.mono ?_;rintro e w1 ⟨rfl,rfl⟩;have hb1:Below w1.heap.size w1 (w1.alloc (.cells (Array.replicate n ((Value.int .i64 0))) 3)):=below_box _;have hg1:(w1.alloc (.cells (Array.replicate n ((Value.int .i64 0))) 3)).heap[w1.heap.size]?=some (.cells (List.replicate n ((Value.int .i64 0))).toArray 3 (0,0)):=(blk_new w1 (Array.replicate n ((Value.int .i64 0))) 3).trans (by simp)
 have hA1:∀ j v,(List.replicate (min 1 n) u)[j]?=some v→(w1.alloc (.cells (Array.replicate n ((Value.int .i64 0))) 3)).cell? (A.add j)=some v:=fun j v hj=>by
  obtain⟨hj1,hj2⟩:=List.getElem?_eq_some_iff.1 hj
  have hj0:j=0:=by simp at hj1; omega
  subst hj0;simp at hj2;subst hj2
  rw[show A.add 0=A from by unfold Addr.add; split <;> simp_all]
  exact(World.cell?_alloc_lt _ _ A hAb).trans hA
 obtain⟨w2,hcp,hg2,hb2⟩:=run_copy_at (w1.alloc (.cells (Array.replicate n ((Value.int .i64 0))) 3)) 30 3 3 w1.heap.size 0 n n A 1 c (List.replicate n ((Value.int .i64 0))) (List.replicate (min 1 n) u) 3 Tryz.underlying30 (by kernel_rfl) hg1 (by simp) hA1 (by simp; omega) (by intro v hv; rw[List.eq_of_mem_replicate hv]; exact hu1) w1.heap.size w1 hb1 (Nat.le_refl _)
 have hg3:Blk w2 w1.heap.size 3 (List.replicate (min 1 n) u++List.replicate (n - min 1 n) ((Value.int .i64 0))).toArray:=by
  have:=splice_rep u ((Value.int .i64 0):Value) n 0 (min 1 n) (by omega);simp only[List.replicate_zero,List.nil_append,Nat.sub_zero,Nat.zero_add] at this;rw[this] at hg2;exact hg2
 rw[List.length_replicate] at hcp;have H3:=qq hg3;clear hg2 hg1 hb1 hA1 hg3;go_wp2_with fail;have Hb2:=qq hb2;have Hsz:Hid (w1.heap.size<w2.heap.size):=qq H3.out.lt;clear hb2 hA hAb hcp
 go_loopg [8] (n - min 1 n) (fun gh i wr=>∃ k,k≤n∧gh=n - k∧i=.int .i64 (k:Nat)∧(0<k∨n=0)∧Blk wr w1.heap.size 3 (List.replicate k u++List.replicate (n - k) ((Value.int .i64 0))).toArray∧Below w1.heap.size w1 wr)
 case atStart=>exact⟨min 1 n,by omega,rfl,rfl,by omega,H3.out,Hb2.out⟩
 case round=>
  obtain⟨k,hk,rfl,rfl,hk0,hbk,hbel⟩:=hrel
  by_cases hkn:k<n
  · have i1:(0:Int)≤(k:Int):=by omega
    have i2:(k:Int)≤n:=by omega
    have i3:(k:Int)<n:=by omega
    have hnk:¬ n=k:=by omega
    have hbl:=hbk.lt
    have hsrc:∀ j v,(List.replicate (min k (n - k)) u)[j]?=some v→wr.drew.cell? (Addr.add ⟨w1.heap.size,0,none⟩ j)=some v:=fun j v hj=>by
     obtain⟨hj1,hj2⟩:=List.getElem?_eq_some_iff.1 hj;rw[List.length_replicate] at hj1;rw[List.getElem_replicate] at hj2;subst hj2
     rw[show Addr.add ⟨w1.heap.size,0,none⟩ j=⟨w1.heap.size,j,none⟩ from by unfold Addr.add; split <;> simp_all]
     show wr.cell? _=_;rw[Blk.cell hbk]
     have hj3:j<k:=by omega
     simp[List.getElem?_append,hj3]
    go_wp2_with fail;refine wp_region_noPanic ?_;refine wp_region_T (fun w'=>True) 10 (by kernel_rfl) trivial (fun hHeld=>?_)
    refine wpAnyT_take (i:=0) (v:=?_) rfl (by kernel_rfl) (by kernel_rfl) (by kernel_rfl) (by kernel_rfl) (fun _ _ _ h=>h) (Or.inl ⟨by rfl,?_⟩) (by assumption) ?_
    rotate_left
    · (intro w hSw; (try dsimp only at hSw); first | (go_simp; done) | (go_simp; with_reducible rfl))
    try simp only[Act.put,qg,qe,qf,qd,qh,qi]
    refine wpAnyT_take (i:=1) (v:=?_) rfl (by kernel_rfl) (by kernel_rfl) (by kernel_rfl) (by kernel_rfl) (fun _ _ _ h=>h) (Or.inl ⟨by rfl,?_⟩) (by assumption) ?_
    rotate_left
    · (intro w hSw; (try dsimp only at hSw); first | (go_simp; done) | (go_simp; with_reducible rfl))
    try simp only[Act.put,qg,qe,qf,qd,qh,qi]
    refine wpAnyT_take (i:=2) (v:=?_) rfl (by kernel_rfl) (by kernel_rfl) (by kernel_rfl) (by kernel_rfl) (fun _ _ _ h=>h) (Or.inl ⟨by rfl,?_⟩) (by assumption) ?_
    rotate_left
    · (intro w hSw; (try dsimp only at hSw); first | (go_simp; done) | (go_simp; with_reducible rfl))
    try simp only[Act.put,qg,qe,qf,qd,qh,qi]
    refine wpAnyT_take (i:=3) (v:=?_) rfl (by kernel_rfl) (by kernel_rfl) (by kernel_rfl) (by kernel_rfl) (fun _ _ _ h=>h) (Or.inl ⟨by rfl,?_⟩) (by assumption) ?_
    rotate_left
    · (intro w hSw; (try dsimp only at hSw); first | (go_simp; done) | (go_simp; with_reducible rfl))
    try simp only[Act.put,qg,qe,qf,qd,qh,qi]
    refine wpAnyT_take (i:=4) (v:=?_) rfl (by kernel_rfl) (by kernel_rfl) (by kernel_rfl) (by kernel_rfl) (fun _ _ _ h=>h) (Or.inl ⟨by rfl,?_⟩) (by assumption) ?_
    rotate_left
    · (intro w hSw; (try dsimp only at hSw); first | (go_simp; done) | (go_simp; with_reducible rfl))
    try simp only[Act.put,qg,qe,qf,qd,qh,qi]
    refine wpAnyT_take (i:=5) (v:=?_) rfl (by kernel_rfl) (by kernel_rfl) (by kernel_rfl) (by kernel_rfl) (fun _ _ _ h=>h) (Or.inl ⟨by rfl,?_⟩) (by assumption) ?_
    rotate_left
    · (intro w hSw; (try dsimp only at hSw); first | (go_simp; done) | (go_simp; with_reducible rfl))
    try simp only[Act.put,qg,qe,qf,qd,qh,qi]
    refine wpAnyT_take (i:=6) (v:=?_) rfl (by kernel_rfl) (by kernel_rfl) (by kernel_rfl) (by kernel_rfl) (fun _ _ _ h=>h) (Or.inl ⟨by rfl,?_⟩) (by assumption) ?_
    rotate_left
    · (intro w hSw; (try dsimp only at hSw); first | (go_simp; done) | (go_simp; with_reducible rfl))
    try simp only[Act.put,qg,qe,qf,qd,qh,qi]
    refine wpAnyT_step (i:=7) (by kernel_rfl) rfl (fun K hK=>?_)
    (refine step_copy_splice rfl (.tmp 41) (.tmp 44) 30 30 (by rfl) 3 Tryz.underlying30 (by kernel_rfl) (some ⟨w1.heap.size,k,none⟩) (some ⟨w1.heap.size,0,none⟩) (n - k) (n - k) k n (by rfl) (by rfl) w1.heap.size k (List.replicate k u++List.replicate (n - k) (Value.int .i64 0)) 3 hbk (List.replicate (min k (n - k)) u) (by simp) (fun _=>⟨rfl,_,rfl,hsrc⟩) (by simp; omega) (by intro v hv; rw[List.eq_of_mem_replicate hv]; exact hu1) w1.heap.size w1 hbel.drew (Nat.le_refl _) ?_; intro w7 hg7 hb7)
    refine hK.out _ _ trivial ?_;clear hK K
    try simp only[Act.put,qg,qe,qf,qd,qh,qi]
    rw[List.length_replicate];have hg8:=hg7.out;rw[splice_rep u (Value.int .i64 0) n k (min k (n - k)) (by omega)] at hg8;have Hg8:=qq hg8;have Hb7:=qq hb7;clear hg7 hg8 hb7 hbk hbel hsrc;refine wpAnyT_step (i:=8) (by kernel_rfl) rfl (fun K hK=>?_);go_simp;refine hK.out _ _ trivial ?_;clear hK K
    try simp only[Act.put,qg,qe,qf,qd,qh,qi]
    refine wpAnyT_step (i:=9) (by kernel_rfl) rfl (fun K hK=>?_);go_simp;refine hK.out _ _ trivial ?_;clear hK K
    try simp only[Act.put,qg,qe,qf,qd,qh,qi]
    refine wpAnyT_seq 10 (by omega) (by rfl) (by kernel_rfl) ?_;simp only[List.drop_succ_cons,List.drop_zero];go_wp2_with fail;refine NoPanic.normal ?_;go_wp2_with fail;go_roundg (n - (k+min k (n - k)))
    case measure=>
     have h1:0<min k (n - k):=Nat.lt_min.2 ⟨by omega,by omega⟩
     have h2:min k (n - k)≤n - k:=Nat.min_le_right _ _;exact Nat.sub_lt_sub_left hkn (by omega)
    case rel=>exact⟨k+min k (n - k),by have:=Nat.min_le_right k (n - k); omega,rfl,by have h9:=Nat.min_le_right k (n - k); rw[IntWalk.i64_in _ (by omega),Int.natCast_add],Or.inl (by omega),Hg8.out,Hb7.out⟩
  · have hkn':k=n:=by omega
    subst hkn';rw[Nat.sub_self,List.replicate_zero,List.append_nil] at hbk;have Hbk:=qq hbk;have Hbel:=qq hbel;clear hbk hbel;go_wp2_with fail;go_ret;exact⟨_,rfl,Hbk.out,Nat.le_refl _,Hbel.out⟩
end Go.Proofs.YtdmakpmbknindaaGreatDoor
namespace Go.Proofs.YtdmakpmbknindaaGreatDoor
set_option linter.unusedVariables false
set_option linter.unusedSimpArgs false
open Go.RowKit Go.Shelf
attribute [local go_sem] Oper.semAt_some
set_option maxRecDepth 100000 in
theorem reach_in (F:Fence) (n:Nat) (hf:F.fn 144) (hro:F.round=none) (A:Option Addr) (nw cw:Nat) (v c:Int) (w:World):
 CallsIn F n Tryz.prog 144 #[.slice A nw cw,.int .i64 v,.int .u8 c] w fun e w'=>e=.returned (.func (.func 161) #[] #[.pointer (some ⟨w.heap.size,0,none⟩),.pointer (some ⟨w.heap.size+1,0,none⟩),.pointer (some ⟨w.heap.size+1+1,0,none⟩)])∧w'=((w.alloc (.cells #[.slice A nw cw] 148)).alloc (.cells #[.int .i64 v] 3)).alloc (.cells #[.int .u8 c] 22):=by
 refine callsIn_of_wp Tryz.func144 rfl hf ?_ hro;simp only[Tryz.ntmps144,List.size_toArray,List.length_cons,List.length_nil,Nat.reduceAdd,Nat.reduceSub,Array.replicate_succ,Array.replicate_zero,List.push_toArray,List.append_toArray,List.nil_append,List.cons_append]
 gi_wp2
 go_ret;exact⟨rfl,rfl⟩
def WebR (w:World) (B:Nat) (A:Option Addr) (N c:Nat) (xs:List IneqD):Prop:=
 N≤c∧c≤maxLen∧(0<N→∃ b off,A=some ⟨b,off,none⟩∧b<B∧∀ u,u<N→∃ A' c',w.cell? ⟨b,off+u,none⟩=some (.slice A' (webE xs u).length c')∧IneqsV w B A' (webE xs u).length c' (webE xs u))
theorem WebR.below {w w':World} {B N c:Nat} {A:Option Addr} {xs:List IneqD} (h:WebR w B A N c xs) (hb:Below B w w'):WebR w' B A N c xs:=by
 refine⟨h.1,h.2.1,fun hn=>?_⟩;obtain⟨b,off,e,hbB,hc⟩:=h.2.2 hn;refine⟨b,off,e,hbB,fun u hu=>?_⟩;obtain⟨A',c',h1,h2⟩:=hc u hu;exact⟨A',c',(hb.cell (p:=⟨b,off+u,none⟩) hbB).trans h1,h2.below hb⟩
def flagsE (N:Nat) (Q:List Nat):List Bool:=(List.range N).map fun r=>decide (r∈Q)
theorem flagsE_get {N:Nat} {Q:List Nat} {r:Nat} (h:r<N):(flagsE N Q)[r]?=some (decide (r∈Q)):=by
 unfold flagsE;rw[List.getElem?_map,List.getElem?_range h];rfl
theorem flagsE_set {N:Nat} {Q:List Nat} {r:Nat}:(flagsE N Q).set r true=flagsE N (Q++[r]):=by
 apply List.ext_getElem?
 intro i;rw[List.getElem?_set]
 by_cases hi:i<N
 · rw[flagsE_get (Q:=Q++[r]) hi]
   by_cases e:r=i
   · subst e
     rw[if_pos rfl,if_pos (by simp[flagsE]; exact hi)]
     simp
   · rw[if_neg e,flagsE_get (Q:=Q) hi]
     simp[show ¬ i=r from fun h=>e h.symm]
 · have h1:(flagsE N (Q++[r]))[i]?=none:=List.getElem?_eq_none (by simp[flagsE]; omega)
   have h2:(flagsE N Q)[i]?=none:=List.getElem?_eq_none (by simp[flagsE]; omega)
   rw[h1]
   by_cases e:r=i
   · subst e
     rw[if_pos rfl,if_neg (by simp[flagsE]; omega)]
   · rw[if_neg e,h2]
theorem flagsE_none (N:Nat):flagsE N []=List.replicate N false:=by
 apply List.ext_getElem?
 intro i
 by_cases hi:i<N
 · rw[flagsE_get hi,List.getElem?_replicate,if_pos hi]; simp
 · rw[List.getElem?_eq_none (by simp[flagsE]; omega),List.getElem?_eq_none (by simp; omega)]
abbrev PairE (N:Nat) := { y:Int × Int // -1≤y.1∧y.1<(N:Int)∧1≤y.2∧y.2≤3 }
structure ItE (N:Nat) (gw gv gc gb n0:Nat) (Aw:Option Addr) (cw v:Nat) (c:Int) (W wr:World) (Q:List Nat) (rest:List Nat) (v6:Value):Prop where
 bw:Blk wr gw 148 #[.slice Aw N cw]
 bv:Blk wr gv 3 #[.int .i64 v]
 bc:Blk wr gc 22 #[.int .u8 c]
 fl:Blk wr gb 4 ((flagsE N Q).map Value.bool).toArray
 q:QueueM wr W.heap.size v6 (rest.map fun(r:Nat)=>(r:Int))
 sep:v6.ownBlock≠some gb
 bel:Below n0 W wr
section
variable {N gw gv gc gb n0:Nat} {Aw:Option Addr} {cw v:Nat} {c:Int} {W wr w':World} {Q rest:List Nat} {v6:Value} {S:List Nat}
theorem ItE.kept (h:ItE N gw gv gc gb n0 Aw cw v c W wr Q rest v6) (hS:∀ s∈S,s<W.heap.size) (h1:gw∉S) (h2:gv∉S) (h3:gc∉S) (hb:W.heap.size≤gb) (hk:KeepC S wr w') (hbel:Below n0 wr w'):ItE N gw gv gc gb n0 Aw cw v c W w' Q rest v6:=by
 refine⟨hk.cell h.bw h1,hk.cell h.bv h2,hk.cell h.bc h3,hk.cell h.fl fun hs=>by have:=hS _ hs; omega,?_,h.sep,h.bel.trans hbel⟩
 obtain⟨b,off,cap,cs,e,q1,q2,q3⟩:=h.q
 exact⟨b,off,cap,cs,e,q1,hk.cell q2 fun hs=>by have:=hS _ hs; omega,q3⟩
theorem ItE.fresh (h:ItE N gw gv gc gb n0 Aw cw v c W wr Q rest v6) (hn:n0≤wr.heap.size) (hb:Below wr.heap.size wr w'):ItE N gw gv gc gb n0 Aw cw v c W w' Q rest v6:=
 ⟨h.bw.below hb h.bw.lt,h.bv.below hb h.bv.lt,h.bc.below hb h.bc.lt,h.fl.below hb h.fl.lt,h.q.keep fun b hb'=>hb.block b (h.q.lt hb').2,h.sep,h.bel.trans (hb.mono hn)⟩
theorem ItE.flag {r:Nat} (h:ItE N gw gv gc gb n0 Aw cw v c W wr Q rest v6) (h1:gw≠gb) (h2:gv≠gb) (h3:gc≠gb) (hn:n0≤gb):ItE N gw gv gc gb n0 Aw cw v c W (wr.setCell ⟨gb,r,none⟩ (.bool true)) (Q++[r]) rest v6:=by
 refine⟨h.bw.other h1.symm _ _,h.bv.other h2.symm _ _,h.bc.other h3.symm _ _,?_,h.q.keep fun b hb=>Below.heap_setCell _ _ _ _ (fun e=>h.sep (by rw[hb,e])),h.sep,h.bel.setCell (p:=⟨gb,r,none⟩) hn _⟩;have:=h.fl.set_ r (.bool true);rw[← flagsE_set,List.map_set]
 simpa using this
theorem ItE.append {r:Nat} {w7:World} {v7:Value} (h:ItE N gw gv gc gb n0 Aw cw v c W wr Q rest v6) (hq:QueueM w7 W.heap.size v7 ((rest.map fun(r:Nat)=>(r:Int))++[(r:Int)])) (hg:wr.grownBy w7 v6.ownBlock) (hd:v7.ownBlock=v6.ownBlock∨∃ k,v7.ownBlock=some k∧wr.heap.size≤k)
 (lw:gw<W.heap.size) (lv:gv<W.heap.size) (lc:gc<W.heap.size) (hn:n0≤W.heap.size):ItE N gw gv gc gb n0 Aw cw v c W w7 Q (rest++[r]) v7:=by
 have hne:∀ g,g<W.heap.size→some g≠v6.ownBlock:=fun g hg' e=>by have:=(h.q.lt e.symm).1; omega
 refine⟨h.bw.grown hg (hne _ lw),h.bv.grown hg (hne _ lv),h.bc.grown hg (hne _ lc),h.fl.grown hg fun e=>h.sep e.symm,by simpa using hq,?_,h.bel.grown hg (Nat.le_trans hn h.bel.size) fun k e=>?_⟩
 · rcases hd with e | ⟨k,e,hk⟩
   · rw[e]; exact h.sep
   · rw[e]
     intro e2
     injection e2 with e2
     have:=h.fl.lt;omega
 · have:=(h.q.lt e).1
   omega
end
end Go.Proofs.YtdmakpmbknindaaGreatDoor
namespace Go.Proofs.YtdmakpmbknindaaGreatDoor
set_option linter.unusedVariables false
set_option linter.unusedSimpArgs false
open Go.RowKit Go.Shelf
attribute [local go_sem] Oper.semAt_some
def encE (N:Nat) (y:PairE N):Array Value:=#[.int .i64 y.1.1,.int .u8 y.1.2]
set_option maxRecDepth 100000 in
set_option maxHeartbeats 4000000 in
theorem reach1_stops (F:Fence) (n:Nat) (hf:F.fn 161) (hro:F.round=none) (hn:1≤n) (gw gv gc n0 N:Nat) (S:List Nat) (Aw:Option Addr) (cw:Nat) (xs:List IneqD) (v:Nat) (c:Int) (w:World)
 (hN:N≤1048576) (hv:v<N) (hc:1≤c∧c≤3) (hw:WellE N xs) (hx3:∀ x∈xs,x.c≤3) (hxl:xs.length≤1048576)
 (hbw:Blk w gw 148 #[.slice Aw N cw]) (hbv:Blk w gv 3 #[.int .i64 v]) (hbc:Blk w gc 22 #[.int .u8 c]) (hS:∀ s∈S,s<w.heap.size) (s1:gw∉S) (s2:gv∉S) (s3:gc∉S) (hn0:n0≤w.heap.size) (hweb:WebR w n0 Aw N cw xs):
 SeqC F n Tryz.prog 161 #[.pointer (some ⟨gw,0,none⟩),.pointer (some ⟨gv,0,none⟩),.pointer (some ⟨gc,0,none⟩)] (encE N) (fun A B=>Below n0 A B∧KeepC S A B) (fun ys=>AllE N xs c v (ys.map (·.1))) ((N+1) * (xs.length+1)) w:=by
 intro l J W hW hJ hY h0;have hwebW:=hweb.below (hW.mono hn0);have hbw1:=hbw.below hW hbw.lt;have hbv1:=hbv.below hW hbv.lt;have hbc1:=hbc.below hW hbc.lt;have w0:W.cell? ⟨gw,0,none⟩=some (.slice Aw N cw):=hbw1.cell 0;have lv:=hbv1.lt;have lw:=hbw1.lt;have lcc:=hbc1.lt;obtain⟨i0,hi0,hz0,hz1,hz2⟩:=info_parts intInfo;have hb1:=below_box (w:=W) (Obj.cells (falses N) 4);have hr1:=blk_new W (falses N) 4;have v1:(W.alloc (Obj.cells (falses N) 4)).cell? ⟨gv,0,none⟩=some (.int .i64 v):=(hbv1.below hb1 hbv1.lt).cell 0
 have f1:(W.alloc (Obj.cells (falses N) 4)).cell? ⟨W.heap.size,v,none⟩=some (.bool false):=by
  rw[hr1.cell v];unfold falses;simp[hv]
 have f2:=hr1.frozen v;have hb2:=below_box (w:=W) (Obj.cells ((falses N).setIfInBounds v (.bool true)) 4);have hr2:=blk_new W ((falses N).setIfInBounds v (.bool true)) 4
 have hfl:(falses N).setIfInBounds v (.bool true)=((flagsE N [v]).map Value.bool).toArray:=by
  unfold falses;rw[qd,← List.map_set,← flagsE_none,flagsE_set];rfl
 have v2:(W.alloc (Obj.cells ((falses N).setIfInBounds v (.bool true)) 4)).cell? ⟨gv,0,none⟩=some (.int .i64 v):=(hbv1.below hb2 hbv1.lt).cell 0;obtain⟨W3,hW3⟩:∃ W3,(W.alloc (Obj.cells ((falses N).setIfInBounds v (.bool true)) 4)).alloc (Obj.cells #[.int .i64 v] 3)=W3:=⟨_,rfl⟩
 have hb3:Below W.heap.size W W3:=by rw[← hW3]; exact hb2.alloc (by simp) _
 have hrow:W3.ownsRow W.heap.size 3 1 (.slice (some ⟨W.heap.size+1,0,none⟩) 1 1) 1 ([(v:Int)].map (Value.int .i64)):=by
  rw[← hW3];have hz:=World.alloc_heap_new (W.alloc (Obj.cells ((falses N).setIfInBounds v (.bool true)) 4)) (Obj.cells #[.int .i64 v] 3);rw[World.size_alloc] at hz
  exact⟨rfl,.inr ⟨W.heap.size+1,1,_,rfl,by omega,hz,Nat.le_refl _,by unfold maxLen; omega,rfl,rfl⟩⟩
 have hit:ItE N gw gv gc W.heap.size n0 Aw cw v c W W3 [v] [v] (.slice (some ⟨W.heap.size+1,0,none⟩) 1 1):=
  ⟨hbw1.below hb3 hbw1.lt,hbv1.below hb3 hbv1.lt,hbc1.below hb3 hbc1.lt,by rw[← hW3,← hfl]; exact hr2.alloc _,QueueM.own hrow (by omega),by simp[Value.ownBlock],hb3.mono (by have:=hW.size; omega)⟩
 have hsz:=hW.size
 have hS2:∀ s∈S,s<W.heap.size:=fun s hs=>by have:=hS s hs; omega
 have HS2:=qq hS2;have hmk:=make_bools N hN
 have k1:(0:Int)≤(v:Int):=by omega
 have k2:(v:Int)<N:=by omega
 have N63:N≤9223372036854775807:=by omega
 have HJ:=qq hJ;have Hit:=qq hit;have HW3:=qq hW3;have Hb3:=qq hb3;clear hb1 hr1 hb2 hr2 hfl hb3 hrow hit hW3;have HY:=qq hY;have H0:=qq h0;have Hweb:=qq hwebW;have Hw:=qq hw;have Hx3:=qq hx3;have Hbw:=qq hbw1;have Hbv:=qq hbv1;have Hbc:=qq hbc1;have HW:=qq hW;have HS:=qq hS;clear hwebW hbw1 hbv1 hbc1 hJ hY h0 hw hx3 hbw hbv hbc hweb hW hS hS2;refine callsIn_of_wp Tryz.func161 rfl hf ?_ hro;simp only[Tryz.ntmps161,List.size_toArray,List.length_cons,List.length_nil,Nat.reduceAdd,Nat.reduceSub,Array.replicate_succ,Array.replicate_zero,List.push_toArray,List.append_toArray,List.nil_append,List.cons_append]
 gi_wp2
 rw[HW3.out];have Hj3:=qq (HJ.out _ _ _ H0.out Hb3.out)
 gi_loopg [6] (N+1) (fun gh v6 wr=>∃ (Q:List Nat) (p:Nat) (pre:List (PairE N)),gh+p=N+1∧p≤Q.length∧BfsE N xs c v Q p 0 (pre.map (·.1))∧ItE N gw gv gc W.heap.size n0 Aw cw v c W wr Q (Q.drop p) v6∧J pre wr)
 case atStart=>exact⟨[v],0,[],by omega,by simp,BfsE.start hv,Hit.out,Hj3.out⟩
 case round=>
  obtain⟨Q,p,pre,hgh,hpq,hB,hI,hJp⟩:=hrel;have HB:=qq hB;have HJp:=qq hJp;clear hB hJp
  by_cases hlt:p<Q.length
  · obtain⟨u,hu⟩:∃ u,Q[p]?=some u:=⟨_,qj hlt⟩
    have hun:u<N:=HB.out.lt u (List.mem_of_getElem? hu)
    have hdr:Q.drop p=u :: Q.drop (p+1):=by
     rw[List.drop_eq_getElem_cons hlt];rw[qj hlt] at hu
     injection hu with hu
     rw[hu]
    have hq:=hI.q;rw[hdr] at hq;obtain⟨b,off,cap,rfl,hcap,hmx,hcq⟩:=hq.cells;have e0:=hcq 0 (by simp);obtain⟨R,hR⟩:∃ R,Q.drop (p+1)=R:=⟨_,rfl⟩;simp only[hR,List.map_cons,List.length_cons,List.length_map,qe,Nat.add_zero] at e0 hcap hq hI ⊢;have HI:=qq hI
    have d0:decide (((R.length+1:Nat):Int)>0)=true:=by simp
    have hsw:W.heap.size≤wr.heap.size:=hI.fl.lt |> Nat.le_of_lt
    obtain⟨bx,ox,rfl,hbxn,hcx⟩:=Hweb.out.2.2 (by omega);obtain⟨Ax,cx,e1w,hrow⟩:=hcx u hun;have e1:=(hI.bel.cell (p:=⟨bx,ox+u,none⟩) hbxn).trans e1w;have Hrow:=qq hrow;have wq:wr.cell? ⟨gw,0,none⟩=some (.slice (some ⟨bx,ox,none⟩) N cw):=hI.bw.cell 0;have kw:=fun d os=>cell_regrown wq d os;have k0:=fun d os=>cell_regrown e0 d os;have ke:=fun d os=>cell_regrown e1 d os
    have hu1:(0:Int)≤(u:Int):=by omega
    have hu2:(u:Int)<N:=by omega
    have HR:=qq hR;have Hdr:=qq hdr;have Hu:=qq hu;clear wq e0 e1 e1w hcq hcx hrow hq hdr hu hR
    gi_wp2
    refine wpIn_region_quiet_below hro (by kernel_rfl) (by kernel_rfl) ?_
    repeat (quiet_step_in (fail))
    refine wpQuietIn_nil ?_;intro _ hw';obtain⟨⟨dq,osq⟩,hw''⟩:=hw';subst hw'';have hbr:=below_regrown wr dq osq;obtain⟨W5,hW5⟩:∃ W5,Sort.grow (redrawn wr dq) osq=W5:=⟨_,rfl⟩;rw[hW5] at hbr ⊢;have HI5:=qq (HI.out.fresh (by omega) hbr);have HJ5:=qq (HJ.out _ _ _ HJp.out (hbr.mono hsw));have hmx2:=@run_max2 Tryz.prog;have hs5:=hbr.size;have hkl:(webE xs u).length≤1048576:=Nat.le_trans (web_len xs u) hxl;clear kw k0 ke hbr hW5 hI HI HJp
    gi_wp2
    gi_loopg [6,29] ((webE xs u).length+1) (fun gh v6 i wr=>∃ (Q:List Nat) (j:Nat) (pre:List (PairE N)),gh+j=(webE xs u).length+1∧j≤(webE xs u).length∧i=.int .i64 j∧p<Q.length∧Q[p]?=some u∧BfsE N xs c v Q p j (pre.map (·.1))∧ItE N gw gv gc W.heap.size n0 (some ⟨bx,ox,none⟩) cw v c W wr Q (Q.drop p) v6∧J pre wr)
    case atStart=>exact⟨Q,0,pre,by omega,by omega,rfl,hlt,Hu.out,HB.out,HI5.out,HJ5.out⟩
    case round=>
     obtain⟨Q2,j,pre2,hgh2,hjk,rfl,hp2,hu2',hB2,hI2,hJ2⟩:=hrel;have hsw2:W.heap.size≤wr.heap.size:=hI2.bel.size;have HB2:=qq hB2;have HI2:=qq hI2;have HJ2:=qq hJ2;have Hu2:=qq hu2';clear hB2 hJ2 hu2'
     by_cases hj:j<(webE xs u).length
     · have d1:decide (j<(webE xs u).length)=true:=by simpa using hj
       obtain⟨x,hx⟩:∃ x,(webE xs u)[j]=x:=⟨_,rfl⟩;have hxm:=mem_web.1 (List.getElem_mem hj);rw[hx] at hxm;have hxc:=(Hw.out x hxm.1).2;have hxc3:=Hx3.out x hxm.1;have hxr:=(Hw.out x hxm.1).1.r
       have hstep:=fun(Q':List Nat) (ys':List (Int × Int))=>@BfsE.step N xs c v Q2 p j (pre2.map (·.1)) HB2.out Hw.out u Hu2.out hj Q' ys'
       simp only[hx] at hstep;obtain⟨bq,oq,rfl,hbq,hcell⟩:=(Hrow.out.below hI2.bel).at_ (by omega);obtain⟨q0,q1,q2,q3⟩:=hcell j hj;rw[hx] at q0 q1 q2 q3;have hfew:=HB2.out.few Hu2.out hj;rw[List.length_map] at hfew;have hbxx:=below_box (w:=wr) (Obj.cells #[.int .i64 x.lv,.int .u8 x.lc,.int .u8 x.c,.int .i64 x.r] 70);have hI8:=HI2.out.fresh (by omega) hbxx;have hJ8:=HJ.out _ _ _ HJ2.out (hbxx.mono hsw2);have c8:(wr.alloc (Obj.cells #[.int .i64 x.lv,.int .u8 x.lc,.int .u8 x.c,.int .i64 x.r] 70)).cell? ⟨gc,0,none⟩=some (.int .u8 c):=hI8.bc.cell 0
       have k3:(0:Int)≤(j:Int):=by omega
       have k4:(j:Int)<(webE xs u).length:=by omega
       have Hstep:=qq hstep;have HI8:=qq hI8;have HJ8:=qq hJ8;have Hhx:=qq hx;have Hxm:=qq hxm;clear hstep hcell hx hxm hI8 hbxx
       by_cases hr:x.r<0
       · have d2:decide (x.r<0)=true:=by simpa using hr
         have hs:=Hstep.out Q2 (pre2.map (·.1)++[(-1,max c x.c)]) (.inl ⟨hr,rfl,rfl⟩)
         obtain⟨fn,tmps,assign,body,hy,hR⟩:=HY.out pre2 ⟨(-1,max c x.c),by refine⟨?_,?_,?_,?_⟩ <;> simp <;> omega⟩ _ hJ8 hfew
         dsimp only[encE] at hy;have Hs:=qq hs;clear hs hr hJ8
         gi_wp2
         refine hR.mono ?_; rintro e W9 ⟨rfl,hJ9,hb9,hk9⟩
         have hI9:=HI8.out.kept HS2.out s1 s2 s3 (Nat.le_refl _) hk9 hb9
         gi_wp2
         gi_roundg ((webE xs u).length - j)
         case measure=>omega
         case rel=>exact⟨Q2,j+1,_,by omega,by omega,by go_num,hp2,Hu2.out,by simpa using Hs.out,hI9,hJ9⟩
       · obtain⟨r,hrr⟩:∃ r:Nat,x.r=(r:Int):=⟨x.r.toNat,(Int.toNat_of_nonneg (by omega)).symm⟩
         simp only[hrr] at q3 c8 HI8 HJ8 hJ8 Hstep
         have hrN:r<N:=by omega
         have d2:decide ((r:Int)<0)=false:=by simp
         clear hr
         by_cases hcc:x.c≤c
         · have d3:decide (x.c≤c)=true:=by simpa using hcc
           obtain⟨q,hq⟩:∃ q,decide (r∈Q2)=q:=⟨_,rfl⟩
           have f8:(wr.alloc (Obj.cells #[.int .i64 x.lv,.int .u8 x.lc,.int .u8 x.c,.int .i64 r] 70)).cell? ⟨W.heap.size,r,none⟩=some (.bool q):=by
            rw[HI8.out.fl.cell r,← hq,qc,List.getElem?_map,flagsE_get hrN];rfl
           have k5:(0:Int)≤(r:Int):=by omega
           have k6:(r:Int)<N:=by omega
           cases q with
           | true=>
             have hs:=Hstep.out Q2 (pre2.map (·.1)) (.inr (.inr ⟨by omega,.inr (by simpa using hq),rfl,rfl⟩))
             have Hs:=qq hs;clear hs hq hJ8
             gi_wp2
             gi_roundg ((webE xs u).length - j)
             case measure=>omega
             case rel=>exact⟨Q2,j+1,pre2,by omega,by omega,by go_num,hp2,Hu2.out,Hs.out,HI8.out,HJ8.out⟩
           | false=>
             have hs:=Hstep.out (Q2++[r]) (pre2.map (·.1)++[((r:Int),c)]) (.inr (.inl ⟨by omega,hcc,by simpa using hq,by simp,rfl⟩))
             have Hs:=qq hs;have hlq:=HB2.out.len;have f9:(wr.alloc (Obj.cells #[.int .i64 x.lv,.int .u8 x.lc,.int .u8 x.c,.int .i64 r] 70)).frozen? ⟨W.heap.size,r,none⟩=false:=HI8.out.fl.frozen r;have hwl:W.heap.size<wr.heap.size:=HI2.out.fl.lt;have hIf:=HI2.out.flag (r:=r) (by omega) (by omega) (by omega) (by omega);have hbf:=(Below.refl W.heap.size wr).setCell (p:=⟨W.heap.size,r,none⟩) (Nat.le_refl _) (.bool true);have hsf:(wr.setCell ⟨W.heap.size,r,none⟩ (.bool true)).heap.size=wr.heap.size:=World.size_setCell _ _ _;have hby:=below_box (w:=wr.setCell ⟨W.heap.size,r,none⟩ (.bool true)) (Obj.cells #[.int .i64 x.lv,.int .u8 x.lc,.int .u8 x.c,.int .i64 r] 70);have hx9:=blk_new (wr.setCell ⟨W.heap.size,r,none⟩ (.bool true)) #[.int .i64 x.lv,.int .u8 x.lc,.int .u8 x.c,.int .i64 r] 70;rw[hsf] at hby hx9
             have hI9:=hIf.fresh (by omega) (by rw[hsf]; exact hby)
             have hJ9:=HJ.out _ _ _ HJ2.out (hbf.trans (hby.mono (by omega)));obtain⟨W9,hW9⟩:∃ W9,(wr.setCell ⟨W.heap.size,r,none⟩ (.bool true)).alloc (Obj.cells #[.int .i64 x.lv,.int .u8 x.lc,.int .u8 x.c,.int .i64 r] 70)=W9:=⟨_,rfl⟩
             have hs9:W9.heap.size=wr.heap.size+1:=by rw[← hW9,World.size_alloc,hsf]
             rw[hW9] at hI9 hJ9 hx9;have hbz:=below_box (w:=W9) (Obj.cells #[.int .i64 r] 3);have hI10:=hI9.fresh (by omega) hbz;have hJ10:=HJ.out _ _ _ hJ9 (hbz.mono (by omega));have hx10:=hx9.below hbz (by omega);have hz10:=(blk_new W9 #[.int .i64 r] 3).cell 0;rw[hs9] at hz10
             have hQl:((Q2.drop p).map fun(r:Nat)=>(r:Int)).length≤N:=by rw[List.length_map,List.length_drop]; omega
             obtain⟨W10,hW10⟩:∃ W10,W9.alloc (Obj.cells #[.int .i64 r] 3)=W10:=⟨_,rfl⟩
             have hs10:W10.heap.size=wr.heap.size+1+1:=by rw[← hW10,World.size_alloc,hs9]
             rw[hW10] at hI10 hJ10 hx10 hz10;rw[← hW9] at hW10;have HI10:=qq hI10;have HJ10:=qq hJ10;have HX10:=qq hx10;have HW10:=qq hW10;clear hs hq hJ8 hIf hbf hsf hby hI9 hJ9 hx9 hbz hI10 hJ10 hx10 hW9 hW10
             gi_wp2_with (gi_at_builtin; rw[HW10.out]; refine wpListIn_append_queue W10 rfl (.tmp 61) (.tmp 64) 30 rfl W.heap.size i0 _ 8 Tryz.underlying30 hi0 hz0 hz1 hz2 rfl u6 _ rfl HI10.out.q ⟨wr.heap.size+1,0,none⟩ r rfl (by rw[Addr.add_lit]; exact hz10) (by unfold maxLen; omega) (by omega) (by omega) ?_; intro v7 w7 hq7 hg7 hd7; have hne7:some wr.heap.size≠u6.ownBlock:=(fun e=>by have:=(HI2.out.q.lt e.symm).2; omega); have hx7:=HX10.out.grown hg7 hne7; have hI7:=HI10.out.append hq7 hg7 hd7 lw lv lcc (by omega); have hJ7:=HJ.out _ _ _ HJ10.out ((Below.refl W.heap.size W10).grown hg7 (by omega) (fun k e=>(HI10.out.q.lt e).1)); have g3:w7.cell? ⟨wr.heap.size,3,none⟩=some (.int .i64 r):=hx7.cell 3; have g4:w7.cell? ⟨gc,0,none⟩=some (.int .u8 c):=hI7.bc.cell 0; obtain⟨fn,tmps,assign,body,hy,hR⟩:=HY.out pre2 ⟨((r:Int),c),by refine⟨?_,?_,?_,?_⟩ <;> simp <;> omega⟩ w7 hJ7 hfew; dsimp only[encE] at hy; have HI7:=qq hI7; clear hI7 hJ7 hx7 hq7 hg7 hd7 hne7)
             refine hR.mono ?_; rintro e W11 ⟨rfl,hJ11,hb11,hk11⟩
             have hI11:=HI7.out.kept HS2.out s1 s2 s3 (Nat.le_refl _) hk11 hb11
             have hp5:p<(Q2++[r]).length:=by rw[List.length_append]; omega
             have hu5:(Q2++[r])[p]?=some u:=by rw[List.getElem?_append_left hp2]; exact Hu2.out
             have hd5:(Q2++[r]).drop p=Q2.drop p++[r]:=List.drop_append_of_le_length (by omega);have HD5:=qq hd5;have HU5:=qq hu5;clear hd5 hu5
             gi_wp2
             gi_roundg ((webE xs u).length - j)
             case measure=>omega
             case rel=>exact⟨Q2++[r],j+1,_,by omega,by omega,by go_num,hp5,HU5.out,by simpa using Hs.out,by rw[HD5.out]; exact hI11,hJ11⟩
         · have d3:decide (x.c≤c)=false:=by simpa using hcc
           have hs:=Hstep.out Q2 (pre2.map (·.1)) (.inr (.inr ⟨by omega,.inl hcc,rfl,rfl⟩))
           have Hs:=qq hs;clear hs hcc hJ8
           gi_wp2
           gi_roundg ((webE xs u).length - j)
           case measure=>omega
           case rel=>exact⟨Q2,j+1,pre2,by omega,by omega,by go_num,hp2,Hu2.out,Hs.out,HI8.out,HJ8.out⟩
     · have hjk':j=(webE xs u).length:=by omega
       have d1:decide (j<(webE xs u).length)=false:=by simpa using hj
       have hB3:=HB2.out.next Hu2.out hjk'
       have hdr2:Q2.drop p=u :: Q2.drop (p+1):=by
        have h:=Hu2.out;rw[List.drop_eq_getElem_cons hp2];rw[qj hp2] at h
        injection h with h
        rw[h]
       have hI3:=HI2.out;rw[hdr2] at hI3;obtain⟨b2,off2,cap2,rfl,hcap2,hmx3,_⟩:=hI3.q.cells;obtain⟨R2,hR2⟩:∃ R,Q2.drop (p+1)=R:=⟨_,rfl⟩;simp only[hR2,List.map_cons,List.length_cons,List.length_map] at hI3 hcap2 ⊢;have HR2:=qq hR2;have HB3:=qq hB3
       have hp3:p+1≤Q2.length:=by omega
       have hql:=hB3.len
       by_cases hcp:cap2=1
       · subst hcp
         obtain rfl:R2=[]:=List.eq_nil_of_length_eq_zero (by omega)
         have hI4:ItE N gw gv gc W.heap.size n0 (some ⟨bx,ox,none⟩) cw v c W wr Q2 [] (.slice (some ⟨b2,off2,none⟩) 0 0):=
          ⟨hI3.bw,hI3.bv,hI3.bc,hI3.fl,hI3.q.last,by have:=hI3.sep; simpa[Value.ownBlock] using this,hI3.bel⟩
         have HI4:=qq hI4;clear hI4 hI3 hB3 hdr2 hR2
         gi_wp2
         gi_roundg (N - p)
         case measure=>omega
         case rel=>exact⟨Q2,p+1,pre2,by omega,hp3,HB3.out,by rw[HR2.out]; exact HI4.out,HJ2.out⟩
       · have hI4:ItE N gw gv gc W.heap.size n0 (some ⟨bx,ox,none⟩) cw v c W wr Q2 R2 (.slice (some ⟨b2,off2+1,none⟩) R2.length (cap2 - 1)):=
          ⟨hI3.bw,hI3.bv,hI3.bc,hI3.fl,hI3.q.tail,by have:=hI3.sep; simpa[Value.ownBlock] using this,hI3.bel⟩
         have HI4:=qq hI4;clear hI4 hI3 hB3 hdr2 hR2
         gi_wp2
         gi_roundg (N - p)
         case measure=>omega
         case rel=>exact⟨Q2,p+1,pre2,by omega,hp3,HB3.out,by rw[HR2.out]; exact HI4.out,HJ2.out⟩
  · have hpe:p=Q.length:=by omega
    have hq:=hI.q;have hnil:Q.drop p=[]:=List.drop_of_length_le (by omega);rw[hnil] at hq;obtain⟨b,off,cap,rfl,hcap,hmx,hcq⟩:=hq.cells;have hdone:=HB.out.done hpe;have Hdone:=qq hdone
    have d0:decide ((0:Int)>0)=false:=by decide
    clear hq hI hcq hdone;simp only[List.map_nil,List.length_nil]
    gi_wp2
    go_end0
    exact⟨⟨_,rfl⟩,pre,Hdone.out,HJp.out⟩
end Go.Proofs.YtdmakpmbknindaaGreatDoor
