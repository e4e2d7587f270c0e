import Derived.Deep.Quiet
import Derived.Lib.QuietBelow
import Derived.Test.YtmkdfbelbcocpaaGreatDoorCU19
import Derived.Test.YtmkdfbelbcocpaaGreatDoorCU12
import Derived.Shelf.SlSortCmp.Whole1
import Derived.Shelf.SlSortCmp.NoneTotal
import Derived.Test.YtmkdfbelbcocpaaGreatDoorShelf
import Derived.Test.YtmkdfbelbcocpaaGreatDoorCU0
import Derived.Test.YtmkdfbelbcocpaaGreatDoorCU14
set_option linter.unusedVariables false
set_option linter.unusedSimpArgs false
namespace Go.Proofs.YtmkdfbelbcocpaaGreatDoor
section
open Go.RowKit Go.Sort
theorem regr {f:FuncId} {args:Array Value} {v:Value} (w:World) (h:∀ W:World,Below w.heap.size w W→Calls Tryz.prog f args W fun e w'=>e = .returned v∧Below W.heap.size W w') (d:Nat) (os:Array Obj) :
  Calls Tryz.prog f args (grow (redrawn w d) os) fun e w''=>e = .returned v∧∃ p:Regrown,w''=grow (redrawn w p.d) p.os :=
 Calls.regrown_of (h _ (below_regrown w d os))
end
section
open Go.RowKit Go.Sort
section
variable {α:Type}
def Keeps (EL:World→(Nat→Prop)→α→List Value→Prop):Prop :=
 ∀ (w w':World) (P P':Nat→Prop) (x:α) (vs:List Value),(∀ g,P g→g<w.heap.size→w'.heap[g]?=w.heap[g]?)→w.heap.size≤w'.heap.size→(∀ g,P g→g<w.heap.size→P' g)→EL w P x vs→EL w' P' x vs
structure RowM (EL:World→(Nat→Prop)→α→List Value→Prop) (k base:Nat) (wr:World) (lo:Nat) (bad:Nat→Prop) (ao:Option Addr) (n cp:Nat) (xs:List α) (vss:List (List Value)):Prop where
 own:OwnK wr lo k n cp vss.flatten ao
 len:vss.length=xs.length
 cnt:n=xs.length
 elk:∀ vs∈vss,vs.length=k
 each:∀ (i:Nat) (x:α) (vs:List Value),xs[i]?=some x→vss[i]?=some vs→EL wr (fun g=>base≤g∧¬ bad g∧blk ao≠some g) x vs
variable {EL:World→(Nat→Prop)→α→List Value→Prop} {k base:Nat}
theorem RowM.nil (wr:World) (lo:Nat) (bad:Nat→Prop):RowM EL k base wr lo bad none 0 0 [] [] :=
 ⟨.nil rfl rfl rfl,rfl,rfl,fun vs h=>absurd h List.not_mem_nil,fun i x vs h=>by simp at h⟩
theorem RowM.turn (hE:Keeps EL) {wr w':World} {lo:Nat} {bad:Nat→Prop} {ao:Option Addr} {n cp:Nat} {xs:List α} {vss:List (List Value)} (h:RowM EL k base wr lo bad ao n cp xs vss) {p:Nat→Prop} (hb:Only wr w' p)
  (hp:∀ g,p g→bad g∨g<base) (ho:∀ g,blk ao=some g→¬ p g):RowM EL k base w' lo bad ao n cp xs vss:=by
 refine⟨h.own.of_block (fun g e hl=>hb.block g hl (ho g e)) hb.size,h.len,h.cnt,h.elk,fun i x vs hx hv=>hE _ _ _ _ _ _ (fun g hg hl=>hb.block g hl (fun hh=>?_)) hb.size (fun g hg _=>hg) (h.each i x vs hx hv)⟩
 rcases hp g hh with h1 | h1
 ·exact hg.2.1 h1
 ·have:=hg.1;omega
theorem RowM.step (hE:Keeps EL) {wr w':World} {lo:Nat} {bad:Nat→Prop} {ao:Option Addr} {n cp:Nat} {xs:List α} {vss:List (List Value)} (h:RowM EL k base wr lo bad ao n cp xs vss) (hb:Below wr.heap.size wr w'):RowM EL k base w' lo bad ao n cp xs vss :=
 h.turn hE (Only.of_below (p:=fun _=>False) hb) (fun g h=>h.elim) (fun g _ h=>h.elim)
theorem RowM.add (hE:Keeps EL) {w0 w2 wa:World} {lo:Nat} {bad:Nat→Prop} {ao:Option Addr} {n cp g5 off5 c5:Nat} {xs:List α} {vss:List (List Value)} {x:α} {vs:List Value} (h:RowM EL k base w2 lo bad ao n cp xs vss)
  (hao:∀ g,blk ao=some g→g<w0.heap.size) (hb0:base≤w0.heap.size) (hbad:∀ g,bad g→g<w0.heap.size)
  (hx:EL w2 (fun g=>w0.heap.size≤g) x vs) (hk:vs.length=k) (ho:OwnK wa lo k (n+1) c5 (vss.flatten++vs) (some ⟨g5,off5,none⟩)) (hg:w2.grownBy wa (blk ao)) (hor:blk ao=some g5∨w2.heap.size≤g5) :
  RowM EL k base wa lo bad (some ⟨g5,off5,none⟩) (n+1) c5 (xs++[x]) (vss++[vs]):=by
 have hnew:∀ g,blk ao≠some g→g<w2.heap.size→blk (some (⟨g5,off5,none⟩:Addr))≠some g:=fun g hb hl e=>by
  have e':g5=g:=Option.some.inj e
  subst e'
  rcases hor with h1 | h1
  ·exact hb h1
  ·omega
 refine⟨by rw[List.flatten_append];simpa using ho,by rw[List.length_append,List.length_append,h.len];rfl,by rw[List.length_append,← h.cnt];rfl,fun us hu=>?_,?_⟩
 ·rcases List.mem_append.1 hu with hu | hu
  ·exact h.elk us hu
  ·rw[List.mem_singleton] at hu;subst hu;exact hk
 intro i y us hq hu
 have hlen:=h.len
 by_cases hi:i<xs.length
 ·rw[List.getElem?_append_left hi] at hq
  rw[List.getElem?_append_left (by omega)] at hu
  exact hE w2 wa (fun g=>base≤g∧¬ bad g∧blk ao≠some g) _ y us (fun g hx hl=>hg.block g hl (fun e=>hx.2.2 e.symm)) hg.size (fun g hx hl=>⟨hx.1,hx.2.1,hnew g hx.2.2 hl⟩) (h.each i y us hq hu)
 ·rw[List.getElem?_append_right (by omega)] at hq hu
  have hi1:i=xs.length:=by
   have:=(List.getElem?_eq_some_iff.1 hq).1
   simp at this
   omega
  subst hi1
  rw[Nat.sub_self] at hq
  rw[hlen,Nat.sub_self] at hu
  obtain rfl:x=y:=by simpa using hq
  obtain rfl:vs=us:=by simpa using hu
  have hne:∀ g,w0.heap.size≤g→blk ao≠some g:=fun g hge e=>by
   have:=hao g e
   omega
  exact hE w2 wa (fun g=>w0.heap.size≤g) _ x vs (fun g hx hl=>hg.block g hl (fun e=>hne g hx e.symm)) hg.size (fun g hx hl=>⟨Nat.le_trans hb0 hx,fun hb=>by have:=hbad g hb;omega,hnew g (hne g hx) hl⟩) hx
theorem flatten_at (k:Nat):∀ (vss:List (List Value)),(∀ vs∈vss,vs.length=k)→∀ (i j:Nat) (vs:List Value),vss[i]?=some vs→j<k→vss.flatten[i*k+j]?=vs[j]?
 | [],_,i,j,vs,h,_=>by simp at h
 | us::vss,hk,0,j,vs,h,hj=>by
  obtain rfl:us=vs:=by simpa using h
  have:=hk us (List.mem_cons_self ..)
  rw[List.flatten_cons,List.getElem?_append_left (by omega)]
  congr 1;omega
 | us::vss,hk,i+1,j,vs,h,hj=>by
  have hl:=hk us (List.mem_cons_self ..)
  rw[List.flatten_cons,List.getElem?_append_right (by rw[hl,Nat.add_mul];omega),hl]
  rw[← flatten_at k vss (fun x hx=>hk x (List.mem_cons_of_mem _ hx)) i j vs (by simpa using h) hj]
  congr 1
  rw[Nat.add_mul];omega
theorem RowM.at {wr:World} {lo:Nat} {bad:Nat→Prop} {ao:Option Addr} {n cp:Nat} {xs:List α} {vss:List (List Value)} (h:RowM EL k base wr lo bad ao n cp xs vss) (i:Nat) (x:α) (hx:xs[i]?=some x) :
  ∃ g off vs,ao=some ⟨g,off,none⟩∧g<wr.heap.size∧lo≤g∧vss[i]?=some vs∧vs.length=k∧Reads wr g (off+i*k) vs∧EL wr (fun g=>base≤g∧¬ bad g∧blk ao≠some g) x vs:=by
 have hi:=(List.getElem?_eq_some_iff.1 hx).1
 have hil:i<vss.length:=by rw[h.len];exact hi
 have hv:vss[i]?=some vss[i]:=List.getElem?_eq_getElem hil
 have hk:=h.elk vss[i] (List.getElem_mem hil)
 have hO:=h.own
 cases hao:ao with
 | none =>
  rw[hao] at hO
  cases hO with
  | nil h1 h2 h3=>have:=h.cnt;omega
 | some a =>
  rw[hao] at hO
  obtain⟨g,off,si⟩:=a
  cases hO with
  | «at» g off h1 h2 h3 h4 =>
   refine⟨g,off,vss[i],rfl,h1.lt,h1.own,hv,hk,fun j u hj=>?_,hao ▸ h.each i x _ hx hv⟩
   have hjk:=(List.getElem?_eq_some_iff.1 hj).1
   have:=h1.cells (i*k+j) u (by rw[flatten_at k vss h.elk i j _ hv (by omega)];exact hj)
   rwa [← Nat.add_assoc] at this
end
structure Chc where
 need:Int
 atoms:List Prd
end
section
open Go.RowKit Go.Shelf Go.Sort
section
variable {α:Type} [Inhabited α] (enc:α→Value)
end
theorem list_lift {α:Type} {p:α→Prop}:∀ (l:List α),(∀ x∈l,p x)→∃ d:List {x // p x},d.map (·.1)=l
 | [],_=>⟨[],rfl⟩
 | x::l,h=>by
  obtain⟨d,hd⟩:=list_lift l (fun y hy=>h y (List.mem_cons_of_mem _ hy))
  exact⟨⟨x,h x (List.mem_cons_self ..)⟩::d,by rw[List.map_cons,hd]⟩
end
section
mutual
theorem truth_mono (f g:Ky→Bool):∀ p,(∀ k∈keysP p,f k=true→g k=true)→truthP f p=true→truthP g p=true
 | .mk k l r c ks,h,ht=>by
  rw[truthP] at ht ⊢
  have hL:∀ x∈keysL ks,f x=true→g x=true:=fun x hx=>h x (by unfold keysP;exact List.mem_append_right _ hx)
  have hc:=cnt_mono f g ks hL
  have hle:=cntT_le g ks
  by_cases h0:k=0
  ·rw[if_pos h0] at ht ⊢
   exact h _ (by unfold keysP;simp[h0]) ht
  ·rw[if_neg h0] at ht ⊢
   by_cases h1:k=1
   ·rw[if_pos h1] at ht ⊢
    rw[beq_iff_eq] at ht ⊢
    omega
   ·rw[if_neg h1] at ht ⊢
    by_cases h2:k=2
    ·rw[if_pos h2,decide_eq_true_eq] at ht ⊢
     omega
    ·rw[if_neg h2,decide_eq_true_eq] at ht ⊢
     omega
theorem cnt_mono (f g:Ky→Bool):∀ ks,(∀ k∈keysL ks,f k=true→g k=true)→cntT f ks≤cntT g ks
 | [],_=>by simp[cntT]
 | p::ps,h=>by
  have h1:=truth_mono f g p (fun k hk=>h k (by unfold keysL;exact List.mem_append_left _ hk))
  have h2:=cnt_mono f g ps (fun k hk=>h k (by unfold keysL;exact List.mem_append_right _ hk))
  rw[cntT,cntT]
  by_cases ht:truthP f p=true
  ·rw[if_pos ht,if_pos (h1 ht)];omega
  ·rw[if_neg ht];omega
end
theorem truth_congr {f g:Ky→Bool} {p:Prd} (h:∀ k∈keysP p,f k=g k):truthP f p=truthP g p:=by
 have h1:=truth_mono f g p (fun k hk e=>by rw[← h k hk];exact e)
 have h2:=truth_mono g f p (fun k hk e=>by rw[h k hk];exact e)
 cases hf:truthP f p with
 | true=>rw[h1 hf]
 | false =>
  cases hg:truthP g p with
  | false=>rfl
  | true=>rw[h2 hg] at hf;cases hf
end
section
def idxN (ns:List (List Nat)) (s:List Nat):Nat:=if s=[] then 0 else ns.idxOf s+1
def knwN (ns:List (List Nat)) (s:List Nat):Bool:=s==[]||ns.contains s
theorem idxN_le {ns:List (List Nat)} {s:List Nat} (h:knwN ns s=true):idxN ns s<ns.length+1:=by
 unfold idxN
 by_cases e:s=[]
 ·rw[if_pos e];omega
 ·rw[if_neg e]
  unfold knwN at h
  rw[Bool.or_eq_true,beq_iff_eq] at h
  rcases h with h | h
  ·exact absurd h e
  ·have:=List.idxOf_lt_length_iff.2 (by simpa using h:s∈ns)
   omega
def conOf (ns:List (List Nat)) (k:Ky):Con:=⟨idxN ns k.l,idxN ns k.r,k.c⟩
def rangeC (most:Int):Nat→List Con
 | 0=>[]
 | i+1=>rangeC most i++[⟨0,i+1,0⟩,⟨i+1,0,most⟩]
theorem rangeC_len (most:Int):∀ n,(rangeC most n).length=2*n
 | 0=>rfl
 | n+1=>by unfold rangeC;rw[List.length_append,rangeC_len most n];simp;omega
theorem rangeC_mem (most:Int) (c:Con):∀ n,c∈rangeC most n↔∃ i,i<n∧(c=⟨0,i+1,0⟩∨c=⟨i+1,0,most⟩)
 | 0=>by simp[rangeC]
 | n+1=>by
  unfold rangeC
  rw[List.mem_append,rangeC_mem most c n]
  constructor
  ·rintro (⟨i,hi,h⟩ | h)
   ·exact⟨i,by omega,h⟩
   ·exact⟨n,by omega,by simpa using h⟩
  ·rintro⟨i,hi,h⟩
   rcases Nat.lt_succ_iff_lt_or_eq.1 hi with h1 | rfl
   ·exact .inl ⟨i,h1,h⟩
   ·exact .inr (by simpa using h)
def consP (ns:List (List Nat)) (most:Int) (ks:List Ky):List Con:=ks.map (conOf ns)++rangeC most ns.length
def KnwK (ns:List (List Nat)) (ks:List Ky):Prop:=∀ k∈ks,knwN ns k.l=true∧knwN ns k.r=true
theorem consP_in {ns:List (List Nat)} {ks:List Ky} (h:KnwK ns ks) (most:Int):InC (ns.length+1) (consP ns most ks):=by
 intro c hc
 unfold consP at hc
 rcases List.mem_append.1 hc with hc | hc
 ·obtain⟨k,hk,rfl⟩:=List.mem_map.1 hc
  exact⟨idxN_le (h k hk).1,idxN_le (h k hk).2⟩
 ·obtain⟨i,hi,h1 | h1⟩:=(rangeC_mem most c ns.length).1 hc
  ·subst h1;exact⟨by simp,by simp only;omega⟩
  ·subst h1;exact⟨by simp only;omega,by simp⟩
def fK (ns:List (List Nat)) (u:Nat→Int) (k:Ky):Bool:=decide (u (idxN ns k.l)-u (idxN ns k.r)≤k.c)
theorem fK_opp (ns:List (List Nat)) (u:Nat→Int) (k:Ky):fK ns u (oppK k)=!fK ns u k:=by
 unfold fK oppK
 by_cases h:u (idxN ns k.l)-u (idxN ns k.r)≤k.c
 ·rw[decide_eq_true h];simp only[Bool.not_true,decide_eq_false_iff_not];omega
 ·rw[decide_eq_false h];simp only[Bool.not_false,decide_eq_true_eq];omega
structure AsgN (n:Nat) (most:Int) (u:Nat→Int):Prop where
 zero:u 0=0
 rng:∀ i,i<n→0≤u (i+1)∧u (i+1)≤most
theorem sol_asg {ns:List (List Nat)} {most:Int} {ks:List Ky} {u:Nat→Int}:SolC (ns.length+1) (consP ns most ks) u↔AsgN ns.length most u∧∀ k∈ks,fK ns u k=true:=by
 constructor
 ·intro h
  refine⟨⟨h.zero,fun i hi=>?_⟩,fun k hk=>?_⟩
  ·have h1:=h.meet ⟨0,i+1,0⟩ (List.mem_append_right _ ((rangeC_mem _ _ _).2 ⟨i,hi,.inl rfl⟩))
   have h2:=h.meet ⟨i+1,0,most⟩ (List.mem_append_right _ ((rangeC_mem _ _ _).2 ⟨i,hi,.inr rfl⟩))
   have h0:=h.zero
   unfold MeetC at h1 h2
   simp only at h1 h2
   omega
  ·have:=h.meet (conOf ns k) (List.mem_append_left _ (List.mem_map.2 ⟨k,hk,rfl⟩))
   unfold fK
   rw[decide_eq_true_eq]
   exact this
 ·rintro⟨h1,h2⟩
  refine⟨h1.zero,fun i hi=>?_,fun c hc=>?_⟩
  ·cases i with
   | zero=>rw[h1.zero];exact Int.le_refl _
   | succ i=>exact (h1.rng i (by omega)).1
  ·unfold consP at hc
   rcases List.mem_append.1 hc with hc | hc
   ·obtain⟨k,hk,rfl⟩:=List.mem_map.1 hc
    have h3:=h2 k hk
    unfold fK at h3
    rw[decide_eq_true_eq] at h3
    exact h3
   ·have h0:=h1.zero
    obtain⟨i,hi,h3 | h3⟩:=(rangeC_mem most c ns.length).1 hc
    ·subst h3;have:=h1.rng i hi;unfold MeetC;simp only;omega
    ·subst h3;have:=h1.rng i hi;unfold MeetC;simp only;omega
def oriK (k:Ky):Ky×Bool:=if ltL k.r k.l=true then (oppK k,false) else (k,true)
theorem ori_truth (ns:List (List Nat)) (u:Nat→Int) (k:Ky):fK ns u k=if (oriK k).2=true then fK ns u (oriK k).1 else !fK ns u (oriK k).1:=by
 unfold oriK
 by_cases h:ltL k.r k.l=true
 ·rw[if_pos h,if_neg (by simp),fK_opp];simp
 ·rw[if_neg h,if_pos rfl]
def compL (ks:List Ky):List Ky:=((ks.map (fun k=>(oriK k).1)).filter (fun k=>!conK k)).foldl addK []
def compsP (ps:List Prd):List Ky:=compL (ps.flatMap atomsP)
theorem compL_mem (ks:List Ky) (x:Ky):x∈compL ks↔conK x=false∧∃ k∈ks,(oriK k).1=x:=by
 unfold compL
 rw[foldK_mem]
 simp[List.mem_filter,and_comm]
theorem compL_asc (ks:List Ky):AscK (compL ks):=foldK_asc _ _ .nil
theorem fK_con (ns:List (List Nat)) (u:Nat→Int) (k:Ky) (h:conK k=true):fK ns u k=decide (0≤k.c):=by
 unfold fK
 unfold conK at h
 rw[beq_iff_eq] at h
 rw[h,Int.sub_self]
theorem comp_agree {ns:List (List Nat)} {ks:List Ky} {u v:Nat→Int} (h:∀ x∈compL ks,fK ns u x=fK ns v x):∀ k∈ks,fK ns u k=fK ns v k:=by
 intro k hk
 rw[ori_truth,ori_truth (u:=v)]
 have e:fK ns u (oriK k).1=fK ns v (oriK k).1:=by
  cases hc:conK (oriK k).1 with
  | true=>rw[fK_con _ _ _ hc,fK_con _ _ _ hc]
  | false=>exact h _ ((compL_mem ks _).2 ⟨hc,k,hk,rfl⟩)
 rw[e]
theorem comps_truth {ns:List (List Nat)} {ps:List Prd} {u v:Nat→Int} (h:∀ x∈compsP ps,fK ns u x=fK ns v x) (p:Prd) (hp:p∈ps):truthP (fK ns u) p=truthP (fK ns v) p :=
 truth_congr (fun k hk=>comp_agree h k (List.mem_flatMap.2 ⟨p,hp,(atomsP_mem p k).2 hk⟩))
def sgK (ks:List Ky) (set:Nat):Nat→List Ky
 | 0=>[]
 | j+1=>sgK ks set j++(match ks[j]? with | some k=>[if set.testBit j=true then k else oppK k] | none=>[])
theorem sgK_mem (ks:List Ky) (set:Nat) (x:Ky):∀ j,x∈sgK ks set j↔∃ i k,i<j∧ks[i]?=some k∧x=if set.testBit i=true then k else oppK k
 | 0=>by simp[sgK]
 | j+1=>by
  unfold sgK
  rw[List.mem_append,sgK_mem ks set x j]
  constructor
  ·rintro (⟨i,k,h1,h2,h3⟩ | h)
   ·exact⟨i,k,by omega,h2,h3⟩
   ·cases hk:ks[j]? with
    | none=>rw[hk] at h;cases h
    | some k=>rw[hk] at h;exact⟨j,k,by omega,hk,by simpa using h⟩
  ·rintro⟨i,k,h1,h2,h3⟩
   rcases Nat.lt_succ_iff_lt_or_eq.1 h1 with h | rfl
   ·exact .inl ⟨i,k,h,h2,h3⟩
   ·right;rw[h2];simpa using h3
theorem sgK_len (ks:List Ky) (set:Nat):∀ j,j≤ks.length→(sgK ks set j).length=j
 | 0,_=>rfl
 | j+1,h=>by
  unfold sgK
  rw[List.length_append,sgK_len ks set j (by omega),List.getElem?_eq_getElem (by omega)]
  rfl
theorem sgK_holds (ns:List (List Nat)) (u:Nat→Int) (ks:List Ky) (set:Nat):(∀ x∈sgK ks set ks.length,fK ns u x=true)↔∀ i k,ks[i]?=some k→fK ns u k=set.testBit i:=by
 constructor
 ·intro h i k hk
  have h1:=h _ ((sgK_mem ks set _ _).2 ⟨i,k,(List.getElem?_eq_some_iff.1 hk).1,hk,rfl⟩)
  by_cases hb:set.testBit i=true
  ·rw[if_pos hb] at h1;rw[h1,hb]
  ·rw[if_neg hb,fK_opp] at h1
   have:set.testBit i=false:=by simpa using hb
   rw[this];simpa using h1
 ·intro h x hx
  obtain⟨i,k,h1,h2,rfl⟩:=(sgK_mem ks set _ _).1 hx
  have:=h i k h2
  by_cases hb:set.testBit i=true
  ·rw[if_pos hb,this,hb]
  ·rw[if_neg hb,fK_opp,this];simpa using hb
theorem sgK_knw {ns:List (List Nat)} {ks:List Ky} (h:KnwK ns ks) (set:Nat):KnwK ns (sgK ks set ks.length):=by
 intro x hx
 obtain⟨i,k,h1,h2,rfl⟩:=(sgK_mem ks set _ _).1 hx
 obtain⟨h3,h4⟩:=h k (List.mem_of_getElem? h2)
 by_cases hb:set.testBit i=true
 ·rw[if_pos hb];exact⟨h3,h4⟩
 ·rw[if_neg hb];exact⟨h4,h3⟩
def trU (ns:List (List Nat)) (ps:List Prd) (u:Nat→Int):List Bool:=ps.map (fun p=>truthP (fK ns u) p)
def cellsU (ns:List (List Nat)) (most:Int) (ks:List Ky) (ps:List Prd):Nat→List (List Int×List Bool)
 | 0=>[]
 | s+1=>cellsU ns most ks ps s++(match leastL ns.length (consP ns most (sgK ks s ks.length)) with | some v=>[(v,trU ns ps (gv v))] | none=>[])
theorem cellsU_mem (ns:List (List Nat)) (most:Int) (ks:List Ky) (ps:List Prd) (c:List Int×List Bool):∀ s,c∈cellsU ns most ks ps s↔∃ t,t<s∧leastL ns.length (consP ns most (sgK ks t ks.length))=some c.1∧c.2=trU ns ps (gv c.1)
 | 0=>by simp[cellsU]
 | s+1=>by
  unfold cellsU
  rw[List.mem_append,cellsU_mem ns most ks ps c s]
  constructor
  ·rintro (⟨t,h1,h2,h3⟩ | h)
   ·exact⟨t,by omega,h2,h3⟩
   ·cases hk:leastL ns.length (consP ns most (sgK ks s ks.length)) with
    | none=>rw[hk] at h;cases h
    | some v =>
     rw[hk] at h
     obtain rfl:c=(v,trU ns ps (gv v)):=by simpa using h
     exact⟨s,by omega,hk,rfl⟩
  ·rintro⟨t,h1,h2,h3⟩
   rcases Nat.lt_succ_iff_lt_or_eq.1 h1 with h | rfl
   ·exact .inl ⟨t,h,h2,h3⟩
   ·right;rw[h2]
    obtain⟨c1,c2⟩:=c
    simp only at h3 ⊢
    rw[h3];simp
theorem cellsU_len (ns:List (List Nat)) (most:Int) (ks:List Ky) (ps:List Prd):∀ s,(cellsU ns most ks ps s).length≤s
 | 0=>Nat.le_refl _
 | s+1=>by
  unfold cellsU
  have:=cellsU_len ns most ks ps s
  rw[List.length_append]
  cases leastL ns.length (consP ns most (sgK ks s ks.length))<;>simp<;>omega
def cmpV:List Int→List Int→Int
 | [],[]=>0
 | [],_::_=>-1
 | _::_,[]=>1
 | x::xs,y::ys=>if cmpI x y≠0 then cmpI x y else cmpV xs ys
theorem cmpI_cases (x y:Int):(x<y∧cmpI x y = -1)∨(x=y∧cmpI x y=0)∨(y<x∧cmpI x y=1):=by
 unfold cmpI
 by_cases h:x<y
 ·left;rw[if_pos h];exact⟨h,rfl⟩
 ·rw[if_neg h]
  by_cases h2:x=y
  ·right;left;rw[if_pos h2];exact⟨h2,rfl⟩
  ·right;right;rw[if_neg h2];exact⟨by omega,rfl⟩
theorem cmpV_cons (x y:Int) (a b:List Int):(x<y∧cmpV (x::a) (y::b) = -1)∨(x=y∧cmpV (x::a) (y::b)=cmpV a b)∨(y<x∧cmpV (x::a) (y::b)=1):=by
 have e:cmpV (x::a) (y::b)=if cmpI x y≠0 then cmpI x y else cmpV a b:=by rw[cmpV]
 rw[e]
 rcases cmpI_cases x y with ⟨h1,h2⟩ | ⟨h1,h2⟩ | ⟨h1,h2⟩
 ·left;rw[h2,if_pos (by decide)];exact⟨h1,rfl⟩
 ·right;left;rw[h2,if_neg (by simp)];exact⟨h1,rfl⟩
 ·right;right;rw[h2,if_pos (by decide)];exact⟨h1,rfl⟩
theorem cmpV_zero:∀ a b:List Int,cmpV a b=0↔a=b
 | [],[]=>by simp[cmpV]
 | [],_::_=>by simp[cmpV]
 | _::_,[]=>by simp[cmpV]
 | x::a,y::b=>by
  rcases cmpV_cons x y a b with ⟨h1,h2⟩ | ⟨h1,h2⟩ | ⟨h1,h2⟩
  ·rw[h2];constructor
   ·intro h;cases h
   ·intro h;injection h with e1 e2;omega
  ·rw[h2,cmpV_zero a b];subst h1;simp
  ·rw[h2];constructor
   ·intro h;cases h
   ·intro h;injection h with e1 e2;omega
theorem cmpV_anti:∀ a b:List Int,cmpV a b = - cmpV b a
 | [],[]=>rfl
 | [],_::_=>rfl
 | _::_,[]=>rfl
 | x::a,y::b=>by
  have h:=cmpV_anti a b
  rcases cmpV_cons x y a b with ⟨h1,h2⟩ | ⟨h1,h2⟩ | ⟨h1,h2⟩
  ·rcases cmpV_cons y x b a with ⟨h3,h4⟩ | ⟨h3,h4⟩ | ⟨h3,h4⟩<;>first | omega | (rw[h2,h4];rfl)
  ·rcases cmpV_cons y x b a with ⟨h3,h4⟩ | ⟨h3,h4⟩ | ⟨h3,h4⟩<;>omega
  ·rcases cmpV_cons y x b a with ⟨h3,h4⟩ | ⟨h3,h4⟩ | ⟨h3,h4⟩<;>first | omega | (rw[h2,h4])
theorem cmpV_trans:∀ a b c:List Int,cmpV a b≤0→cmpV b c≤0→cmpV a c≤0
 | [],_,[],_,_=>by simp[cmpV]
 | [],_,_::_,_,_=>by simp[cmpV]
 | _::_,[],_,h,_=>by simp[cmpV] at h
 | _::_,_::_,[],_,h=>by simp[cmpV] at h
 | x::a,y::b,z::c,h1,h2=>by
  rcases cmpV_cons x y a b with ⟨e1,e2⟩ | ⟨e1,e2⟩ | ⟨e1,e2⟩
  ·rcases cmpV_cons y z b c with ⟨f1,f2⟩ | ⟨f1,f2⟩ | ⟨f1,f2⟩
   ·rcases cmpV_cons x z a c with ⟨g1,g2⟩ | ⟨g1,g2⟩ | ⟨g1,g2⟩<;>omega
   ·rcases cmpV_cons x z a c with ⟨g1,g2⟩ | ⟨g1,g2⟩ | ⟨g1,g2⟩<;>omega
   ·omega
  ·rcases cmpV_cons y z b c with ⟨f1,f2⟩ | ⟨f1,f2⟩ | ⟨f1,f2⟩
   ·rcases cmpV_cons x z a c with ⟨g1,g2⟩ | ⟨g1,g2⟩ | ⟨g1,g2⟩<;>omega
   ·have:=cmpV_trans a b c (by omega) (by omega)
    rcases cmpV_cons x z a c with ⟨g1,g2⟩ | ⟨g1,g2⟩ | ⟨g1,g2⟩<;>omega
   ·omega
  ·omega
def leV (a b:List Int×List Bool):Bool:=decide (cmpV a.1 b.1≤0)
theorem leV_trans (a b c:List Int×List Bool) (h1:leV a b=true) (h2:leV b c=true):leV a c=true:=by
 unfold leV at *
 rw[decide_eq_true_eq] at *
 exact cmpV_trans _ _ _ h1 h2
theorem leV_total (a b:List Int×List Bool):(leV a b||leV b a)=true:=by
 unfold leV
 rw[Bool.or_eq_true,decide_eq_true_eq,decide_eq_true_eq]
 have:=cmpV_anti a.1 b.1
 omega
def cellsP (ns:List (List Nat)) (most:Int) (ks:List Ky) (ps:List Prd):List (List Int×List Bool):=(cellsU ns most ks ps (2^ks.length)).mergeSort leV
structure AsgL (n:Nat) (most:Int) (v:List Int):Prop where
 len:v.length=n+1
 asg:AsgN n most (gv v)
theorem cell_of {ns:List (List Nat)} {most:Int} {ps:List Prd} {ks:List Ky} (hk:KnwK ns ks) {c:List Int×List Bool} (h:c∈cellsU ns most ks ps (2^ks.length)):AsgL ns.length most c.1∧c.2=trU ns ps (gv c.1):=by
 obtain⟨t,h1,h2,h3⟩:=(cellsU_mem ns most ks ps c _).1 h
 obtain⟨a1,a2,a3⟩:=leastL_some (consP_in (sgK_knw hk t) most) h2
 exact⟨⟨a1,(sol_asg.1 a2).1⟩,h3⟩
theorem cells_nodup {ns:List (List Nat)} {most:Int} {ps:List Prd} {ks:List Ky} (hk:KnwK ns ks):∀ s,s≤2^ks.length→((cellsU ns most ks ps s).map Prod.fst).Nodup
 | 0,_=>by simp[cellsU]
 | s+1,hs=>by
  unfold cellsU
  have ih:=cells_nodup (most:=most) (ps:=ps) hk s (by omega)
  cases hl:leastL ns.length (consP ns most (sgK ks s ks.length)) with
  | none=>simpa using ih
  | some v =>
   rw[List.map_append]
   refine List.nodup_append.2 ⟨ih,by simp,fun a ha b hb e=>?_⟩
   have hb':b=v:=by simpa using hb
   subst hb'
   subst e
   obtain⟨c,hc,rfl⟩:=List.mem_map.1 ha
   obtain⟨t,h1,h2,h3⟩:=(cellsU_mem ns most ks ps c s).1 hc
   have e1:=(sgK_holds ns (gv c.1) ks t).1 (sol_asg.1 (leastL_some (consP_in (sgK_knw hk t) most) h2).2.1).2
   have e2:=(sgK_holds ns (gv c.1) ks s).1 (sol_asg.1 (leastL_some (consP_in (sgK_knw hk s) most) hl).2.1).2
   have:t=s:=Nat.eq_of_testBit_eq (fun i=>by
    by_cases hi:i<ks.length
    ·rw[← e1 i ks[i] (List.getElem?_eq_getElem hi),← e2 i ks[i] (List.getElem?_eq_getElem hi)]
    ·have hp:2^ks.length≤2^i:=Nat.pow_le_pow_right (by omega) (by omega)
     rw[Nat.testBit_lt_two_pow (by omega),Nat.testBit_lt_two_pow (by omega)])
   omega
theorem sorted_cells {ns:List (List Nat)} {most:Int} {ps:List Prd} {ks:List Ky} (hk:KnwK ns ks) {l:List (List Int×List Bool)} (hp:l.Perm (cellsU ns most ks ps (2^ks.length))) (hs:l.Pairwise (fun a b=>leV a b=true)):l=cellsP ns most ks ps:=by
 unfold cellsP
 have hnd:=cells_nodup (most:=most) (ps:=ps) hk _ (Nat.le_refl _)
 refine List.Perm.eq_of_pairwise (le:=fun a b=>leV a b=true) (fun a b ha hb h1 h2=>?_) hs (List.pairwise_mergeSort leV_trans leV_total _) (hp.trans (List.mergeSort_perm _ leV).symm)
 have e:a.1=b.1:=by
  unfold leV at h1 h2
  rw[decide_eq_true_eq] at h1 h2
  have:=cmpV_anti a.1 b.1
  exact (cmpV_zero _ _).1 (by omega)
 have ha':=hp.mem_iff.1 ha
 have hb':=(List.mergeSort_perm _ leV).mem_iff.1 hb
 have h3:=(cell_of hk ha').2
 have h4:=(cell_of hk hb').2
 obtain⟨a1,a2⟩:=a
 obtain⟨b1,b2⟩:=b
 simp only at e h3 h4
 subst e
 rw[h3,h4]
end
section
def digU (b:Nat):Nat→Nat→List Int
 | 0,_=>[]
 | n+1,k=>digU b n (k/b)++[((k%b:Nat):Int)]
theorem digU_len (b:Nat):∀ n k,(digU b n k).length=n
 | 0,_=>rfl
 | n+1,k=>by unfold digU;rw[List.length_append,digU_len b n];rfl
theorem digU_rng (b:Nat) (hb:0<b):∀ n k,∀ x∈digU b n k,0≤x∧x<(b:Int)
 | 0,_,x,hx=>by cases hx
 | n+1,k,x,hx=>by
  unfold digU at hx
  rcases List.mem_append.1 hx with h | h
  ·exact digU_rng b hb n _ x h
  ·have hm:=Nat.mod_lt k hb
   have:x=((k%b:Nat):Int):=by simpa using h
   omega
def asgK (n:Nat) (most:Nat) (k:Nat):List Int:=0::digU (most+1) n k
def cntK (g:Nat→Bool):Nat→Nat
 | 0=>0
 | m+1=>cntK g m+(if g m=true then 1 else 0)
theorem cntK_add (g:Nat→Bool) (a:Nat):∀ b,cntK g (a+b)=cntK g a+cntK (fun j=>g (a+j)) b
 | 0=>rfl
 | b+1=>by
  show cntK g (a+b)+(if g (a+b)=true then 1 else 0)=cntK g a+(cntK (fun j=>g (a+j)) b+(if g (a+b)=true then 1 else 0))
  rw[cntK_add g a b];omega
theorem cntK_congr {g h:Nat→Bool}:∀ m,(∀ j,j<m→g j=h j)→cntK g m=cntK h m
 | 0,_=>rfl
 | m+1,e=>by unfold cntK;rw[cntK_congr m (fun j hj=>e j (by omega)),e m (by omega)]
theorem cntK_not (g:Nat→Bool):∀ m,cntK g m+cntK (fun j=>!g j) m=m
 | 0=>rfl
 | m+1=>by
  unfold cntK
  have:=cntK_not g m
  cases h:g m<;>simp[h]<;>omega
theorem cntK_const (g:Nat→Bool) (b:Bool):∀ m,(∀ j,j<m→g j=b)→cntK g m=if b=true then m else 0
 | 0,_=>by cases b<;>rfl
 | m+1,e=>by
  unfold cntK
  rw[cntK_const g b m (fun j hj=>e j (by omega)),e m (by omega)]
  cases b<;>simp
def cntA (f:List Int→Bool) (most:Nat):Nat→List Int→Nat
 | 0,v=>if f v=true then 1 else 0
 | r+1,v=>sumA (fun x=>cntA f most r (v++[(x:Int)])) (most+1)
where sumA (g:Nat→Nat):Nat→Nat
 | 0=>0
 | m+1=>sumA g m+g m
theorem sumA_congr {g h:Nat→Nat}:∀ m,(∀ j,j<m→g j=h j)→cntA.sumA g m=cntA.sumA h m
 | 0,_=>rfl
 | m+1,e=>by unfold cntA.sumA;rw[sumA_congr m (fun j hj=>e j (by omega)),e m (by omega)]
theorem sumA_cnt (g:Nat→Bool):∀ m,cntA.sumA (fun x=>if g x=true then 1 else 0) m=cntK g m
 | 0=>rfl
 | m+1=>by unfold cntA.sumA cntK;rw[sumA_cnt g m]
theorem sumA_blocks (g:Nat→Bool) (s:Nat):∀ m,cntA.sumA (fun x=>cntK (fun k=>g (x*s+k)) s) m=cntK g (m*s)
 | 0=>by simp[cntA.sumA,cntK]
 | m+1=>by
  unfold cntA.sumA
  rw[sumA_blocks g s m,Nat.add_mul,Nat.one_mul,cntK_add]
theorem digU_head (b:Nat) (hb:0<b):∀ (r x k:Nat),x<b→k<b^r→digU b (r+1) (x*b^r+k)=(x:Int)::digU b r k
 | 0,x,k,hx,hk=>by
  have:k=0:=by simpa using hk
  subst this
  simp[digU,Nat.mod_eq_of_lt hx]
 | r+1,x,k,hx,hk=>by
  have hkb:k/b<b^r:=(Nat.div_lt_iff_lt_mul hb).2 (by rw[← Nat.pow_succ];exact hk)
  have e1:(x*b^(r+1)+k)/b=x*b^r+k/b:=by
   rw[Nat.pow_succ,← Nat.mul_assoc,Nat.mul_comm (x*b^r) b,Nat.mul_add_div hb]
  have e2:(x*b^(r+1)+k)%b=k%b:=by
   rw[Nat.pow_succ,← Nat.mul_assoc,Nat.mul_comm (x*b^r) b,Nat.mul_add_mod]
  rw[show digU b (r+1+1) (x*b^(r+1)+k)=digU b (r+1) ((x*b^(r+1)+k)/b)++[(((x*b^(r+1)+k)%b:Nat):Int)] from rfl,e1,e2,digU_head b hb r x (k/b) hx hkb]
  rfl
theorem cntA_law (f:List Int→Bool) (most:Nat):∀ (r:Nat) (v:List Int),cntA f most r v=cntK (fun k=>f (v++digU (most+1) r k)) ((most+1)^r)
 | 0,v=>by
  show (if f v=true then 1 else 0)=cntK _ 1
  simp[cntK,digU]
 | r+1,v=>by
  show cntA.sumA (fun x=>cntA f most r (v++[(x:Int)])) (most+1)=_
  rw[Nat.pow_succ,Nat.mul_comm,← sumA_blocks]
  refine sumA_congr _ (fun x hx=>?_)
  rw[cntA_law f most r]
  refine cntK_congr _ (fun k hk=>?_)
  rw[digU_head _ (by omega) r x k hx hk,List.append_assoc];rfl
end
section
def turnK (ns:List (List Nat)) (v:List Int) (at':Nat) (k:Ky):List Int :=
 if idxN ns k.l=at' then [gv v (idxN ns k.r)+k.c+1] else if idxN ns k.r=at' then [gv v (idxN ns k.l)-k.c] else []
def turnsU (ns:List (List Nat)) (v:List Int) (at':Nat) (most:Int) (ks:List Ky):List Int:=[0,most+1]++ks.flatMap (turnK ns v at')
def inT (most:Int) (t:Int):Bool:=!(decide (t<0)||decide (most+1<t))
def leI (a b:Int):Bool:=decide (a≤b)
def turnsP (ns:List (List Nat)) (v:List Int) (at':Nat) (most:Int) (ks:List Ky):List Int:=((turnsU ns v at' most ks).filter (inT most)).mergeSort leI
def sumT (g:Int→Bool):List Int→Int
 | t::t2::ts=>(if g t=true then t2-t else 0)+sumT g (t2::ts)
 | _=>0
theorem sumT_law (g:Int→Bool) (h:Nat→Bool) (hg:∀ x:Nat,g (x:Int)=h x) (M:Nat):∀ (L:List Int) (a:Nat),L.Pairwise (fun x y=>leI x y=true)→L.head?=some (a:Int)→L.getLast?=some (M:Int)→(∀ t∈L,0≤t) →
  (∀ (x t:Int),a≤x→x<M→t≤x→t∈L→(∀ s∈L,s≤t∨x<s)→g x=g t)→a≤M→sumT g L=((cntK (fun j=>h (a+j)) (M-a):Nat):Int)
 | [],a,_,h1,_,_,_,_=>by cases h1
 | [t],a,_,h1,h2,_,_,_=>by
  simp only[List.head?_cons,Option.some.injEq] at h1
  simp only[List.getLast?_singleton,Option.some.injEq] at h2
  have:M-a=0:=by omega
  rw[this]
  rfl
 | t::t2::ts,a,hs,h1,h2,hp,hc,hle=>by
  simp only[List.head?_cons,Option.some.injEq] at h1
  subst h1
  have hs':=List.pairwise_cons.1 hs
  have h12:(a:Int)≤t2:=of_decide_eq_true (hs'.1 t2 (by simp))
  obtain⟨b,rfl⟩:∃ b:Nat,t2=(b:Int):=⟨t2.toNat,by omega⟩
  have hl2:((b:Int)::ts).getLast?=some (M:Int):=by rw[List.getLast?_cons_cons] at h2;exact h2
  have hbM:b≤M:=by
   have hm:(M:Int)∈(b:Int)::ts:=List.mem_of_getLast? hl2
   rcases List.mem_cons.1 hm with e | e
   ·omega
   ·have:=of_decide_eq_true ((List.pairwise_cons.1 hs'.2).1 _ e)
    omega
  have ih:=sumT_law g h hg M ((b:Int)::ts) b hs'.2 rfl hl2 (fun x hx=>hp x (List.mem_cons_of_mem _ hx)) (fun x t hx1 hx2 hx3 ht hx4=>hc x t (by omega) hx2 hx3 (List.mem_cons_of_mem _ ht) (fun s hs2=>by
   rcases List.mem_cons.1 hs2 with rfl | hs2
   ·left
    have:(b:Int)≤t:=by
     rcases List.mem_cons.1 ht with e | e
     ·omega
     ·exact of_decide_eq_true ((List.pairwise_cons.1 hs'.2).1 _ e)
    omega
   ·exact hx4 s hs2)) hbM
  show (if g (a:Int)=true then (b:Int)-(a:Int) else 0)+sumT g ((b:Int)::ts)=_
  rw[ih,show M-a=(b-a)+(M-b) by omega,cntK_add,cntK_const (fun j=>h (a+j)) (g (a:Int)) (b-a) (fun j hj=>by
   rw[← hg]
   exact hc _ (a:Int) (by omega) (by omega) (by omega) (by simp) (fun s hs2=>by
    rcases List.mem_cons.1 hs2 with e | hs2
    ·left;omega
    ·right
     have:(b:Int)≤s:=by
      rcases List.mem_cons.1 hs2 with e | e
      ·omega
      ·exact of_decide_eq_true ((List.pairwise_cons.1 hs'.2).1 _ e)
     omega))]
  have e2:cntK (fun j=>h (a+(b-a+j))) (M-b)=cntK (fun j=>h (b+j)) (M-b):=cntK_congr _ (fun j _=>by rw[show a+(b-a+j)=b+j by omega])
  rw[e2]
  cases g (a:Int)<;>simp<;>omega
theorem leI_trans (a b c:Int) (h1:leI a b=true) (h2:leI b c=true):leI a c=true:=by
 unfold leI at *;rw[decide_eq_true_eq] at *;omega
theorem leI_total (a b:Int):(leI a b||leI b a)=true:=by
 unfold leI;rw[Bool.or_eq_true,decide_eq_true_eq,decide_eq_true_eq];omega
theorem turns_mem (ns:List (List Nat)) (v:List Int) (at':Nat) (most:Int) (ks:List Ky) (t:Int):t∈turnsP ns v at' most ks↔(t∈turnsU ns v at' most ks)∧0≤t∧t≤most+1:=by
 unfold turnsP
 rw[(List.mergeSort_perm _ leI).mem_iff,List.mem_filter]
 unfold inT
 simp
theorem turns_sorted (ns:List (List Nat)) (v:List Int) (at':Nat) (most:Int) (ks:List Ky):(turnsP ns v at' most ks).Pairwise (fun x y=>leI x y=true):=List.pairwise_mergeSort leI_trans leI_total _
theorem head_least {L:List Int} {a:Int} (hs:L.Pairwise (fun x y=>leI x y=true)) (ha:a∈L) (hmin:∀ t∈L,a≤t):L.head?=some a:=by
 cases L with
 | nil=>cases ha
 | cons x l =>
  have h1:=hmin x (by simp)
  rcases List.mem_cons.1 ha with e | e
  ·rw[e];rfl
  ·have:=of_decide_eq_true ((List.pairwise_cons.1 hs).1 a e)
   have:x=a:=by omega
   rw[this];rfl
theorem last_greatest:∀ {L:List Int} {a:Int},L.Pairwise (fun x y=>leI x y=true)→a∈L→(∀ t∈L,t≤a)→L.getLast?=some a
 | [],a,_,ha,_=>by cases ha
 | [x],a,_,ha,_=>by
  have:a=x:=by simpa using ha
  rw[this];rfl
 | x::y::l,a,hs,ha,hmax=>by
  rw[List.getLast?_cons_cons]
  have hs':=List.pairwise_cons.1 hs
  refine last_greatest hs'.2 ?_ (fun t ht=>hmax t (List.mem_cons_of_mem _ ht))
  rcases List.mem_cons.1 ha with e | e
  ·have h1:=of_decide_eq_true (hs'.1 y (by simp))
   have h2:=hmax y (by simp)
   have:a=y:=by omega
   rw[this];simp
  ·exact e
theorem gv_snoc (v:List Int) (x:Int) (i:Nat):gv (v++[x]) i=if i<v.length then gv v i else if i=v.length then x else 0:=by
 unfold gv
 rw[List.getD_eq_getElem?_getD,List.getD_eq_getElem?_getD,List.getElem?_append]
 by_cases h:i<v.length
 ·rw[if_pos h,if_pos h]
 ·rw[if_neg h,if_neg h]
  by_cases h2:i=v.length
  ·rw[if_pos h2,h2,Nat.sub_self];rfl
  ·rw[if_neg h2,List.getElem?_eq_none (by simp;omega)];rfl
theorem idxN_inj {ns:List (List Nat)} {s t:List Nat} (hs:knwN ns s=true) (ht:knwN ns t=true) (h:idxN ns s=idxN ns t):s=t:=by
 unfold idxN at h
 unfold knwN at hs ht
 rw[Bool.or_eq_true,beq_iff_eq] at hs ht
 by_cases e1:s=[]
 ·rw[if_pos e1] at h
  by_cases e2:t=[]
  ·rw[e1,e2]
  ·rw[if_neg e2] at h;omega
 ·rw[if_neg e1] at h
  by_cases e2:t=[]
  ·rw[if_pos e2] at h;omega
  ·rw[if_neg e2] at h
   have h1:s∈ns:=by rcases hs with hs | hs;exact absurd hs e1;simpa using hs
   have h2:t∈ns:=by rcases ht with ht | ht;exact absurd ht e2;simpa using ht
   have e3:=List.getElem_idxOf (List.idxOf_lt_length_iff.2 h1)
   have e4:=List.getElem_idxOf (List.idxOf_lt_length_iff.2 h2)
   have:ns.idxOf s=ns.idxOf t:=by omega
   rw[← e3,← e4]
   simp only[this]
theorem turn_const {ns:List (List Nat)} {ps:List Prd} {p:Prd} (hp:p∈ps) (hk:KnwK ns (compsP ps)) {v:List Int} (hv:v.length=ns.length) {most:Int} (x t:Int) (h0:0≤t) (hx:x≤most) (htx:t≤x)
  (hbet:∀ s∈turnsP ns v ns.length most (compsP ps),s≤t∨x<s):truthP (fK ns (gv (v++[x]))) p=truthP (fK ns (gv (v++[t]))) p:=by
 refine comps_truth (fun k hk2=>?_) p hp
 have hcon:conK k=false:=((compL_mem _ k).1 hk2).1
 obtain⟨hl,hr⟩:=hk k hk2
 have hle:=idxN_le hl
 have hre:=idxN_le hr
 have hne:idxN ns k.l≠idxN ns k.r:=fun e=>by
  have:=idxN_inj hl hr e
  unfold conK at hcon
  rw[this] at hcon
  simp at hcon
 have hnb:∀ s∈turnK ns v ns.length k,0≤s→s≤most+1→s≤t∨x<s:=fun s hs h1 h2=>hbet s ((turns_mem _ _ _ _ _ _).2 ⟨List.mem_append_right _ (List.mem_flatMap.2 ⟨k,hk2,hs⟩),h1,h2⟩)
 unfold turnK at hnb
 unfold fK
 rw[gv_snoc,gv_snoc,gv_snoc,gv_snoc,hv]
 by_cases h1:idxN ns k.l=ns.length
 ·rw[if_pos h1] at hnb
  have h3:=hnb _ (List.mem_singleton.2 rfl)
  rw[if_neg (by omega),if_pos h1,if_pos (by omega),if_neg (by omega),if_pos h1,if_pos (by omega)]
  by_cases hd:x-gv v (idxN ns k.r)≤k.c
  ·rw[decide_eq_true hd,decide_eq_true (by omega)]
  ·rw[decide_eq_false hd,decide_eq_false (by omega)]
 ·rw[if_neg h1] at hnb
  by_cases h2:idxN ns k.r=ns.length
  ·rw[if_pos h2] at hnb
   have h3:=hnb _ (List.mem_singleton.2 rfl)
   rw[if_pos (by omega),if_neg (by omega),if_pos h2,if_pos (by omega),if_neg (by omega),if_pos h2]
   by_cases hd:gv v (idxN ns k.l)-x≤k.c
   ·rw[decide_eq_true hd,decide_eq_true (by omega)]
   ·rw[decide_eq_false hd,decide_eq_false (by omega)]
  ·rw[if_pos (by omega),if_pos (by omega),if_pos (by omega),if_pos (by omega)]
theorem turns_law {ns:List (List Nat)} {ps:List Prd} {p:Prd} (hp:p∈ps) (hk:KnwK ns (compsP ps)) {v:List Int} (hv:v.length=ns.length) (most:Nat) :
  sumT (fun x=>truthP (fK ns (gv (v++[x]))) p) (turnsP ns v ns.length (most:Int) (compsP ps))=((cntA (fun u=>truthP (fK ns (gv u)) p) most 1 v:Nat):Int):=by
 have hmem:=turns_mem ns v ns.length (most:Int) (compsP ps)
 have hs:=turns_sorted ns v ns.length (most:Int) (compsP ps)
 have h1:(0:Int)∈turnsP ns v ns.length (most:Int) (compsP ps):=(hmem 0).2 ⟨by simp[turnsU],by omega,by omega⟩
 have h2:((most+1:Nat):Int)∈turnsP ns v ns.length (most:Int) (compsP ps):=(hmem _).2 ⟨by simp[turnsU],by omega,by omega⟩
 have:=sumT_law (fun x=>truthP (fK ns (gv (v++[x]))) p) (fun x=>truthP (fK ns (gv (v++[(x:Int)]))) p) (fun x=>rfl) (most+1) (turnsP ns v ns.length (most:Int) (compsP ps)) 0 hs
  (head_least hs h1 (fun t ht=>((hmem t).1 ht).2.1)) (last_greatest hs h2 (fun t ht=>by have:=((hmem t).1 ht).2.2;omega)) (fun t ht=>((hmem t).1 ht).2.1)
  (fun x t hx1 hx2 hx3 ht hb=>turn_const hp hk hv x t ((hmem t).1 ht).2.1 (by omega) hx3 hb) (by omega)
 rw[this]
 congr 1
 show _=cntA.sumA (fun x=>if truthP (fK ns (gv (v++[(x:Int)]))) p=true then 1 else 0) (most+1)
 rw[sumA_cnt]
 refine cntK_congr _ (fun j _=>?_)
 rw[Nat.zero_add]
end
end Go.Proofs.YtmkdfbelbcocpaaGreatDoor
