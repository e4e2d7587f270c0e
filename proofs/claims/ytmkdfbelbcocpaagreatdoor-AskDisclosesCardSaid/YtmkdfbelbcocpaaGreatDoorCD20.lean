import Derived.Deep.Quiet
import Derived.Lib.QuietBelow
import Derived.Test.YtmkdfbelbcocpaaGreatDoorCD19
import Derived.Test.YtmkdfbelbcocpaaGreatDoorCD12
import Derived.Shelf.SlSortCmp.Whole1
import Derived.Shelf.SlSortCmp.NoneTotal
import Derived.Test.YtmkdfbelbcocpaaGreatDoorShelf
import Derived.Test.YtmkdfbelbcocpaaGreatDoorCD0
import Derived.Test.YtmkdfbelbcocpaaGreatDoorCD14
set_option linter.unusedVariables false
set_option linter.unusedSimpArgs false
namespace Go.Proofs.YtmkdfbelbcocpaaGreatDoor
section
open Go.RowKit Go.Sort
theorem Z7r {f:FuncId} {args:Array Value} {v:Value} (w:World) (h:∀ W:World,Below w.heap.size w W→Calls Tryz.prog f args W fun e w'=>e = .returned v∧Below W.heap.size W w') (d:Nat) (os:Array Obj) :
  Calls Tryz.prog f args (grow (redrawn w d) os) fun e w''=>e = .returned v∧∃ p:Regrown,w''=grow (redrawn w p.d) p.os :=
 Calls.regrown_of (h _ (below_regrown w d os))
end
section
open Go.RowKit Go.Sort
section
variable {α:Type}
def Zv2 (EL:World→(Nat→Prop)→α→List Value→Prop):Prop :=
 ∀ (w w':World) (P P':Nat→Prop) (x:α) (vs:List Value),(∀ g,P g→g<w.heap.size→w'.heap[g]?=w.heap[g]?)→w.heap.size≤w'.heap.size→(∀ g,P g→g<w.heap.size→P' g)→EL w P x vs→EL w' P' x vs
structure RowM (EL:World→(Nat→Prop)→α→List Value→Prop) (k base:Nat) (wr:World) (lo:Nat) (bad:Nat→Prop) (ao:Option Addr) (n cp:Nat) (xs:List α) (vss:List (List Value)):Prop where
 own:OwnK wr lo k n cp vss.flatten ao
 len:vss.length=xs.length
 cnt:n=xs.length
 elk:∀ vs∈vss,vs.length=k
 each:∀ (i:Nat) (x:α) (vs:List Value),xs[i]?=some x→vss[i]?=some vs→EL wr (fun g=>base≤g∧¬ bad g∧blk ao≠some g) x vs
variable {EL:World→(Nat→Prop)→α→List Value→Prop} {k base:Nat}
theorem RowM.nil (wr:World) (lo:Nat) (bad:Nat→Prop):RowM EL k base wr lo bad none 0 0 [] [] :=
 ⟨.nil rfl rfl rfl,rfl,rfl,fun vs h=>absurd h List.not_mem_nil,fun i x vs h=>by simp at h⟩
theorem RowM.turn (hE:Zv2 EL) {wr w':World} {lo:Nat} {bad:Nat→Prop} {ao:Option Addr} {n cp:Nat} {xs:List α} {vss:List (List Value)} (h:RowM EL k base wr lo bad ao n cp xs vss) {p:Nat→Prop} (hb:Only wr w' p)
  (hp:∀ g,p g→bad g∨g<base) (ho:∀ g,blk ao=some g→¬ p g):RowM EL k base w' lo bad ao n cp xs vss:=by
 refine⟨h.own.of_block (fun g e hl=>hb.block g hl (ho g e)) hb.size,h.len,h.cnt,h.elk,fun i x vs hx hv=>hE _ _ _ _ _ _ (fun g hg hl=>hb.block g hl (fun hh=>?_)) hb.size (fun g hg _=>hg) (h.each i x vs hx hv)⟩
 rcases hp g hh with h1 | h1
 ·exact hg.2.1 h1
 ·have:=hg.1;omega
theorem RowM.step (hE:Zv2 EL) {wr w':World} {lo:Nat} {bad:Nat→Prop} {ao:Option Addr} {n cp:Nat} {xs:List α} {vss:List (List Value)} (h:RowM EL k base wr lo bad ao n cp xs vss) (hb:Below wr.heap.size wr w'):RowM EL k base w' lo bad ao n cp xs vss :=
 h.turn hE (Only.of_below (p:=fun _=>False) hb) (fun g h=>h.elim) (fun g _ h=>h.elim)
theorem RowM.add (hE:Zv2 EL) {w0 w2 wa:World} {lo:Nat} {bad:Nat→Prop} {ao:Option Addr} {n cp g5 off5 c5:Nat} {xs:List α} {vss:List (List Value)} {x:α} {vs:List Value} (h:RowM EL k base w2 lo bad ao n cp xs vss)
  (hao:∀ g,blk ao=some g→g<w0.heap.size) (hb0:base≤w0.heap.size) (hbad:∀ g,bad g→g<w0.heap.size)
  (hx:EL w2 (fun g=>w0.heap.size≤g) x vs) (hk:vs.length=k) (ho:OwnK wa lo k (n+1) c5 (vss.flatten++vs) (some ⟨g5,off5,none⟩)) (hg:w2.grownBy wa (blk ao)) (hor:blk ao=some g5∨w2.heap.size≤g5) :
  RowM EL k base wa lo bad (some ⟨g5,off5,none⟩) (n+1) c5 (xs++[x]) (vss++[vs]):=by
 have hnew:∀ g,blk ao≠some g→g<w2.heap.size→blk (some (⟨g5,off5,none⟩:Addr))≠some g:=fun g hb hl e=>by
  have e':g5=g:=Option.some.inj e
  subst e'
  rcases hor with h1 | h1
  ·exact hb h1
  ·omega
 refine⟨by rw[List.flatten_append];simpa using ho,by rw[List.length_append,List.length_append,h.len];rfl,by rw[List.length_append,← h.cnt];rfl,fun us hu=>?_,?_⟩
 ·rcases List.mem_append.1 hu with hu | hu
  ·exact h.elk us hu
  ·rw[List.mem_singleton] at hu;subst hu;exact hk
 intro i y us hq hu
 have hlen:=h.len
 by_cases hi:i<xs.length
 ·rw[List.getElem?_append_left hi] at hq
  rw[List.getElem?_append_left (by omega)] at hu
  exact hE w2 wa (fun g=>base≤g∧¬ bad g∧blk ao≠some g) _ y us (fun g hx hl=>hg.block g hl (fun e=>hx.2.2 e.symm)) hg.size (fun g hx hl=>⟨hx.1,hx.2.1,hnew g hx.2.2 hl⟩) (h.each i y us hq hu)
 ·rw[List.getElem?_append_right (by omega)] at hq hu
  have hi1:i=xs.length:=by
   have:=(List.getElem?_eq_some_iff.1 hq).1
   simp at this
   omega
  subst hi1
  rw[Nat.sub_self] at hq
  rw[hlen,Nat.sub_self] at hu
  obtain rfl:x=y:=by simpa using hq
  obtain rfl:vs=us:=by simpa using hu
  have hne:∀ g,w0.heap.size≤g→blk ao≠some g:=fun g hge e=>by
   have:=hao g e
   omega
  exact hE w2 wa (fun g=>w0.heap.size≤g) _ x vs (fun g hx hl=>hg.block g hl (fun e=>hne g hx e.symm)) hg.size (fun g hx hl=>⟨Nat.le_trans hb0 hx,fun hb=>by have:=hbad g hb;omega,hnew g (hne g hx) hl⟩) hx
theorem Zn1 (k:Nat):∀ (vss:List (List Value)),(∀ vs∈vss,vs.length=k)→∀ (i j:Nat) (vs:List Value),vss[i]?=some vs→j<k→vss.flatten[i*k+j]?=vs[j]?
 | [],_,i,j,vs,h,_=>by simp at h
 | us::vss,hk,0,j,vs,h,hj=>by
  obtain rfl:us=vs:=by simpa using h
  have:=hk us (List.mem_cons_self ..)
  rw[List.flatten_cons,List.getElem?_append_left (by omega)]
  congr 1;omega
 | us::vss,hk,i+1,j,vs,h,hj=>by
  have hl:=hk us (List.mem_cons_self ..)
  rw[List.flatten_cons,List.getElem?_append_right (by rw[hl,Nat.add_mul];omega),hl]
  rw[← Zn1 k vss (fun x hx=>hk x (List.mem_cons_of_mem _ hx)) i j vs (by simpa using h) hj]
  congr 1
  rw[Nat.add_mul];omega
theorem RowM.at {wr:World} {lo:Nat} {bad:Nat→Prop} {ao:Option Addr} {n cp:Nat} {xs:List α} {vss:List (List Value)} (h:RowM EL k base wr lo bad ao n cp xs vss) (i:Nat) (x:α) (hx:xs[i]?=some x) :
  ∃ g off vs,ao=some ⟨g,off,none⟩∧g<wr.heap.size∧lo≤g∧vss[i]?=some vs∧vs.length=k∧Za3 wr g (off+i*k) vs∧EL wr (fun g=>base≤g∧¬ bad g∧blk ao≠some g) x vs:=by
 have hi:=(List.getElem?_eq_some_iff.1 hx).1
 have hil:i<vss.length:=by rw[h.len];exact hi
 have hv:vss[i]?=some vss[i]:=List.getElem?_eq_getElem hil
 have hk:=h.elk vss[i] (List.getElem_mem hil)
 have hO:=h.own
 cases hao:ao with
 | none =>
  rw[hao] at hO
  cases hO with
  | nil h1 h2 h3=>have:=h.cnt;omega
 | some a =>
  rw[hao] at hO
  obtain⟨g,off,si⟩:=a
  cases hO with
  | «at» g off h1 h2 h3 h4 =>
   refine⟨g,off,vss[i],rfl,h1.lt,h1.own,hv,hk,fun j u hj=>?_,hao ▸ h.each i x _ hx hv⟩
   have hjk:=(List.getElem?_eq_some_iff.1 hj).1
   have:=h1.cells (i*k+j) u (by rw[Zn1 k vss h.elk i j _ hv (by omega)];exact hj)
   rwa [← Nat.add_assoc] at this
end
structure Chc where
 need:Int
 atoms:List Prd
end
section
open Go.RowKit Go.Shelf Go.Sort
section
variable {α:Type} [Inhabited α] (enc:α→Value)
end
theorem Zqs {α:Type} {p:α→Prop}:∀ (l:List α),(∀ x∈l,p x)→∃ d:List {x // p x},d.map (·.1)=l
 | [],_=>⟨[],rfl⟩
 | x::l,h=>by
  obtain⟨d,hd⟩:=Zqs l (fun y hy=>h y (List.mem_cons_of_mem _ hy))
  exact⟨⟨x,h x (List.mem_cons_self ..)⟩::d,by rw[List.map_cons,hd]⟩
end
section
theorem Zyl:∀ (j a i:Nat),a.testBit j=false→(a+2^j).testBit i=(decide (i=j)||a.testBit i)
 | 0,a,i,h=>by
  have h0:a%2=0:=by simpa [Nat.testBit_zero] using h
  cases i with
  | zero=>simp[Nat.testBit_zero];omega
  | succ i =>
   rw[Nat.testBit_succ,Nat.testBit_succ,show (a+2^0)/2=a/2 by simp;omega]
   simp
 | j+1,a,i,h=>by
  rw[Nat.testBit_succ] at h
  have e:(a+2^(j+1))/2=a/2+2^j:=by rw[Nat.pow_succ];omega
  cases i with
  | zero=>simp[Nat.testBit_zero,Nat.pow_succ]
  | succ i =>
   rw[Nat.testBit_succ,Nat.testBit_succ,e,Zyl j (a/2) i h]
   simp
end
section
mutual
theorem Zjn (f g:Ky→Bool):∀ p,(∀ k∈Zcl p,f k=true→g k=true)→Zav f p=true→Zav g p=true
 | .mk k l r c ks,h,ht=>by
  rw[Zav] at ht ⊢
  have hL:∀ x∈Zck ks,f x=true→g x=true:=fun x hx=>h x (by unfold Zcl;exact List.mem_append_right _ hx)
  have hc:=Zuk f g ks hL
  have hle:=Zx9 g ks
  by_cases h0:k=0
  ·rw[if_pos h0] at ht ⊢
   exact h _ (by unfold Zcl;simp[h0]) ht
  ·rw[if_neg h0] at ht ⊢
   by_cases h1:k=1
   ·rw[if_pos h1] at ht ⊢
    rw[beq_iff_eq] at ht ⊢
    omega
   ·rw[if_neg h1] at ht ⊢
    by_cases h2:k=2
    ·rw[if_pos h2,decide_eq_true_eq] at ht ⊢
     omega
    ·rw[if_neg h2,decide_eq_true_eq] at ht ⊢
     omega
theorem Zuk (f g:Ky→Bool):∀ ks,(∀ k∈Zck ks,f k=true→g k=true)→Zkj f ks≤Zkj g ks
 | [],_=>by simp[Zkj]
 | p::ps,h=>by
  have h1:=Zjn f g p (fun k hk=>h k (by unfold Zck;exact List.mem_append_left _ hk))
  have h2:=Zuk f g ps (fun k hk=>h k (by unfold Zck;exact List.mem_append_right _ hk))
  rw[Zkj,Zkj]
  by_cases ht:Zav f p=true
  ·rw[if_pos ht,if_pos (h1 ht)];omega
  ·rw[if_neg ht];omega
end
theorem Zl6 {f g:Ky→Bool} {p:Prd} (h:∀ k∈Zcl p,f k=g k):Zav f p=Zav g p:=by
 have h1:=Zjn f g p (fun k hk e=>by rw[← h k hk];exact e)
 have h2:=Zjn g f p (fun k hk e=>by rw[h k hk];exact e)
 cases hf:Zav f p with
 | true=>rw[h1 hf]
 | false =>
  cases hg:Zav g p with
  | false=>rfl
  | true=>rw[h2 hg] at hf;cases hf
theorem Zym:∀ (n:Nat) (g:Nat→Bool),∃ a,a<2^n∧∀ j,j<n→a.testBit j=g j
 | 0,g=>⟨0,by simp,fun j hj=>absurd hj (Nat.not_lt_zero _)⟩
 | n+1,g=>by
  obtain⟨a,h1,h2⟩:=Zym n g
  have hb:a.testBit n=false:=Nat.testBit_lt_two_pow h1
  cases hg:g n with
  | false =>
   refine⟨a,by rw[Nat.pow_succ];omega,fun j hj=>?_⟩
   rcases Nat.lt_succ_iff_lt_or_eq.1 hj with h | rfl
   ·exact h2 j h
   ·rw[hb,hg]
  | true =>
   refine⟨a+2^n,by rw[Nat.pow_succ];omega,fun j hj=>?_⟩
   rw[Zyl n a j hb]
   rcases Nat.lt_succ_iff_lt_or_eq.1 hj with h | rfl
   ·rw[h2 j h];simp;intro e;omega
   ·simp[hg]
end
section
def Zco (ns:List (List Nat)) (s:List Nat):Nat:=if s=[] then 0 else ns.idxOf s+1
def Ze4 (ns:List (List Nat)) (s:List Nat):Bool:=s==[]||ns.contains s
theorem Zfs {ns:List (List Nat)} {s:List Nat} (h:Ze4 ns s=true):Zco ns s<ns.length+1:=by
 unfold Zco
 by_cases e:s=[]
 ·rw[if_pos e];omega
 ·rw[if_neg e]
  unfold Ze4 at h
  rw[Bool.or_eq_true,beq_iff_eq] at h
  rcases h with h | h
  ·exact absurd h e
  ·have:=List.idxOf_lt_length_iff.2 (by simpa using h:s∈ns)
   omega
def Zgh (ns:List (List Nat)) (k:Ky):Con:=⟨Zco ns k.l,Zco ns k.r,k.c⟩
def Ze5 (most:Int):Nat→List Con
 | 0=>[]
 | i+1=>Ze5 most i++[⟨0,i+1,0⟩,⟨i+1,0,most⟩]
theorem Zho (most:Int):∀ n,(Ze5 most n).length=2*n
 | 0=>rfl
 | n+1=>by unfold Ze5;rw[List.length_append,Zho most n];simp;omega
theorem Zd2 (most:Int) (c:Con):∀ n,c∈Ze5 most n↔∃ i,i<n∧(c=⟨0,i+1,0⟩∨c=⟨i+1,0,most⟩)
 | 0=>by simp[Ze5]
 | n+1=>by
  unfold Ze5
  rw[List.mem_append,Zd2 most c n]
  constructor
  ·rintro (⟨i,hi,h⟩ | h)
   ·exact⟨i,by omega,h⟩
   ·exact⟨n,by omega,by simpa using h⟩
  ·rintro⟨i,hi,h⟩
   rcases Nat.lt_succ_iff_lt_or_eq.1 hi with h1 | rfl
   ·exact .inl ⟨i,h1,h⟩
   ·exact .inr (by simpa using h)
def Zcp (ns:List (List Nat)) (most:Int) (ks:List Ky):List Con:=ks.map (Zgh ns)++Ze5 most ns.length
def Zio (ns:List (List Nat)) (ks:List Ky):Prop:=∀ k∈ks,Ze4 ns k.l=true∧Ze4 ns k.r=true
theorem Zfg {ns:List (List Nat)} {ks:List Ky} (h:Zio ns ks) (most:Int):InC (ns.length+1) (Zcp ns most ks):=by
 intro c hc
 unfold Zcp at hc
 rcases List.mem_append.1 hc with hc | hc
 ·obtain⟨k,hk,rfl⟩:=List.mem_map.1 hc
  exact⟨Zfs (h k hk).1,Zfs (h k hk).2⟩
 ·obtain⟨i,hi,h1 | h1⟩:=(Zd2 most c ns.length).1 hc
  ·subst h1;exact⟨by simp,by simp only;omega⟩
  ·subst h1;exact⟨by simp only;omega,by simp⟩
def fK (ns:List (List Nat)) (u:Nat→Int) (k:Ky):Bool:=decide (u (Zco ns k.l)-u (Zco ns k.r)≤k.c)
theorem Zyn (ns:List (List Nat)) (u:Nat→Int) (k:Ky):fK ns u (Zvy k)=!fK ns u k:=by
 unfold fK Zvy
 by_cases h:u (Zco ns k.l)-u (Zco ns k.r)≤k.c
 ·rw[decide_eq_true h];simp only[Bool.not_true,decide_eq_false_iff_not];omega
 ·rw[decide_eq_false h];simp only[Bool.not_false,decide_eq_true_eq];omega
structure AsgN (n:Nat) (most:Int) (u:Nat→Int):Prop where
 zero:u 0=0
 rng:∀ i,i<n→0≤u (i+1)∧u (i+1)≤most
theorem Zjo {ns:List (List Nat)} {most:Int} {ks:List Ky} {u:Nat→Int}:SolC (ns.length+1) (Zcp ns most ks) u↔AsgN ns.length most u∧∀ k∈ks,fK ns u k=true:=by
 constructor
 ·intro h
  refine⟨⟨h.zero,fun i hi=>?_⟩,fun k hk=>?_⟩
  ·have h1:=h.meet ⟨0,i+1,0⟩ (List.mem_append_right _ ((Zd2 _ _ _).2 ⟨i,hi,.inl rfl⟩))
   have h2:=h.meet ⟨i+1,0,most⟩ (List.mem_append_right _ ((Zd2 _ _ _).2 ⟨i,hi,.inr rfl⟩))
   have h0:=h.zero
   unfold Zkh at h1 h2
   simp only at h1 h2
   omega
  ·have:=h.meet (Zgh ns k) (List.mem_append_left _ (List.mem_map.2 ⟨k,hk,rfl⟩))
   unfold fK
   rw[decide_eq_true_eq]
   exact this
 ·rintro⟨h1,h2⟩
  refine⟨h1.zero,fun i hi=>?_,fun c hc=>?_⟩
  ·cases i with
   | zero=>rw[h1.zero];exact Int.le_refl _
   | succ i=>exact (h1.rng i (by omega)).1
  ·unfold Zcp at hc
   rcases List.mem_append.1 hc with hc | hc
   ·obtain⟨k,hk,rfl⟩:=List.mem_map.1 hc
    have h3:=h2 k hk
    unfold fK at h3
    rw[decide_eq_true_eq] at h3
    exact h3
   ·have h0:=h1.zero
    obtain⟨i,hi,h3 | h3⟩:=(Zd2 most c ns.length).1 hc
    ·subst h3;have:=h1.rng i hi;unfold Zkh;simp only;omega
    ·subst h3;have:=h1.rng i hi;unfold Zkh;simp only;omega
def Zft (k:Ky):Ky×Bool:=if ltL k.r k.l=true then (Zvy k,false) else (k,true)
theorem Zqt (ns:List (List Nat)) (u:Nat→Int) (k:Ky):fK ns u k=if (Zft k).2=true then fK ns u (Zft k).1 else !fK ns u (Zft k).1:=by
 unfold Zft
 by_cases h:ltL k.r k.l=true
 ·rw[if_pos h,if_neg (by simp),Zyn];simp
 ·rw[if_neg h,if_pos rfl]
def Zyo (ks:List Ky):List Ky:=((ks.map (fun k=>(Zft k).1)).filter (fun k=>!Zsr k)).foldl Zow []
def Zak (ps:List Prd):List Ky:=Zyo (ps.flatMap Zan)
theorem Zip (ks:List Ky) (x:Ky):x∈Zyo ks↔Zsr x=false∧∃ k∈ks,(Zft k).1=x:=by
 unfold Zyo
 rw[Zgu]
 simp[List.mem_filter,and_comm]
theorem Zyp (k:Ky):((Zft k).1.l=k.l∧(Zft k).1.r=k.r)∨((Zft k).1.l=k.r∧(Zft k).1.r=k.l):=by
 unfold Zft
 by_cases h:ltL k.r k.l=true
 ·rw[if_pos h];exact .inr ⟨rfl,rfl⟩
 ·rw[if_neg h];exact .inl ⟨rfl,rfl⟩
theorem Zyq {ns:List (List Nat)} {ks:List Ky} (h:Zio ns ks):Zio ns (Zyo ks):=by
 intro x hx
 obtain⟨-,k,hk,rfl⟩:=(Zip ks x).1 hx
 obtain⟨h1,h2⟩:=h k hk
 rcases Zyp k with ⟨e1,e2⟩ | ⟨e1,e2⟩
 ·rw[e1,e2];exact⟨h1,h2⟩
 ·rw[e1,e2];exact⟨h2,h1⟩
theorem Z5p (ns:List (List Nat)) (u:Nat→Int) (k:Ky) (h:Zsr k=true):fK ns u k=decide (0≤k.c):=by
 unfold fK
 unfold Zsr at h
 rw[beq_iff_eq] at h
 rw[h,Int.sub_self]
theorem Zv3 {ns:List (List Nat)} {ks:List Ky} {u v:Nat→Int} (h:∀ x∈Zyo ks,fK ns u x=fK ns v x):∀ k∈ks,fK ns u k=fK ns v k:=by
 intro k hk
 rw[Zqt,Zqt (u:=v)]
 have e:fK ns u (Zft k).1=fK ns v (Zft k).1:=by
  cases hc:Zsr (Zft k).1 with
  | true=>rw[Z5p _ _ _ hc,Z5p _ _ _ hc]
  | false=>exact h _ ((Zip ks _).2 ⟨hc,k,hk,rfl⟩)
 rw[e]
theorem Zl7 {ns:List (List Nat)} {ps:List Prd} {u v:Nat→Int} (h:∀ x∈Zak ps,fK ns u x=fK ns v x) (p:Prd) (hp:p∈ps):Zav (fK ns u) p=Zav (fK ns v) p :=
 Zl6 (fun k hk=>Zv3 h k (List.mem_flatMap.2 ⟨p,hp,(Zbm p k).2 hk⟩))
def sgK (ks:List Ky) (set:Nat):Nat→List Ky
 | 0=>[]
 | j+1=>sgK ks set j++(match ks[j]? with | some k=>[if set.testBit j=true then k else Zvy k] | none=>[])
theorem Zl8 (ks:List Ky) (set:Nat) (x:Ky):∀ j,x∈sgK ks set j↔∃ i k,i<j∧ks[i]?=some k∧x=if set.testBit i=true then k else Zvy k
 | 0=>by simp[sgK]
 | j+1=>by
  unfold sgK
  rw[List.mem_append,Zl8 ks set x j]
  constructor
  ·rintro (⟨i,k,h1,h2,h3⟩ | h)
   ·exact⟨i,k,by omega,h2,h3⟩
   ·cases hk:ks[j]? with
    | none=>rw[hk] at h;cases h
    | some k=>rw[hk] at h;exact⟨j,k,by omega,hk,by simpa using h⟩
  ·rintro⟨i,k,h1,h2,h3⟩
   rcases Nat.lt_succ_iff_lt_or_eq.1 h1 with h | rfl
   ·exact .inl ⟨i,k,h,h2,h3⟩
   ·right;rw[h2];simpa using h3
theorem Zyr (ks:List Ky) (set:Nat):∀ j,j≤ks.length→(sgK ks set j).length=j
 | 0,_=>rfl
 | j+1,h=>by
  unfold sgK
  rw[List.length_append,Zyr ks set j (by omega),List.getElem?_eq_getElem (by omega)]
  rfl
theorem Ziq (ns:List (List Nat)) (u:Nat→Int) (ks:List Ky) (set:Nat):(∀ x∈sgK ks set ks.length,fK ns u x=true)↔∀ i k,ks[i]?=some k→fK ns u k=set.testBit i:=by
 constructor
 ·intro h i k hk
  have h1:=h _ ((Zl8 ks set _ _).2 ⟨i,k,(List.getElem?_eq_some_iff.1 hk).1,hk,rfl⟩)
  by_cases hb:set.testBit i=true
  ·rw[if_pos hb] at h1;rw[h1,hb]
  ·rw[if_neg hb,Zyn] at h1
   have:set.testBit i=false:=by simpa using hb
   rw[this];simpa using h1
 ·intro h x hx
  obtain⟨i,k,h1,h2,rfl⟩:=(Zl8 ks set _ _).1 hx
  have:=h i k h2
  by_cases hb:set.testBit i=true
  ·rw[if_pos hb,this,hb]
  ·rw[if_neg hb,Zyn,this];simpa using hb
theorem Zjp {ns:List (List Nat)} {ks:List Ky} (h:Zio ns ks) (set:Nat):Zio ns (sgK ks set ks.length):=by
 intro x hx
 obtain⟨i,k,h1,h2,rfl⟩:=(Zl8 ks set _ _).1 hx
 obtain⟨h3,h4⟩:=h k (List.mem_of_getElem? h2)
 by_cases hb:set.testBit i=true
 ·rw[if_pos hb];exact⟨h3,h4⟩
 ·rw[if_neg hb];exact⟨h4,h3⟩
def trU (ns:List (List Nat)) (ps:List Prd) (u:Nat→Int):List Bool:=ps.map (fun p=>Zav (fK ns u) p)
def Zc6 (ns:List (List Nat)) (most:Int) (ks:List Ky) (ps:List Prd):Nat→List (List Int×List Bool)
 | 0=>[]
 | s+1=>Zc6 ns most ks ps s++(match Zej ns.length (Zcp ns most (sgK ks s ks.length)) with | some v=>[(v,trU ns ps (gv v))] | none=>[])
theorem Zf3 (ns:List (List Nat)) (most:Int) (ks:List Ky) (ps:List Prd) (c:List Int×List Bool):∀ s,c∈Zc6 ns most ks ps s↔∃ t,t<s∧Zej ns.length (Zcp ns most (sgK ks t ks.length))=some c.1∧c.2=trU ns ps (gv c.1)
 | 0=>by simp[Zc6]
 | s+1=>by
  unfold Zc6
  rw[List.mem_append,Zf3 ns most ks ps c s]
  constructor
  ·rintro (⟨t,h1,h2,h3⟩ | h)
   ·exact⟨t,by omega,h2,h3⟩
   ·cases hk:Zej ns.length (Zcp ns most (sgK ks s ks.length)) with
    | none=>rw[hk] at h;cases h
    | some v =>
     rw[hk] at h
     obtain rfl:c=(v,trU ns ps (gv v)):=by simpa using h
     exact⟨s,by omega,hk,rfl⟩
  ·rintro⟨t,h1,h2,h3⟩
   rcases Nat.lt_succ_iff_lt_or_eq.1 h1 with h | rfl
   ·exact .inl ⟨t,h,h2,h3⟩
   ·right;rw[h2]
    obtain⟨c1,c2⟩:=c
    simp only at h3 ⊢
    rw[h3];simp
theorem Zhp (ns:List (List Nat)) (most:Int) (ks:List Ky) (ps:List Prd):∀ s,(Zc6 ns most ks ps s).length≤s
 | 0=>Nat.le_refl _
 | s+1=>by
  unfold Zc6
  have:=Zhp ns most ks ps s
  rw[List.length_append]
  cases Zej ns.length (Zcp ns most (sgK ks s ks.length))<;>simp<;>omega
def Ze6:List Int→List Int→Int
 | [],[]=>0
 | [],_::_=>-1
 | _::_,[]=>1
 | x::xs,y::ys=>if Znr x y≠0 then Znr x y else Ze6 xs ys
theorem Zjq (x y:Int):(x<y∧Znr x y = -1)∨(x=y∧Znr x y=0)∨(y<x∧Znr x y=1):=by
 unfold Znr
 by_cases h:x<y
 ·left;rw[if_pos h];exact⟨h,rfl⟩
 ·rw[if_neg h]
  by_cases h2:x=y
  ·right;left;rw[if_pos h2];exact⟨h2,rfl⟩
  ·right;right;rw[if_neg h2];exact⟨by omega,rfl⟩
theorem Zbk (x y:Int) (a b:List Int):(x<y∧Ze6 (x::a) (y::b) = -1)∨(x=y∧Ze6 (x::a) (y::b)=Ze6 a b)∨(y<x∧Ze6 (x::a) (y::b)=1):=by
 have e:Ze6 (x::a) (y::b)=if Znr x y≠0 then Znr x y else Ze6 a b:=by rw[Ze6]
 rw[e]
 rcases Zjq x y with ⟨h1,h2⟩ | ⟨h1,h2⟩ | ⟨h1,h2⟩
 ·left;rw[h2,if_pos (by decide)];exact⟨h1,rfl⟩
 ·right;left;rw[h2,if_neg (by simp)];exact⟨h1,rfl⟩
 ·right;right;rw[h2,if_pos (by decide)];exact⟨h1,rfl⟩
theorem Zf4:∀ a b:List Int,Ze6 a b=0↔a=b
 | [],[]=>by simp[Ze6]
 | [],_::_=>by simp[Ze6]
 | _::_,[]=>by simp[Ze6]
 | x::a,y::b=>by
  rcases Zbk x y a b with ⟨h1,h2⟩ | ⟨h1,h2⟩ | ⟨h1,h2⟩
  ·rw[h2];constructor
   ·intro h;cases h
   ·intro h;injection h with e1 e2;omega
  ·rw[h2,Zf4 a b];subst h1;simp
  ·rw[h2];constructor
   ·intro h;cases h
   ·intro h;injection h with e1 e2;omega
theorem Zdk:∀ a b:List Int,Ze6 a b = - Ze6 b a
 | [],[]=>rfl
 | [],_::_=>rfl
 | _::_,[]=>rfl
 | x::a,y::b=>by
  have h:=Zdk a b
  rcases Zbk x y a b with ⟨h1,h2⟩ | ⟨h1,h2⟩ | ⟨h1,h2⟩
  ·rcases Zbk y x b a with ⟨h3,h4⟩ | ⟨h3,h4⟩ | ⟨h3,h4⟩<;>first | omega | (rw[h2,h4];rfl)
  ·rcases Zbk y x b a with ⟨h3,h4⟩ | ⟨h3,h4⟩ | ⟨h3,h4⟩<;>omega
  ·rcases Zbk y x b a with ⟨h3,h4⟩ | ⟨h3,h4⟩ | ⟨h3,h4⟩<;>first | omega | (rw[h2,h4])
theorem Zf5:∀ a b c:List Int,Ze6 a b≤0→Ze6 b c≤0→Ze6 a c≤0
 | [],_,[],_,_=>by simp[Ze6]
 | [],_,_::_,_,_=>by simp[Ze6]
 | _::_,[],_,h,_=>by simp[Ze6] at h
 | _::_,_::_,[],_,h=>by simp[Ze6] at h
 | x::a,y::b,z::c,h1,h2=>by
  rcases Zbk x y a b with ⟨e1,e2⟩ | ⟨e1,e2⟩ | ⟨e1,e2⟩
  ·rcases Zbk y z b c with ⟨f1,f2⟩ | ⟨f1,f2⟩ | ⟨f1,f2⟩
   ·rcases Zbk x z a c with ⟨g1,g2⟩ | ⟨g1,g2⟩ | ⟨g1,g2⟩<;>omega
   ·rcases Zbk x z a c with ⟨g1,g2⟩ | ⟨g1,g2⟩ | ⟨g1,g2⟩<;>omega
   ·omega
  ·rcases Zbk y z b c with ⟨f1,f2⟩ | ⟨f1,f2⟩ | ⟨f1,f2⟩
   ·rcases Zbk x z a c with ⟨g1,g2⟩ | ⟨g1,g2⟩ | ⟨g1,g2⟩<;>omega
   ·have:=Zf5 a b c (by omega) (by omega)
    rcases Zbk x z a c with ⟨g1,g2⟩ | ⟨g1,g2⟩ | ⟨g1,g2⟩<;>omega
   ·omega
  ·omega
def leV (a b:List Int×List Bool):Bool:=decide (Ze6 a.1 b.1≤0)
theorem Zqu (a b c:List Int×List Bool) (h1:leV a b=true) (h2:leV b c=true):leV a c=true:=by
 unfold leV at *
 rw[decide_eq_true_eq] at *
 exact Zf5 _ _ _ h1 h2
theorem Zqv (a b:List Int×List Bool):(leV a b||leV b a)=true:=by
 unfold leV
 rw[Bool.or_eq_true,decide_eq_true_eq,decide_eq_true_eq]
 have:=Zdk a.1 b.1
 omega
def Zbc (ns:List (List Nat)) (most:Int) (ks:List Ky) (ps:List Prd):List (List Int×List Bool):=(Zc6 ns most ks ps (2^ks.length)).mergeSort leV
theorem Zys:∀ a b:List Int,a.length=b.length→(∀ i,gv a i≤gv b i)→Ze6 a b≤0
 | [],[],_,_=>by simp[Ze6]
 | [],_::_,h,_=>by simp at h
 | _::_,[],h,_=>by simp at h
 | x::a,y::b,h,hp=>by
  have h0:x≤y:=hp 0
  have:=Zys a b (by simpa using h) (fun i=>hp (i+1))
  rcases Zbk x y a b with ⟨e1,e2⟩ | ⟨e1,e2⟩ | ⟨e1,e2⟩<;>omega
structure AsgL (n:Nat) (most:Int) (v:List Int):Prop where
 len:v.length=n+1
 asg:AsgN n most (gv v)
theorem Zo9 {ns:List (List Nat)} {most:Int} {ps:List Prd} {ks:List Ky} (hk:Zio ns ks) {c:List Int×List Bool} (h:c∈Zc6 ns most ks ps (2^ks.length)):AsgL ns.length most c.1∧c.2=trU ns ps (gv c.1):=by
 obtain⟨t,h1,h2,h3⟩:=(Zf3 ns most ks ps c _).1 h
 obtain⟨a1,a2,a3⟩:=Zdy (Zfg (Zjp hk t) most) h2
 exact⟨⟨a1,(Zjo.1 a2).1⟩,h3⟩
theorem Zul {ns:List (List Nat)} {most:Int} {ps:List Prd} (hk:Zio ns (Zak ps)) {u:List Int} (hu:AsgL ns.length most u):∃ c∈Zc6 ns most (Zak ps) ps (2^(Zak ps).length),Ze6 c.1 u≤0∧c.2=trU ns ps (gv u):=by
 generalize hks:Zak ps=ks at *
 obtain⟨set,hs1,hs2⟩:=Zym ks.length (fun i=>match ks[i]? with | some k=>fK ns (gv u) k | none=>false)
 have hbit:∀ i k,ks[i]?=some k→fK ns (gv u) k=set.testBit i:=fun i k h=>by
  rw[hs2 i (List.getElem?_eq_some_iff.1 h).1,h]
 have hsol:SolC (ns.length+1) (Zcp ns most (sgK ks set ks.length)) (gv u):=Zjo.2 ⟨hu.asg,(Ziq ns (gv u) ks set).2 hbit⟩
 cases hl:Zej ns.length (Zcp ns most (sgK ks set ks.length)) with
 | none=>exact absurd hsol (Zsk (Zfg (Zjp hk set) most) hl _)
 | some v =>
  obtain⟨a1,a2,a3⟩:=Zdy (Zfg (Zjp hk set) most) hl
  refine⟨(v,trU ns ps (gv v)),(Zf3 ns most ks ps _ _).2 ⟨set,hs1,hl,rfl⟩,?_,?_⟩
  ·refine Zys v u (a1.trans hu.len.symm) (fun i=>?_)
   by_cases hi:i<ns.length+1
   ·exact a3 (gv u) hsol i hi
   ·unfold gv
    rw[List.getD_eq_getElem?_getD,List.getD_eq_getElem?_getD,List.getElem?_eq_none (by rw[a1];omega),List.getElem?_eq_none (by rw[hu.len];omega)]
    exact Int.le_refl _
  ·unfold trU
   refine List.map_congr_left (fun p hp=>?_)
   refine Zl7 (fun x hx=>?_) p hp
   rw[hks] at hx
   obtain⟨i,hi⟩:=List.mem_iff_getElem?.1 hx
   rw[hbit i x hi]
   exact (Ziq ns (gv v) ks set).1 (Zjo.1 a2).2 i x hi
theorem Zl9 {ns:List (List Nat)} {most:Int} {ps:List Prd} {ks:List Ky} (hk:Zio ns ks):∀ s,s≤2^ks.length→((Zc6 ns most ks ps s).map Prod.fst).Nodup
 | 0,_=>by simp[Zc6]
 | s+1,hs=>by
  unfold Zc6
  have ih:=Zl9 (most:=most) (ps:=ps) hk s (by omega)
  cases hl:Zej ns.length (Zcp ns most (sgK ks s ks.length)) with
  | none=>simpa using ih
  | some v =>
   rw[List.map_append]
   refine List.nodup_append.2 ⟨ih,by simp,fun a ha b hb e=>?_⟩
   have hb':b=v:=by simpa using hb
   subst hb'
   subst e
   obtain⟨c,hc,rfl⟩:=List.mem_map.1 ha
   obtain⟨t,h1,h2,h3⟩:=(Zf3 ns most ks ps c s).1 hc
   have e1:=(Ziq ns (gv c.1) ks t).1 (Zjo.1 (Zdy (Zfg (Zjp hk t) most) h2).2.1).2
   have e2:=(Ziq ns (gv c.1) ks s).1 (Zjo.1 (Zdy (Zfg (Zjp hk s) most) hl).2.1).2
   have:t=s:=Nat.eq_of_testBit_eq (fun i=>by
    by_cases hi:i<ks.length
    ·rw[← e1 i ks[i] (List.getElem?_eq_getElem hi),← e2 i ks[i] (List.getElem?_eq_getElem hi)]
    ·have hp:2^ks.length≤2^i:=Nat.pow_le_pow_right (by omega) (by omega)
     rw[Nat.testBit_lt_two_pow (by omega),Nat.testBit_lt_two_pow (by omega)])
   omega
theorem Zj8 {ns:List (List Nat)} {most:Int} {ps:List Prd} {ks:List Ky} (hk:Zio ns ks) {l:List (List Int×List Bool)} (hp:l.Perm (Zc6 ns most ks ps (2^ks.length))) (hs:l.Pairwise (fun a b=>leV a b=true)):l=Zbc ns most ks ps:=by
 unfold Zbc
 have hnd:=Zl9 (most:=most) (ps:=ps) hk _ (Nat.le_refl _)
 refine List.Perm.eq_of_pairwise (le:=fun a b=>leV a b=true) (fun a b ha hb h1 h2=>?_) hs (List.pairwise_mergeSort Zqu Zqv _) (hp.trans (List.mergeSort_perm _ leV).symm)
 have e:a.1=b.1:=by
  unfold leV at h1 h2
  rw[decide_eq_true_eq] at h1 h2
  have:=Zdk a.1 b.1
  exact (Zf4 _ _).1 (by omega)
 have ha':=hp.mem_iff.1 ha
 have hb':=(List.mergeSort_perm _ leV).mem_iff.1 hb
 have h3:=(Zo9 hk ha').2
 have h4:=(Zo9 hk hb').2
 obtain⟨a1,a2⟩:=a
 obtain⟨b1,b2⟩:=b
 simp only at e h3 h4
 subst e
 rw[h3,h4]
theorem Zum {ns:List (List Nat)} {most:Int} {ps:List Prd} (hk:Zio ns (Zak ps)) (f:List Bool→Bool) :
  (∀ c,(Zbc ns most (Zak ps) ps).find? (fun c=>f c.2)=some c→AsgL ns.length most c.1∧c.2=trU ns ps (gv c.1)∧f (trU ns ps (gv c.1))=true∧∀ u,AsgL ns.length most u→f (trU ns ps (gv u))=true→Ze6 c.1 u≤0) ∧
  ((Zbc ns most (Zak ps) ps).find? (fun c=>f c.2)=none→∀ u,AsgL ns.length most u→f (trU ns ps (gv u))=false):=by
 have hmem:∀ c,c∈Zbc ns most (Zak ps) ps↔c∈Zc6 ns most (Zak ps) ps (2^(Zak ps).length):=fun c=>(List.mergeSort_perm _ leV).mem_iff
 have hsort:(Zbc ns most (Zak ps) ps).Pairwise (fun a b=>leV a b=true):=List.pairwise_mergeSort Zqu Zqv _
 generalize Zbc ns most (Zak ps) ps=L at *
 constructor
 ·intro c hc
  obtain⟨h1,i,hi,h2,h3⟩:=List.find?_eq_some_iff_getElem.1 hc
  have hcm:c∈L:=by rw[← h2];exact List.getElem_mem _
  obtain⟨a1,a2⟩:=Zo9 hk ((hmem c).1 hcm)
  refine⟨a1,a2,by rw[← a2];exact h1,fun u hu hf=>?_⟩
  obtain⟨c',b1,b2,b3⟩:=Zul hk hu
  obtain⟨j,hj,rfl⟩:=List.mem_iff_getElem.1 ((hmem c').2 b1)
  have hij:i≤j:=Nat.le_of_not_lt (fun hlt=>by
   have:=h3 j hlt
   rw[b3,hf] at this
   cases this)
  have hle:Ze6 c.1 L[j].1≤0:=by
   rcases Nat.lt_or_ge i j with h | h
   ·have:=List.pairwise_iff_getElem.1 hsort i j hi hj h
    rw[h2] at this
    exact of_decide_eq_true this
   ·obtain rfl:i=j:=by omega
    rw[h2,(Zf4 c.1 c.1).2 rfl];exact Int.le_refl _
  exact Zf5 _ _ _ hle b2
 ·intro hn u hu
  obtain⟨c',b1,b2,b3⟩:=Zul hk hu
  have:=List.find?_eq_none.1 hn c' ((hmem c').2 b1)
  rw[b3] at this
  simpa using this
end
section
def Zji (b:Nat):Nat→Nat→List Int
 | 0,_=>[]
 | n+1,k=>Zji b n (k/b)++[((k%b:Nat):Int)]
theorem Zir (b:Nat):∀ n k,(Zji b n k).length=n
 | 0,_=>rfl
 | n+1,k=>by unfold Zji;rw[List.length_append,Zir b n];rfl
theorem Zpa (b:Nat) (hb:0<b):∀ n k,∀ x∈Zji b n k,0≤x∧x<(b:Int)
 | 0,_,x,hx=>by cases hx
 | n+1,k,x,hx=>by
  unfold Zji at hx
  rcases List.mem_append.1 hx with h | h
  ·exact Zpa b hb n _ x h
  ·have hm:=Nat.mod_lt k hb
   have:x=((k%b:Nat):Int):=by simpa using h
   omega
theorem Zqw (x y:Int):∀ a b:List Int,a.length=b.length→Ze6 (a++[x]) (b++[y])=if Ze6 a b≠0 then Ze6 a b else Znr x y
 | [],[],_=>by
  show Ze6 [x] [y]=_
  rcases Zbk x y [] [] with ⟨h1,h2⟩ | ⟨h1,h2⟩ | ⟨h1,h2⟩<;>rcases Zjq x y with ⟨h3,h4⟩ | ⟨h3,h4⟩ | ⟨h3,h4⟩<;>first | omega | (rw[h2,h4];simp[Ze6])
 | [],_::_,h=>by simp at h
 | _::_,[],h=>by simp at h
 | p::a,q::b,h=>by
  have ih:=Zqw x y a b (by simpa using h)
  show Ze6 (p::(a++[x])) (q::(b++[y]))=_
  unfold Ze6
  by_cases hz:Znr p q=0
  ·simp[hz,ih]
  ·simp only[hz,ne_eq,not_false_eq_true,if_true]
theorem Zyt (b:Nat) (hb:0<b):∀ n k m,k<m→m<b^n→Ze6 (Zji b n k) (Zji b n m)<0
 | 0,k,m,h,hm=>by simp at hm;omega
 | n+1,k,m,h,hm=>by
  unfold Zji
  rw[Zqw _ _ _ _ (by rw[Zir,Zir])]
  have hd:m/b<b^n:=(Nat.div_lt_iff_lt_mul hb).2 (by rw[← Nat.pow_succ];exact hm)
  rcases Nat.lt_or_ge (k/b) (m/b) with h1 | h1
  ·have:=Zyt b hb n _ _ h1 hd
   rw[if_pos (by omega)];exact this
  ·have e:k/b=m/b:=Nat.le_antisymm (Nat.div_le_div_right (Nat.le_of_lt h)) h1
   rw[e,(Zf4 _ _).2 rfl,if_neg (by simp)]
   have h2:=Nat.div_add_mod k b
   have h3:=Nat.div_add_mod m b
   rw[e] at h2
   rcases Zjq ((k%b:Nat):Int) ((m%b:Nat):Int) with ⟨h4,h5⟩ | ⟨h4,h5⟩ | ⟨h4,h5⟩<;>omega
theorem Zyu (b:Nat) (hb:0<b):∀ (n:Nat) (l:List Int),l.length=n→(∀ x∈l,0≤x∧x<(b:Int))→∃ k,k<b^n∧Zji b n k=l
 | 0,l,hl,_=>⟨0,by simp,by cases l with | nil=>rfl | cons _ _=>simp at hl⟩
 | n+1,l,hl,hx=>by
  have hne:l≠[]:=by intro e;rw[e] at hl;simp at hl
  obtain⟨k,hk,he⟩:=Zyu b hb n l.dropLast (by rw[List.length_dropLast,hl];omega) (fun x h=>hx x (List.dropLast_subset l h))
  have h1:=hx (l.getLast hne) (List.getLast_mem hne)
  refine⟨k*b+(l.getLast hne).toNat,?_,?_⟩
  ·have:(k+1)*b≤b^n*b:=Nat.mul_le_mul_right _ hk
   rw[Nat.pow_succ]
   have e:(k+1)*b=k*b+b:=by rw[Nat.add_mul,Nat.one_mul]
   omega
  ·have hlt:(l.getLast hne).toNat<b:=by omega
   unfold Zji
   rw[Nat.mul_comm k b,Nat.mul_add_div hb,Nat.div_eq_of_lt hlt,Nat.add_zero,Nat.mul_add_mod,Nat.mod_eq_of_lt hlt,he,Int.toNat_of_nonneg h1.1]
   exact List.dropLast_concat_getLast hne
def Zcq (n:Nat) (most:Nat) (k:Nat):List Int:=0::Zji (most+1) n k
theorem Zld (n most:Nat) (v:List Int):AsgL n (most:Int) v↔∃ k,k<(most+1)^n∧v=Zcq n most k:=by
 constructor
 ·intro h
  cases v with
  | nil=>have:=h.len;simp at this
  | cons x l =>
   have hl:l.length=n:=by have:=h.len;simpa using this
   have h0:x=0:=h.asg.zero
   obtain⟨k,hk,he⟩:=Zyu (most+1) (by omega) n l hl (fun y hy=>by
    obtain⟨i,hi,rfl⟩:=List.mem_iff_getElem.1 hy
    have:=h.asg.rng i (by omega)
    have e:gv (x::l) (i+1)=l[i]:=by
     unfold gv
     rw[List.getD_eq_getElem?_getD,List.getElem?_cons_succ,List.getElem?_eq_getElem hi];rfl
    rw[e] at this
    omega)
   exact⟨k,hk,by unfold Zcq;rw[he,h0]⟩
 ·rintro⟨k,hk,rfl⟩
  have hl:=Zir (most+1) n k
  refine⟨by unfold Zcq;simp[hl],rfl,fun i hi=>?_⟩
  have e:gv (Zcq n most k) (i+1)=(Zji (most+1) n k)[i]'(by omega):=by
   unfold gv Zcq
   rw[List.getD_eq_getElem?_getD,List.getElem?_cons_succ,List.getElem?_eq_getElem (by omega)];rfl
  have:=Zpa (most+1) (by omega) n k _ (List.getElem_mem (by omega:i<(Zji (most+1) n k).length))
  rw[e]
  omega
theorem Z6g (n most k m:Nat) (h:k<m) (hm:m<(most+1)^n):Ze6 (Zcq n most k) (Zcq n most m)<0:=by
 have:=Zyt (most+1) (by omega) n k m h hm
 unfold Zcq
 rcases Zbk 0 0 (Zji (most+1) n k) (Zji (most+1) n m) with ⟨h1,h2⟩ | ⟨h1,h2⟩ | ⟨h1,h2⟩<;>omega
def Zb2 (g:Nat→Bool) (m:Nat):Option Nat:=(List.range m).find? g
theorem Zqx {n most:Nat} (f:List Int→Bool) {v:List Int} (hv:AsgL n (most:Int) v) (hf:f v=true) (hmin:∀ u,AsgL n (most:Int) u→f u=true→Ze6 v u≤0) :
  ∃ k,k<(most+1)^n∧v=Zcq n most k∧f (Zcq n most k)=true∧∀ j,j<k→f (Zcq n most j)=false:=by
 obtain⟨k,hk,rfl⟩:=(Zld n most v).1 hv
 refine⟨k,hk,rfl,hf,fun j hj=>?_⟩
 cases hfj:f (Zcq n most j) with
 | false=>rfl
 | true =>
  have h1:=hmin _ ((Zld n most _).2 ⟨j,by omega,rfl⟩) hfj
  have h2:=Z6g n most j k hj hk
  have h3:=Zdk (Zcq n most j) (Zcq n most k)
  omega
def Zqy (g:Nat→Bool):Nat→Nat
 | 0=>0
 | m+1=>Zqy g m+(if g m=true then 1 else 0)
theorem Zun (g:Nat→Bool) (a:Nat):∀ b,Zqy g (a+b)=Zqy g a+Zqy (fun j=>g (a+j)) b
 | 0=>rfl
 | b+1=>by
  show Zqy g (a+b)+(if g (a+b)=true then 1 else 0)=Zqy g a+(Zqy (fun j=>g (a+j)) b+(if g (a+b)=true then 1 else 0))
  rw[Zun g a b];omega
theorem Zjr {g h:Nat→Bool}:∀ m,(∀ j,j<m→g j=h j)→Zqy g m=Zqy h m
 | 0,_=>rfl
 | m+1,e=>by unfold Zqy;rw[Zjr m (fun j hj=>e j (by omega)),e m (by omega)]
theorem Zn2 (g:Nat→Bool) (b:Bool):∀ m,(∀ j,j<m→g j=b)→Zqy g m=if b=true then m else 0
 | 0,_=>by cases b<;>rfl
 | m+1,e=>by
  unfold Zqy
  rw[Zn2 g b m (fun j hj=>e j (by omega)),e m (by omega)]
  cases b<;>simp
def Zis (f:List Int→Bool) (most:Nat):Nat→List Int→Nat
 | 0,v=>if f v=true then 1 else 0
 | r+1,v=>sumA (fun x=>Zis f most r (v++[(x:Int)])) (most+1)
where sumA (g:Nat→Nat):Nat→Nat
 | 0=>0
 | m+1=>sumA g m+g m
theorem Zuo (g:Nat→Bool):∀ m,Zis.sumA (fun x=>if g x=true then 1 else 0) m=Zqy g m
 | 0=>rfl
 | m+1=>by unfold Zis.sumA Zqy;rw[Zuo g m]
end
section
def Zpb (ns:List (List Nat)) (v:List Int) (at':Nat) (k:Ky):List Int :=
 if Zco ns k.l=at' then [gv v (Zco ns k.r)+k.c+1] else if Zco ns k.r=at' then [gv v (Zco ns k.l)-k.c] else []
def Zeb (ns:List (List Nat)) (v:List Int) (at':Nat) (most:Int) (ks:List Ky):List Int:=[0,most+1]++ks.flatMap (Zpb ns v at')
def inT (most:Int) (t:Int):Bool:=!(decide (t<0)||decide (most+1<t))
def leI (a b:Int):Bool:=decide (a≤b)
def Zcf (ns:List (List Nat)) (v:List Int) (at':Nat) (most:Int) (ks:List Ky):List Int:=((Zeb ns v at' most ks).filter (inT most)).mergeSort leI
def Z5q (g:Int→Bool):List Int→Int
 | t::t2::ts=>(if g t=true then t2-t else 0)+Z5q g (t2::ts)
 | _=>0
theorem Zup (g:Int→Bool) (h:Nat→Bool) (hg:∀ x:Nat,g (x:Int)=h x) (M:Nat):∀ (L:List Int) (a:Nat),L.Pairwise (fun x y=>leI x y=true)→L.head?=some (a:Int)→L.getLast?=some (M:Int)→(∀ t∈L,0≤t) →
  (∀ (x t:Int),a≤x→x<M→t≤x→t∈L→(∀ s∈L,s≤t∨x<s)→g x=g t)→a≤M→Z5q g L=((Zqy (fun j=>h (a+j)) (M-a):Nat):Int)
 | [],a,_,h1,_,_,_,_=>by cases h1
 | [t],a,_,h1,h2,_,_,_=>by
  simp only[List.head?_cons,Option.some.injEq] at h1
  simp only[List.getLast?_singleton,Option.some.injEq] at h2
  have:M-a=0:=by omega
  rw[this]
  rfl
 | t::t2::ts,a,hs,h1,h2,hp,hc,hle=>by
  simp only[List.head?_cons,Option.some.injEq] at h1
  subst h1
  have hs':=List.pairwise_cons.1 hs
  have h12:(a:Int)≤t2:=of_decide_eq_true (hs'.1 t2 (by simp))
  obtain⟨b,rfl⟩:∃ b:Nat,t2=(b:Int):=⟨t2.toNat,by omega⟩
  have hl2:((b:Int)::ts).getLast?=some (M:Int):=by rw[List.getLast?_cons_cons] at h2;exact h2
  have hbM:b≤M:=by
   have hm:(M:Int)∈(b:Int)::ts:=List.mem_of_getLast? hl2
   rcases List.mem_cons.1 hm with e | e
   ·omega
   ·have:=of_decide_eq_true ((List.pairwise_cons.1 hs'.2).1 _ e)
    omega
  have ih:=Zup g h hg M ((b:Int)::ts) b hs'.2 rfl hl2 (fun x hx=>hp x (List.mem_cons_of_mem _ hx)) (fun x t hx1 hx2 hx3 ht hx4=>hc x t (by omega) hx2 hx3 (List.mem_cons_of_mem _ ht) (fun s hs2=>by
   rcases List.mem_cons.1 hs2 with rfl | hs2
   ·left
    have:(b:Int)≤t:=by
     rcases List.mem_cons.1 ht with e | e
     ·omega
     ·exact of_decide_eq_true ((List.pairwise_cons.1 hs'.2).1 _ e)
    omega
   ·exact hx4 s hs2)) hbM
  show (if g (a:Int)=true then (b:Int)-(a:Int) else 0)+Z5q g ((b:Int)::ts)=_
  rw[ih,show M-a=(b-a)+(M-b) by omega,Zun,Zn2 (fun j=>h (a+j)) (g (a:Int)) (b-a) (fun j hj=>by
   rw[← hg]
   exact hc _ (a:Int) (by omega) (by omega) (by omega) (by simp) (fun s hs2=>by
    rcases List.mem_cons.1 hs2 with e | hs2
    ·left;omega
    ·right
     have:(b:Int)≤s:=by
      rcases List.mem_cons.1 hs2 with e | e
      ·omega
      ·exact of_decide_eq_true ((List.pairwise_cons.1 hs'.2).1 _ e)
     omega))]
  have e2:Zqy (fun j=>h (a+(b-a+j))) (M-b)=Zqy (fun j=>h (b+j)) (M-b):=Zjr _ (fun j _=>by rw[show a+(b-a+j)=b+j by omega])
  rw[e2]
  cases g (a:Int)<;>simp<;>omega
theorem Zyv (a b c:Int) (h1:leI a b=true) (h2:leI b c=true):leI a c=true:=by
 unfold leI at *;rw[decide_eq_true_eq] at *;omega
theorem Zyw (a b:Int):(leI a b||leI b a)=true:=by
 unfold leI;rw[Bool.or_eq_true,decide_eq_true_eq,decide_eq_true_eq];omega
theorem Zg2 (ns:List (List Nat)) (v:List Int) (at':Nat) (most:Int) (ks:List Ky) (t:Int):t∈Zcf ns v at' most ks↔(t∈Zeb ns v at' most ks)∧0≤t∧t≤most+1:=by
 unfold Zcf
 rw[(List.mergeSort_perm _ leI).mem_iff,List.mem_filter]
 unfold inT
 simp
theorem Zj9 (ns:List (List Nat)) (v:List Int) (at':Nat) (most:Int) (ks:List Ky):(Zcf ns v at' most ks).Pairwise (fun x y=>leI x y=true):=List.pairwise_mergeSort Zyv Zyw _
theorem Zv4 {L:List Int} {a:Int} (hs:L.Pairwise (fun x y=>leI x y=true)) (ha:a∈L) (hmin:∀ t∈L,a≤t):L.head?=some a:=by
 cases L with
 | nil=>cases ha
 | cons x l =>
  have h1:=hmin x (by simp)
  rcases List.mem_cons.1 ha with e | e
  ·rw[e];rfl
  ·have:=of_decide_eq_true ((List.pairwise_cons.1 hs).1 a e)
   have:x=a:=by omega
   rw[this];rfl
theorem Zit:∀ {L:List Int} {a:Int},L.Pairwise (fun x y=>leI x y=true)→a∈L→(∀ t∈L,t≤a)→L.getLast?=some a
 | [],a,_,ha,_=>by cases ha
 | [x],a,_,ha,_=>by
  have:a=x:=by simpa using ha
  rw[this];rfl
 | x::y::l,a,hs,ha,hmax=>by
  rw[List.getLast?_cons_cons]
  have hs':=List.pairwise_cons.1 hs
  refine Zit hs'.2 ?_ (fun t ht=>hmax t (List.mem_cons_of_mem _ ht))
  rcases List.mem_cons.1 ha with e | e
  ·have h1:=of_decide_eq_true (hs'.1 y (by simp))
   have h2:=hmax y (by simp)
   have:a=y:=by omega
   rw[this];simp
  ·exact e
theorem Zjs (v:List Int) (x:Int) (i:Nat):gv (v++[x]) i=if i<v.length then gv v i else if i=v.length then x else 0:=by
 unfold gv
 rw[List.getD_eq_getElem?_getD,List.getD_eq_getElem?_getD,List.getElem?_append]
 by_cases h:i<v.length
 ·rw[if_pos h,if_pos h]
 ·rw[if_neg h,if_neg h]
  by_cases h2:i=v.length
  ·rw[if_pos h2,h2,Nat.sub_self];rfl
  ·rw[if_neg h2,List.getElem?_eq_none (by simp;omega)];rfl
theorem Zuq {ns:List (List Nat)} {s t:List Nat} (hs:Ze4 ns s=true) (ht:Ze4 ns t=true) (h:Zco ns s=Zco ns t):s=t:=by
 unfold Zco at h
 unfold Ze4 at hs ht
 rw[Bool.or_eq_true,beq_iff_eq] at hs ht
 by_cases e1:s=[]
 ·rw[if_pos e1] at h
  by_cases e2:t=[]
  ·rw[e1,e2]
  ·rw[if_neg e2] at h;omega
 ·rw[if_neg e1] at h
  by_cases e2:t=[]
  ·rw[if_pos e2] at h;omega
  ·rw[if_neg e2] at h
   have h1:s∈ns:=by rcases hs with hs | hs;exact absurd hs e1;simpa using hs
   have h2:t∈ns:=by rcases ht with ht | ht;exact absurd ht e2;simpa using ht
   have e3:=List.getElem_idxOf (List.idxOf_lt_length_iff.2 h1)
   have e4:=List.getElem_idxOf (List.idxOf_lt_length_iff.2 h2)
   have:ns.idxOf s=ns.idxOf t:=by omega
   rw[← e3,← e4]
   simp only[this]
theorem Zv5 {ns:List (List Nat)} {ps:List Prd} {p:Prd} (hp:p∈ps) (hk:Zio ns (Zak ps)) {v:List Int} (hv:v.length=ns.length) {most:Int} (x t:Int) (h0:0≤t) (hx:x≤most) (htx:t≤x)
  (hbet:∀ s∈Zcf ns v ns.length most (Zak ps),s≤t∨x<s):Zav (fK ns (gv (v++[x]))) p=Zav (fK ns (gv (v++[t]))) p:=by
 refine Zl7 (fun k hk2=>?_) p hp
 have hcon:Zsr k=false:=((Zip _ k).1 hk2).1
 obtain⟨hl,hr⟩:=hk k hk2
 have hle:=Zfs hl
 have hre:=Zfs hr
 have hne:Zco ns k.l≠Zco ns k.r:=fun e=>by
  have:=Zuq hl hr e
  unfold Zsr at hcon
  rw[this] at hcon
  simp at hcon
 have hnb:∀ s∈Zpb ns v ns.length k,0≤s→s≤most+1→s≤t∨x<s:=fun s hs h1 h2=>hbet s ((Zg2 _ _ _ _ _ _).2 ⟨List.mem_append_right _ (List.mem_flatMap.2 ⟨k,hk2,hs⟩),h1,h2⟩)
 unfold Zpb at hnb
 unfold fK
 rw[Zjs,Zjs,Zjs,Zjs,hv]
 by_cases h1:Zco ns k.l=ns.length
 ·rw[if_pos h1] at hnb
  have h3:=hnb _ (List.mem_singleton.2 rfl)
  rw[if_neg (by omega),if_pos h1,if_pos (by omega),if_neg (by omega),if_pos h1,if_pos (by omega)]
  by_cases hd:x-gv v (Zco ns k.r)≤k.c
  ·rw[decide_eq_true hd,decide_eq_true (by omega)]
  ·rw[decide_eq_false hd,decide_eq_false (by omega)]
 ·rw[if_neg h1] at hnb
  by_cases h2:Zco ns k.r=ns.length
  ·rw[if_pos h2] at hnb
   have h3:=hnb _ (List.mem_singleton.2 rfl)
   rw[if_pos (by omega),if_neg (by omega),if_pos h2,if_pos (by omega),if_neg (by omega),if_pos h2]
   by_cases hd:gv v (Zco ns k.l)-x≤k.c
   ·rw[decide_eq_true hd,decide_eq_true (by omega)]
   ·rw[decide_eq_false hd,decide_eq_false (by omega)]
  ·rw[if_pos (by omega),if_pos (by omega),if_pos (by omega),if_pos (by omega)]
theorem Zyx {ns:List (List Nat)} {ps:List Prd} {p:Prd} (hp:p∈ps) (hk:Zio ns (Zak ps)) {v:List Int} (hv:v.length=ns.length) (most:Nat) :
  Z5q (fun x=>Zav (fK ns (gv (v++[x]))) p) (Zcf ns v ns.length (most:Int) (Zak ps))=((Zis (fun u=>Zav (fK ns (gv u)) p) most 1 v:Nat):Int):=by
 have hmem:=Zg2 ns v ns.length (most:Int) (Zak ps)
 have hs:=Zj9 ns v ns.length (most:Int) (Zak ps)
 have h1:(0:Int)∈Zcf ns v ns.length (most:Int) (Zak ps):=(hmem 0).2 ⟨by simp[Zeb],by omega,by omega⟩
 have h2:((most+1:Nat):Int)∈Zcf ns v ns.length (most:Int) (Zak ps):=(hmem _).2 ⟨by simp[Zeb],by omega,by omega⟩
 have:=Zup (fun x=>Zav (fK ns (gv (v++[x]))) p) (fun x=>Zav (fK ns (gv (v++[(x:Int)]))) p) (fun x=>rfl) (most+1) (Zcf ns v ns.length (most:Int) (Zak ps)) 0 hs
  (Zv4 hs h1 (fun t ht=>((hmem t).1 ht).2.1)) (Zit hs h2 (fun t ht=>by have:=((hmem t).1 ht).2.2;omega)) (fun t ht=>((hmem t).1 ht).2.1)
  (fun x t hx1 hx2 hx3 ht hb=>Zv5 hp hk hv x t ((hmem t).1 ht).2.1 (by omega) hx3 hb) (by omega)
 rw[this]
 congr 1
 show _=Zis.sumA (fun x=>if Zav (fK ns (gv (v++[(x:Int)]))) p=true then 1 else 0) (most+1)
 rw[Zuo]
 refine Zjr _ (fun j _=>?_)
 rw[Nat.zero_add]
end
end Go.Proofs.YtmkdfbelbcocpaaGreatDoor
