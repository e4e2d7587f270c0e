import Derived.Deep.Quiet
import Derived.Lib.QuietBelow
import Derived.Test.YtmkdfbelbcocpaaGreatDoorCS19
import Derived.Test.YtmkdfbelbcocpaaGreatDoorCS12
import Derived.Shelf.SlSortCmp.Whole1
import Derived.Shelf.SlSortCmp.NoneTotal
import Derived.Test.YtmkdfbelbcocpaaGreatDoorShelf
import Derived.Test.YtmkdfbelbcocpaaGreatDoorCS0
import Derived.Test.YtmkdfbelbcocpaaGreatDoorCS14
set_option linter.unusedVariables false
set_option linter.unusedSimpArgs false
namespace Go.Proofs.YtmkdfbelbcocpaaGreatDoor
section
open Go.RowKit Go.Sort
theorem Z8d {f:FuncId} {args:Array Value} {v:Value} (w:World) (h:∀ W:World,Below w.heap.size w W→Calls Tryz.prog f args W fun e w'=>e = .returned v∧Below W.heap.size W w') (d:Nat) (os:Array Obj) :
  Calls Tryz.prog f args (grow (redrawn w d) os) fun e w''=>e = .returned v∧∃ p:Regrown,w''=grow (redrawn w p.d) p.os :=
 Calls.regrown_of (h _ (below_regrown w d os))
end
section
open Go.RowKit Go.Sort
section
variable {α:Type}
def Zvg (EL:World→(Nat→Prop)→α→List Value→Prop):Prop :=
 ∀ (w w':World) (P P':Nat→Prop) (x:α) (vs:List Value),(∀ g,P g→g<w.heap.size→w'.heap[g]?=w.heap[g]?)→w.heap.size≤w'.heap.size→(∀ g,P g→g<w.heap.size→P' g)→EL w P x vs→EL w' P' x vs
structure RowM (EL:World→(Nat→Prop)→α→List Value→Prop) (k base:Nat) (wr:World) (lo:Nat) (bad:Nat→Prop) (ao:Option Addr) (n cp:Nat) (xs:List α) (vss:List (List Value)):Prop where
 own:OwnK wr lo k n cp vss.flatten ao
 len:vss.length=xs.length
 cnt:n=xs.length
 elk:∀ vs∈vss,vs.length=k
 each:∀ (i:Nat) (x:α) (vs:List Value),xs[i]?=some x→vss[i]?=some vs→EL wr (fun g=>base≤g∧¬ bad g∧blk ao≠some g) x vs
variable {EL:World→(Nat→Prop)→α→List Value→Prop} {k base:Nat}
theorem RowM.nil (wr:World) (lo:Nat) (bad:Nat→Prop):RowM EL k base wr lo bad none 0 0 [] [] :=
 ⟨.nil rfl rfl rfl,rfl,rfl,fun vs h=>absurd h List.not_mem_nil,fun i x vs h=>by simp at h⟩
theorem RowM.turn (hE:Zvg EL) {wr w':World} {lo:Nat} {bad:Nat→Prop} {ao:Option Addr} {n cp:Nat} {xs:List α} {vss:List (List Value)} (h:RowM EL k base wr lo bad ao n cp xs vss) {p:Nat→Prop} (hb:Only wr w' p)
  (hp:∀ g,p g→bad g∨g<base) (ho:∀ g,blk ao=some g→¬ p g):RowM EL k base w' lo bad ao n cp xs vss:=by
 refine⟨h.own.of_block (fun g e hl=>hb.block g hl (ho g e)) hb.size,h.len,h.cnt,h.elk,fun i x vs hx hv=>hE _ _ _ _ _ _ (fun g hg hl=>hb.block g hl (fun hh=>?_)) hb.size (fun g hg _=>hg) (h.each i x vs hx hv)⟩
 rcases hp g hh with h1 | h1
 ·exact hg.2.1 h1
 ·have:=hg.1;omega
theorem RowM.step (hE:Zvg EL) {wr w':World} {lo:Nat} {bad:Nat→Prop} {ao:Option Addr} {n cp:Nat} {xs:List α} {vss:List (List Value)} (h:RowM EL k base wr lo bad ao n cp xs vss) (hb:Below wr.heap.size wr w'):RowM EL k base w' lo bad ao n cp xs vss :=
 h.turn hE (Only.of_below (p:=fun _=>False) hb) (fun g h=>h.elim) (fun g _ h=>h.elim)
theorem RowM.add (hE:Zvg EL) {w0 w2 wa:World} {lo:Nat} {bad:Nat→Prop} {ao:Option Addr} {n cp g5 off5 c5:Nat} {xs:List α} {vss:List (List Value)} {x:α} {vs:List Value} (h:RowM EL k base w2 lo bad ao n cp xs vss)
  (hao:∀ g,blk ao=some g→g<w0.heap.size) (hb0:base≤w0.heap.size) (hbad:∀ g,bad g→g<w0.heap.size)
  (hx:EL w2 (fun g=>w0.heap.size≤g) x vs) (hk:vs.length=k) (ho:OwnK wa lo k (n+1) c5 (vss.flatten++vs) (some ⟨g5,off5,none⟩)) (hg:w2.grownBy wa (blk ao)) (hor:blk ao=some g5∨w2.heap.size≤g5) :
  RowM EL k base wa lo bad (some ⟨g5,off5,none⟩) (n+1) c5 (xs++[x]) (vss++[vs]):=by
 have hnew:∀ g,blk ao≠some g→g<w2.heap.size→blk (some (⟨g5,off5,none⟩:Addr))≠some g:=fun g hb hl e=>by
  have e':g5=g:=Option.some.inj e
  subst e'
  rcases hor with h1 | h1
  ·exact hb h1
  ·omega
 refine⟨by rw[List.flatten_append];simpa using ho,by rw[List.length_append,List.length_append,h.len];rfl,by rw[List.length_append,← h.cnt];rfl,fun us hu=>?_,?_⟩
 ·rcases List.mem_append.1 hu with hu | hu
  ·exact h.elk us hu
  ·rw[List.mem_singleton] at hu;subst hu;exact hk
 intro i y us hq hu
 have hlen:=h.len
 by_cases hi:i<xs.length
 ·rw[List.getElem?_append_left hi] at hq
  rw[List.getElem?_append_left (by omega)] at hu
  exact hE w2 wa (fun g=>base≤g∧¬ bad g∧blk ao≠some g) _ y us (fun g hx hl=>hg.block g hl (fun e=>hx.2.2 e.symm)) hg.size (fun g hx hl=>⟨hx.1,hx.2.1,hnew g hx.2.2 hl⟩) (h.each i y us hq hu)
 ·rw[List.getElem?_append_right (by omega)] at hq hu
  have hi1:i=xs.length:=by
   have:=(List.getElem?_eq_some_iff.1 hq).1
   simp at this
   omega
  subst hi1
  rw[Nat.sub_self] at hq
  rw[hlen,Nat.sub_self] at hu
  obtain rfl:x=y:=by simpa using hq
  obtain rfl:vs=us:=by simpa using hu
  have hne:∀ g,w0.heap.size≤g→blk ao≠some g:=fun g hge e=>by
   have:=hao g e
   omega
  exact hE w2 wa (fun g=>w0.heap.size≤g) _ x vs (fun g hx hl=>hg.block g hl (fun e=>hne g hx e.symm)) hg.size (fun g hx hl=>⟨Nat.le_trans hb0 hx,fun hb=>by have:=hbad g hb;omega,hnew g (hne g hx) hl⟩) hx
theorem Zm5 (k:Nat):∀ (vss:List (List Value)),(∀ vs∈vss,vs.length=k)→∀ (i j:Nat) (vs:List Value),vss[i]?=some vs→j<k→vss.flatten[i*k+j]?=vs[j]?
 | [],_,i,j,vs,h,_=>by simp at h
 | us::vss,hk,0,j,vs,h,hj=>by
  obtain rfl:us=vs:=by simpa using h
  have:=hk us (List.mem_cons_self ..)
  rw[List.flatten_cons,List.getElem?_append_left (by omega)]
  congr 1;omega
 | us::vss,hk,i+1,j,vs,h,hj=>by
  have hl:=hk us (List.mem_cons_self ..)
  rw[List.flatten_cons,List.getElem?_append_right (by rw[hl,Nat.add_mul];omega),hl]
  rw[← Zm5 k vss (fun x hx=>hk x (List.mem_cons_of_mem _ hx)) i j vs (by simpa using h) hj]
  congr 1
  rw[Nat.add_mul];omega
theorem RowM.at {wr:World} {lo:Nat} {bad:Nat→Prop} {ao:Option Addr} {n cp:Nat} {xs:List α} {vss:List (List Value)} (h:RowM EL k base wr lo bad ao n cp xs vss) (i:Nat) (x:α) (hx:xs[i]?=some x) :
  ∃ g off vs,ao=some ⟨g,off,none⟩∧g<wr.heap.size∧lo≤g∧vss[i]?=some vs∧vs.length=k∧Za2 wr g (off+i*k) vs∧EL wr (fun g=>base≤g∧¬ bad g∧blk ao≠some g) x vs:=by
 have hi:=(List.getElem?_eq_some_iff.1 hx).1
 have hil:i<vss.length:=by rw[h.len];exact hi
 have hv:vss[i]?=some vss[i]:=List.getElem?_eq_getElem hil
 have hk:=h.elk vss[i] (List.getElem_mem hil)
 have hO:=h.own
 cases hao:ao with
 | none =>
  rw[hao] at hO
  cases hO with
  | nil h1 h2 h3=>have:=h.cnt;omega
 | some a =>
  rw[hao] at hO
  obtain⟨g,off,si⟩:=a
  cases hO with
  | «at» g off h1 h2 h3 h4 =>
   refine⟨g,off,vss[i],rfl,h1.lt,h1.own,hv,hk,fun j u hj=>?_,hao ▸ h.each i x _ hx hv⟩
   have hjk:=(List.getElem?_eq_some_iff.1 hj).1
   have:=h1.cells (i*k+j) u (by rw[Zm5 k vss h.elk i j _ hv (by omega)];exact hj)
   rwa [← Nat.add_assoc] at this
end
structure Chc where
 need:Int
 atoms:List Prd
end
section
open Go.RowKit Go.Shelf Go.Sort
section
variable {α:Type} [Inhabited α] (enc:α→Value)
end
theorem Zp3 {α:Type} {p:α→Prop}:∀ (l:List α),(∀ x∈l,p x)→∃ d:List {x // p x},d.map (·.1)=l
 | [],_=>⟨[],rfl⟩
 | x::l,h=>by
  obtain⟨d,hd⟩:=Zp3 l (fun y hy=>h y (List.mem_cons_of_mem _ hy))
  exact⟨⟨x,h x (List.mem_cons_self ..)⟩::d,by rw[List.map_cons,hd]⟩
end
section
theorem Zyu:∀ (j a i:Nat),a.testBit j=false→(a+2^j).testBit i=(decide (i=j)||a.testBit i)
 | 0,a,i,h=>by
  have h0:a%2=0:=by simpa [Nat.testBit_zero] using h
  cases i with
  | zero=>simp[Nat.testBit_zero];omega
  | succ i =>
   rw[Nat.testBit_succ,Nat.testBit_succ,show (a+2^0)/2=a/2 by simp;omega]
   simp
 | j+1,a,i,h=>by
  rw[Nat.testBit_succ] at h
  have e:(a+2^(j+1))/2=a/2+2^j:=by rw[Nat.pow_succ];omega
  cases i with
  | zero=>simp[Nat.testBit_zero,Nat.pow_succ]
  | succ i =>
   rw[Nat.testBit_succ,Nat.testBit_succ,e,Zyu j (a/2) i h]
   simp
end
section
mutual
theorem Zjk (f g:Ky→Bool):∀ p,(∀ k∈Zbx p,f k=true→g k=true)→Zas f p=true→Zas g p=true
 | .mk k l r c ks,h,ht=>by
  rw[Zas] at ht ⊢
  have hL:∀ x∈Zby ks,f x=true→g x=true:=fun x hx=>h x (by unfold Zbx;exact List.mem_append_right _ hx)
  have hc:=Ztx f g ks hL
  have hle:=Zyc g ks
  by_cases h0:k=0
  ·rw[if_pos h0] at ht ⊢
   exact h _ (by unfold Zbx;simp[h0]) ht
  ·rw[if_neg h0] at ht ⊢
   by_cases h1:k=1
   ·rw[if_pos h1] at ht ⊢
    rw[beq_iff_eq] at ht ⊢
    omega
   ·rw[if_neg h1] at ht ⊢
    by_cases h2:k=2
    ·rw[if_pos h2,decide_eq_true_eq] at ht ⊢
     omega
    ·rw[if_neg h2,decide_eq_true_eq] at ht ⊢
     omega
theorem Ztx (f g:Ky→Bool):∀ ks,(∀ k∈Zby ks,f k=true→g k=true)→Zim f ks≤Zim g ks
 | [],_=>by simp[Zim]
 | p::ps,h=>by
  have h1:=Zjk f g p (fun k hk=>h k (by unfold Zby;exact List.mem_append_left _ hk))
  have h2:=Ztx f g ps (fun k hk=>h k (by unfold Zby;exact List.mem_append_right _ hk))
  rw[Zim,Zim]
  by_cases ht:Zas f p=true
  ·rw[if_pos ht,if_pos (h1 ht)];omega
  ·rw[if_neg ht];omega
end
theorem Zlf {f g:Ky→Bool} {p:Prd} (h:∀ k∈Zbx p,f k=g k):Zas f p=Zas g p:=by
 have h1:=Zjk f g p (fun k hk e=>by rw[← h k hk];exact e)
 have h2:=Zjk g f p (fun k hk e=>by rw[h k hk];exact e)
 cases hf:Zas f p with
 | true=>rw[h1 hf]
 | false =>
  cases hg:Zas g p with
  | false=>rfl
  | true=>rw[h2 hg] at hf;cases hf
theorem Zyv:∀ (n:Nat) (g:Nat→Bool),∃ a,a<2^n∧∀ j,j<n→a.testBit j=g j
 | 0,g=>⟨0,by simp,fun j hj=>absurd hj (Nat.not_lt_zero _)⟩
 | n+1,g=>by
  obtain⟨a,h1,h2⟩:=Zyv n g
  have hb:a.testBit n=false:=Nat.testBit_lt_two_pow h1
  cases hg:g n with
  | false =>
   refine⟨a,by rw[Nat.pow_succ];omega,fun j hj=>?_⟩
   rcases Nat.lt_succ_iff_lt_or_eq.1 hj with h | rfl
   ·exact h2 j h
   ·rw[hb,hg]
  | true =>
   refine⟨a+2^n,by rw[Nat.pow_succ];omega,fun j hj=>?_⟩
   rw[Zyu n a j hb]
   rcases Nat.lt_succ_iff_lt_or_eq.1 hj with h | rfl
   ·rw[h2 j h];simp;intro e;omega
   ·simp[hg]
end
section
def Zcp (ns:List (List Nat)) (s:List Nat):Nat:=if s=[] then 0 else ns.idxOf s+1
def Zfg (ns:List (List Nat)) (s:List Nat):Bool:=s==[]||ns.contains s
theorem Zfy {ns:List (List Nat)} {s:List Nat} (h:Zfg ns s=true):Zcp ns s<ns.length+1:=by
 unfold Zcp
 by_cases e:s=[]
 ·rw[if_pos e];omega
 ·rw[if_neg e]
  unfold Zfg at h
  rw[Bool.or_eq_true,beq_iff_eq] at h
  rcases h with h | h
  ·exact absurd h e
  ·have:=List.idxOf_lt_length_iff.2 (by simpa using h:s∈ns)
   omega
def Zgl (ns:List (List Nat)) (k:Ky):Con:=⟨Zcp ns k.l,Zcp ns k.r,k.c⟩
def Ze8 (most:Int):Nat→List Con
 | 0=>[]
 | i+1=>Ze8 most i++[⟨0,i+1,0⟩,⟨i+1,0,most⟩]
theorem Zhs (most:Int):∀ n,(Ze8 most n).length=2*n
 | 0=>rfl
 | n+1=>by unfold Ze8;rw[List.length_append,Zhs most n];simp;omega
theorem Zd1 (most:Int) (c:Con):∀ n,c∈Ze8 most n↔∃ i,i<n∧(c=⟨0,i+1,0⟩∨c=⟨i+1,0,most⟩)
 | 0=>by simp[Ze8]
 | n+1=>by
  unfold Ze8
  rw[List.mem_append,Zd1 most c n]
  constructor
  ·rintro (⟨i,hi,h⟩ | h)
   ·exact⟨i,by omega,h⟩
   ·exact⟨n,by omega,by simpa using h⟩
  ·rintro⟨i,hi,h⟩
   rcases Nat.lt_succ_iff_lt_or_eq.1 hi with h1 | rfl
   ·exact .inl ⟨i,h1,h⟩
   ·exact .inr (by simpa using h)
def Zcq (ns:List (List Nat)) (most:Int) (ks:List Ky):List Con:=ks.map (Zgl ns)++Ze8 most ns.length
def Ziq (ns:List (List Nat)) (ks:List Ky):Prop:=∀ k∈ks,Zfg ns k.l=true∧Zfg ns k.r=true
theorem Zfo {ns:List (List Nat)} {ks:List Ky} (h:Ziq ns ks) (most:Int):InC (ns.length+1) (Zcq ns most ks):=by
 intro c hc
 unfold Zcq at hc
 rcases List.mem_append.1 hc with hc | hc
 ·obtain⟨k,hk,rfl⟩:=List.mem_map.1 hc
  exact⟨Zfy (h k hk).1,Zfy (h k hk).2⟩
 ·obtain⟨i,hi,h1 | h1⟩:=(Zd1 most c ns.length).1 hc
  ·subst h1;exact⟨by simp,by simp only;omega⟩
  ·subst h1;exact⟨by simp only;omega,by simp⟩
def fK (ns:List (List Nat)) (u:Nat→Int) (k:Ky):Bool:=decide (u (Zcp ns k.l)-u (Zcp ns k.r)≤k.c)
theorem Zty (ns:List (List Nat)) (u:Nat→Int) (k:Ky):fK ns u (Zh6 k)=!fK ns u k:=by
 unfold fK Zh6
 by_cases h:u (Zcp ns k.l)-u (Zcp ns k.r)≤k.c
 ·rw[decide_eq_true h];simp only[Bool.not_true,decide_eq_false_iff_not];omega
 ·rw[decide_eq_false h];simp only[Bool.not_false,decide_eq_true_eq];omega
structure AsgN (n:Nat) (most:Int) (u:Nat→Int):Prop where
 zero:u 0=0
 rng:∀ i,i<n→0≤u (i+1)∧u (i+1)≤most
theorem Zjl {ns:List (List Nat)} {most:Int} {ks:List Ky} {u:Nat→Int}:SolC (ns.length+1) (Zcq ns most ks) u↔AsgN ns.length most u∧∀ k∈ks,fK ns u k=true:=by
 constructor
 ·intro h
  refine⟨⟨h.zero,fun i hi=>?_⟩,fun k hk=>?_⟩
  ·have h1:=h.meet ⟨0,i+1,0⟩ (List.mem_append_right _ ((Zd1 _ _ _).2 ⟨i,hi,.inl rfl⟩))
   have h2:=h.meet ⟨i+1,0,most⟩ (List.mem_append_right _ ((Zd1 _ _ _).2 ⟨i,hi,.inr rfl⟩))
   have h0:=h.zero
   unfold Zkc at h1 h2
   simp only at h1 h2
   omega
  ·have:=h.meet (Zgl ns k) (List.mem_append_left _ (List.mem_map.2 ⟨k,hk,rfl⟩))
   unfold fK
   rw[decide_eq_true_eq]
   exact this
 ·rintro⟨h1,h2⟩
  refine⟨h1.zero,fun i hi=>?_,fun c hc=>?_⟩
  ·cases i with
   | zero=>rw[h1.zero];exact Int.le_refl _
   | succ i=>exact (h1.rng i (by omega)).1
  ·unfold Zcq at hc
   rcases List.mem_append.1 hc with hc | hc
   ·obtain⟨k,hk,rfl⟩:=List.mem_map.1 hc
    have h3:=h2 k hk
    unfold fK at h3
    rw[decide_eq_true_eq] at h3
    exact h3
   ·have h0:=h1.zero
    obtain⟨i,hi,h3 | h3⟩:=(Zd1 most c ns.length).1 hc
    ·subst h3;have:=h1.rng i hi;unfold Zkc;simp only;omega
    ·subst h3;have:=h1.rng i hi;unfold Zkc;simp only;omega
def Zeq (k:Ky):Ky×Bool:=if ltL k.r k.l=true then (Zh6 k,false) else (k,true)
theorem Zp4 (ns:List (List Nat)) (u:Nat→Int) (k:Ky):fK ns u k=if (Zeq k).2=true then fK ns u (Zeq k).1 else !fK ns u (Zeq k).1:=by
 unfold Zeq
 by_cases h:ltL k.r k.l=true
 ·rw[if_pos h,if_neg (by simp),Zty];simp
 ·rw[if_neg h,if_pos rfl]
def Zvh (ks:List Ky):List Ky:=((ks.map (fun k=>(Zeq k).1)).filter (fun k=>!Zmf k)).foldl Zny []
def Zal (ps:List Prd):List Ky:=Zvh (ps.flatMap Zak)
theorem Ze9 (ks:List Ky) (x:Ky):x∈Zvh ks↔Zmf x=false∧∃ k∈ks,(Zeq k).1=x:=by
 unfold Zvh
 rw[Zgy]
 simp[List.mem_filter,and_comm]
theorem Zlg (ks:List Ky):Zo1 (Zvh ks):=Zgz _ _ .nil
theorem Zyw (k:Ky):((Zeq k).1.l=k.l∧(Zeq k).1.r=k.r)∨((Zeq k).1.l=k.r∧(Zeq k).1.r=k.l):=by
 unfold Zeq
 by_cases h:ltL k.r k.l=true
 ·rw[if_pos h];exact .inr ⟨rfl,rfl⟩
 ·rw[if_neg h];exact .inl ⟨rfl,rfl⟩
theorem Zyx {ns:List (List Nat)} {ks:List Ky} (h:Ziq ns ks):Ziq ns (Zvh ks):=by
 intro x hx
 obtain⟨-,k,hk,rfl⟩:=(Ze9 ks x).1 hx
 obtain⟨h1,h2⟩:=h k hk
 rcases Zyw k with ⟨e1,e2⟩ | ⟨e1,e2⟩
 ·rw[e1,e2];exact⟨h1,h2⟩
 ·rw[e1,e2];exact⟨h2,h1⟩
theorem Z6d (ns:List (List Nat)) (u:Nat→Int) (k:Ky) (h:Zmf k=true):fK ns u k=decide (0≤k.c):=by
 unfold fK
 unfold Zmf at h
 rw[beq_iff_eq] at h
 rw[h,Int.sub_self]
theorem Zvi {ns:List (List Nat)} {ks:List Ky} {u v:Nat→Int} (h:∀ x∈Zvh ks,fK ns u x=fK ns v x):∀ k∈ks,fK ns u k=fK ns v k:=by
 intro k hk
 rw[Zp4,Zp4 (u:=v)]
 have e:fK ns u (Zeq k).1=fK ns v (Zeq k).1:=by
  cases hc:Zmf (Zeq k).1 with
  | true=>rw[Z6d _ _ _ hc,Z6d _ _ _ hc]
  | false=>exact h _ ((Ze9 ks _).2 ⟨hc,k,hk,rfl⟩)
 rw[e]
theorem Zlh {ns:List (List Nat)} {ps:List Prd} {u v:Nat→Int} (h:∀ x∈Zal ps,fK ns u x=fK ns v x) (p:Prd) (hp:p∈ps):Zas (fK ns u) p=Zas (fK ns v) p :=
 Zlf (fun k hk=>Zvi h k (List.mem_flatMap.2 ⟨p,hp,(Zbc p k).2 hk⟩))
def sgK (ks:List Ky) (set:Nat):Nat→List Ky
 | 0=>[]
 | j+1=>sgK ks set j++(match ks[j]? with | some k=>[if set.testBit j=true then k else Zh6 k] | none=>[])
theorem Zli (ks:List Ky) (set:Nat) (x:Ky):∀ j,x∈sgK ks set j↔∃ i k,i<j∧ks[i]?=some k∧x=if set.testBit i=true then k else Zh6 k
 | 0=>by simp[sgK]
 | j+1=>by
  unfold sgK
  rw[List.mem_append,Zli ks set x j]
  constructor
  ·rintro (⟨i,k,h1,h2,h3⟩ | h)
   ·exact⟨i,k,by omega,h2,h3⟩
   ·cases hk:ks[j]? with
    | none=>rw[hk] at h;cases h
    | some k=>rw[hk] at h;exact⟨j,k,by omega,hk,by simpa using h⟩
  ·rintro⟨i,k,h1,h2,h3⟩
   rcases Nat.lt_succ_iff_lt_or_eq.1 h1 with h | rfl
   ·exact .inl ⟨i,k,h,h2,h3⟩
   ·right;rw[h2];simpa using h3
theorem Zyy (ks:List Ky) (set:Nat):∀ j,j≤ks.length→(sgK ks set j).length=j
 | 0,_=>rfl
 | j+1,h=>by
  unfold sgK
  rw[List.length_append,Zyy ks set j (by omega),List.getElem?_eq_getElem (by omega)]
  rfl
theorem Zir (ns:List (List Nat)) (u:Nat→Int) (ks:List Ky) (set:Nat):(∀ x∈sgK ks set ks.length,fK ns u x=true)↔∀ i k,ks[i]?=some k→fK ns u k=set.testBit i:=by
 constructor
 ·intro h i k hk
  have h1:=h _ ((Zli ks set _ _).2 ⟨i,k,(List.getElem?_eq_some_iff.1 hk).1,hk,rfl⟩)
  by_cases hb:set.testBit i=true
  ·rw[if_pos hb] at h1;rw[h1,hb]
  ·rw[if_neg hb,Zty] at h1
   have:set.testBit i=false:=by simpa using hb
   rw[this];simpa using h1
 ·intro h x hx
  obtain⟨i,k,h1,h2,rfl⟩:=(Zli ks set _ _).1 hx
  have:=h i k h2
  by_cases hb:set.testBit i=true
  ·rw[if_pos hb,this,hb]
  ·rw[if_neg hb,Zty,this];simpa using hb
theorem Zjm {ns:List (List Nat)} {ks:List Ky} (h:Ziq ns ks) (set:Nat):Ziq ns (sgK ks set ks.length):=by
 intro x hx
 obtain⟨i,k,h1,h2,rfl⟩:=(Zli ks set _ _).1 hx
 obtain⟨h3,h4⟩:=h k (List.mem_of_getElem? h2)
 by_cases hb:set.testBit i=true
 ·rw[if_pos hb];exact⟨h3,h4⟩
 ·rw[if_neg hb];exact⟨h4,h3⟩
def trU (ns:List (List Nat)) (ps:List Prd) (u:Nat→Int):List Bool:=ps.map (fun p=>Zas (fK ns u) p)
def Zc8 (ns:List (List Nat)) (most:Int) (ks:List Ky) (ps:List Prd):Nat→List (List Int×List Bool)
 | 0=>[]
 | s+1=>Zc8 ns most ks ps s++(match Zel ns.length (Zcq ns most (sgK ks s ks.length)) with | some v=>[(v,trU ns ps (gv v))] | none=>[])
theorem Zf6 (ns:List (List Nat)) (most:Int) (ks:List Ky) (ps:List Prd) (c:List Int×List Bool):∀ s,c∈Zc8 ns most ks ps s↔∃ t,t<s∧Zel ns.length (Zcq ns most (sgK ks t ks.length))=some c.1∧c.2=trU ns ps (gv c.1)
 | 0=>by simp[Zc8]
 | s+1=>by
  unfold Zc8
  rw[List.mem_append,Zf6 ns most ks ps c s]
  constructor
  ·rintro (⟨t,h1,h2,h3⟩ | h)
   ·exact⟨t,by omega,h2,h3⟩
   ·cases hk:Zel ns.length (Zcq ns most (sgK ks s ks.length)) with
    | none=>rw[hk] at h;cases h
    | some v =>
     rw[hk] at h
     obtain rfl:c=(v,trU ns ps (gv v)):=by simpa using h
     exact⟨s,by omega,hk,rfl⟩
  ·rintro⟨t,h1,h2,h3⟩
   rcases Nat.lt_succ_iff_lt_or_eq.1 h1 with h | rfl
   ·exact .inl ⟨t,h,h2,h3⟩
   ·right;rw[h2]
    obtain⟨c1,c2⟩:=c
    simp only at h3 ⊢
    rw[h3];simp
theorem Zht (ns:List (List Nat)) (most:Int) (ks:List Ky) (ps:List Prd):∀ s,(Zc8 ns most ks ps s).length≤s
 | 0=>Nat.le_refl _
 | s+1=>by
  unfold Zc8
  have:=Zht ns most ks ps s
  rw[List.length_append]
  cases Zel ns.length (Zcq ns most (sgK ks s ks.length))<;>simp<;>omega
def Zfa:List Int→List Int→Int
 | [],[]=>0
 | [],_::_=>-1
 | _::_,[]=>1
 | x::xs,y::ys=>if Zmv x y≠0 then Zmv x y else Zfa xs ys
theorem Zjn (x y:Int):(x<y∧Zmv x y = -1)∨(x=y∧Zmv x y=0)∨(y<x∧Zmv x y=1):=by
 unfold Zmv
 by_cases h:x<y
 ·left;rw[if_pos h];exact⟨h,rfl⟩
 ·rw[if_neg h]
  by_cases h2:x=y
  ·right;left;rw[if_pos h2];exact⟨h2,rfl⟩
  ·right;right;rw[if_neg h2];exact⟨by omega,rfl⟩
theorem Zbl (x y:Int) (a b:List Int):(x<y∧Zfa (x::a) (y::b) = -1)∨(x=y∧Zfa (x::a) (y::b)=Zfa a b)∨(y<x∧Zfa (x::a) (y::b)=1):=by
 have e:Zfa (x::a) (y::b)=if Zmv x y≠0 then Zmv x y else Zfa a b:=by rw[Zfa]
 rw[e]
 rcases Zjn x y with ⟨h1,h2⟩ | ⟨h1,h2⟩ | ⟨h1,h2⟩
 ·left;rw[h2,if_pos (by decide)];exact⟨h1,rfl⟩
 ·right;left;rw[h2,if_neg (by simp)];exact⟨h1,rfl⟩
 ·right;right;rw[h2,if_pos (by decide)];exact⟨h1,rfl⟩
theorem Zf7:∀ a b:List Int,Zfa a b=0↔a=b
 | [],[]=>by simp[Zfa]
 | [],_::_=>by simp[Zfa]
 | _::_,[]=>by simp[Zfa]
 | x::a,y::b=>by
  rcases Zbl x y a b with ⟨h1,h2⟩ | ⟨h1,h2⟩ | ⟨h1,h2⟩
  ·rw[h2];constructor
   ·intro h;cases h
   ·intro h;injection h with e1 e2;omega
  ·rw[h2,Zf7 a b];subst h1;simp
  ·rw[h2];constructor
   ·intro h;cases h
   ·intro h;injection h with e1 e2;omega
theorem Zdk:∀ a b:List Int,Zfa a b = - Zfa b a
 | [],[]=>rfl
 | [],_::_=>rfl
 | _::_,[]=>rfl
 | x::a,y::b=>by
  have h:=Zdk a b
  rcases Zbl x y a b with ⟨h1,h2⟩ | ⟨h1,h2⟩ | ⟨h1,h2⟩
  ·rcases Zbl y x b a with ⟨h3,h4⟩ | ⟨h3,h4⟩ | ⟨h3,h4⟩<;>first | omega | (rw[h2,h4];rfl)
  ·rcases Zbl y x b a with ⟨h3,h4⟩ | ⟨h3,h4⟩ | ⟨h3,h4⟩<;>omega
  ·rcases Zbl y x b a with ⟨h3,h4⟩ | ⟨h3,h4⟩ | ⟨h3,h4⟩<;>first | omega | (rw[h2,h4])
theorem Zf8:∀ a b c:List Int,Zfa a b≤0→Zfa b c≤0→Zfa a c≤0
 | [],_,[],_,_=>by simp[Zfa]
 | [],_,_::_,_,_=>by simp[Zfa]
 | _::_,[],_,h,_=>by simp[Zfa] at h
 | _::_,_::_,[],_,h=>by simp[Zfa] at h
 | x::a,y::b,z::c,h1,h2=>by
  rcases Zbl x y a b with ⟨e1,e2⟩ | ⟨e1,e2⟩ | ⟨e1,e2⟩
  ·rcases Zbl y z b c with ⟨f1,f2⟩ | ⟨f1,f2⟩ | ⟨f1,f2⟩
   ·rcases Zbl x z a c with ⟨g1,g2⟩ | ⟨g1,g2⟩ | ⟨g1,g2⟩<;>omega
   ·rcases Zbl x z a c with ⟨g1,g2⟩ | ⟨g1,g2⟩ | ⟨g1,g2⟩<;>omega
   ·omega
  ·rcases Zbl y z b c with ⟨f1,f2⟩ | ⟨f1,f2⟩ | ⟨f1,f2⟩
   ·rcases Zbl x z a c with ⟨g1,g2⟩ | ⟨g1,g2⟩ | ⟨g1,g2⟩<;>omega
   ·have:=Zf8 a b c (by omega) (by omega)
    rcases Zbl x z a c with ⟨g1,g2⟩ | ⟨g1,g2⟩ | ⟨g1,g2⟩<;>omega
   ·omega
  ·omega
def leV (a b:List Int×List Bool):Bool:=decide (Zfa a.1 b.1≤0)
theorem Zp5 (a b c:List Int×List Bool) (h1:leV a b=true) (h2:leV b c=true):leV a c=true:=by
 unfold leV at *
 rw[decide_eq_true_eq] at *
 exact Zf8 _ _ _ h1 h2
theorem Zp6 (a b:List Int×List Bool):(leV a b||leV b a)=true:=by
 unfold leV
 rw[Bool.or_eq_true,decide_eq_true_eq,decide_eq_true_eq]
 have:=Zdk a.1 b.1
 omega
def Zbn (ns:List (List Nat)) (most:Int) (ks:List Ky) (ps:List Prd):List (List Int×List Bool):=(Zc8 ns most ks ps (2^ks.length)).mergeSort leV
theorem Zyz:∀ a b:List Int,a.length=b.length→(∀ i,gv a i≤gv b i)→Zfa a b≤0
 | [],[],_,_=>by simp[Zfa]
 | [],_::_,h,_=>by simp at h
 | _::_,[],h,_=>by simp at h
 | x::a,y::b,h,hp=>by
  have h0:x≤y:=hp 0
  have:=Zyz a b (by simpa using h) (fun i=>hp (i+1))
  rcases Zbl x y a b with ⟨e1,e2⟩ | ⟨e1,e2⟩ | ⟨e1,e2⟩<;>omega
structure AsgL (n:Nat) (most:Int) (v:List Int):Prop where
 len:v.length=n+1
 asg:AsgN n most (gv v)
theorem Zod {ns:List (List Nat)} {most:Int} {ps:List Prd} {ks:List Ky} (hk:Ziq ns ks) {c:List Int×List Bool} (h:c∈Zc8 ns most ks ps (2^ks.length)):AsgL ns.length most c.1∧c.2=trU ns ps (gv c.1):=by
 obtain⟨t,h1,h2,h3⟩:=(Zf6 ns most ks ps c _).1 h
 obtain⟨a1,a2,a3⟩:=Zdx (Zfo (Zjm hk t) most) h2
 exact⟨⟨a1,(Zjl.1 a2).1⟩,h3⟩
theorem Ztz {ns:List (List Nat)} {most:Int} {ps:List Prd} (hk:Ziq ns (Zal ps)) {u:List Int} (hu:AsgL ns.length most u):∃ c∈Zc8 ns most (Zal ps) ps (2^(Zal ps).length),Zfa c.1 u≤0∧c.2=trU ns ps (gv u):=by
 generalize hks:Zal ps=ks at *
 obtain⟨set,hs1,hs2⟩:=Zyv ks.length (fun i=>match ks[i]? with | some k=>fK ns (gv u) k | none=>false)
 have hbit:∀ i k,ks[i]?=some k→fK ns (gv u) k=set.testBit i:=fun i k h=>by
  rw[hs2 i (List.getElem?_eq_some_iff.1 h).1,h]
 have hsol:SolC (ns.length+1) (Zcq ns most (sgK ks set ks.length)) (gv u):=Zjl.2 ⟨hu.asg,(Zir ns (gv u) ks set).2 hbit⟩
 cases hl:Zel ns.length (Zcq ns most (sgK ks set ks.length)) with
 | none=>exact absurd hsol (Zrn (Zfo (Zjm hk set) most) hl _)
 | some v =>
  obtain⟨a1,a2,a3⟩:=Zdx (Zfo (Zjm hk set) most) hl
  refine⟨(v,trU ns ps (gv v)),(Zf6 ns most ks ps _ _).2 ⟨set,hs1,hl,rfl⟩,?_,?_⟩
  ·refine Zyz v u (a1.trans hu.len.symm) (fun i=>?_)
   by_cases hi:i<ns.length+1
   ·exact a3 (gv u) hsol i hi
   ·unfold gv
    rw[List.getD_eq_getElem?_getD,List.getD_eq_getElem?_getD,List.getElem?_eq_none (by rw[a1];omega),List.getElem?_eq_none (by rw[hu.len];omega)]
    exact Int.le_refl _
  ·unfold trU
   refine List.map_congr_left (fun p hp=>?_)
   refine Zlh (fun x hx=>?_) p hp
   rw[hks] at hx
   obtain⟨i,hi⟩:=List.mem_iff_getElem?.1 hx
   rw[hbit i x hi]
   exact (Zir ns (gv v) ks set).1 (Zjl.1 a2).2 i x hi
theorem Zlj {ns:List (List Nat)} {most:Int} {ps:List Prd} {ks:List Ky} (hk:Ziq ns ks):∀ s,s≤2^ks.length→((Zc8 ns most ks ps s).map Prod.fst).Nodup
 | 0,_=>by simp[Zc8]
 | s+1,hs=>by
  unfold Zc8
  have ih:=Zlj (most:=most) (ps:=ps) hk s (by omega)
  cases hl:Zel ns.length (Zcq ns most (sgK ks s ks.length)) with
  | none=>simpa using ih
  | some v =>
   rw[List.map_append]
   refine List.nodup_append.2 ⟨ih,by simp,fun a ha b hb e=>?_⟩
   have hb':b=v:=by simpa using hb
   subst hb'
   subst e
   obtain⟨c,hc,rfl⟩:=List.mem_map.1 ha
   obtain⟨t,h1,h2,h3⟩:=(Zf6 ns most ks ps c s).1 hc
   have e1:=(Zir ns (gv c.1) ks t).1 (Zjl.1 (Zdx (Zfo (Zjm hk t) most) h2).2.1).2
   have e2:=(Zir ns (gv c.1) ks s).1 (Zjl.1 (Zdx (Zfo (Zjm hk s) most) hl).2.1).2
   have:t=s:=Nat.eq_of_testBit_eq (fun i=>by
    by_cases hi:i<ks.length
    ·rw[← e1 i ks[i] (List.getElem?_eq_getElem hi),← e2 i ks[i] (List.getElem?_eq_getElem hi)]
    ·have hp:2^ks.length≤2^i:=Nat.pow_le_pow_right (by omega) (by omega)
     rw[Nat.testBit_lt_two_pow (by omega),Nat.testBit_lt_two_pow (by omega)])
   omega
theorem Zj3 {ns:List (List Nat)} {most:Int} {ps:List Prd} {ks:List Ky} (hk:Ziq ns ks) {l:List (List Int×List Bool)} (hp:l.Perm (Zc8 ns most ks ps (2^ks.length))) (hs:l.Pairwise (fun a b=>leV a b=true)):l=Zbn ns most ks ps:=by
 unfold Zbn
 have hnd:=Zlj (most:=most) (ps:=ps) hk _ (Nat.le_refl _)
 refine List.Perm.eq_of_pairwise (le:=fun a b=>leV a b=true) (fun a b ha hb h1 h2=>?_) hs (List.pairwise_mergeSort Zp5 Zp6 _) (hp.trans (List.mergeSort_perm _ leV).symm)
 have e:a.1=b.1:=by
  unfold leV at h1 h2
  rw[decide_eq_true_eq] at h1 h2
  have:=Zdk a.1 b.1
  exact (Zf7 _ _).1 (by omega)
 have ha':=hp.mem_iff.1 ha
 have hb':=(List.mergeSort_perm _ leV).mem_iff.1 hb
 have h3:=(Zod hk ha').2
 have h4:=(Zod hk hb').2
 obtain⟨a1,a2⟩:=a
 obtain⟨b1,b2⟩:=b
 simp only at e h3 h4
 subst e
 rw[h3,h4]
theorem Z3q {ns:List (List Nat)} {most:Int} {ps:List Prd} (hk:Ziq ns (Zal ps)) (f:List Bool→Bool) :
  (∀ c,(Zbn ns most (Zal ps) ps).find? (fun c=>f c.2)=some c→AsgL ns.length most c.1∧c.2=trU ns ps (gv c.1)∧f (trU ns ps (gv c.1))=true∧∀ u,AsgL ns.length most u→f (trU ns ps (gv u))=true→Zfa c.1 u≤0) ∧
  ((Zbn ns most (Zal ps) ps).find? (fun c=>f c.2)=none→∀ u,AsgL ns.length most u→f (trU ns ps (gv u))=false):=by
 have hmem:∀ c,c∈Zbn ns most (Zal ps) ps↔c∈Zc8 ns most (Zal ps) ps (2^(Zal ps).length):=fun c=>(List.mergeSort_perm _ leV).mem_iff
 have hsort:(Zbn ns most (Zal ps) ps).Pairwise (fun a b=>leV a b=true):=List.pairwise_mergeSort Zp5 Zp6 _
 generalize Zbn ns most (Zal ps) ps=L at *
 constructor
 ·intro c hc
  obtain⟨h1,i,hi,h2,h3⟩:=List.find?_eq_some_iff_getElem.1 hc
  have hcm:c∈L:=by rw[← h2];exact List.getElem_mem _
  obtain⟨a1,a2⟩:=Zod hk ((hmem c).1 hcm)
  refine⟨a1,a2,by rw[← a2];exact h1,fun u hu hf=>?_⟩
  obtain⟨c',b1,b2,b3⟩:=Ztz hk hu
  obtain⟨j,hj,rfl⟩:=List.mem_iff_getElem.1 ((hmem c').2 b1)
  have hij:i≤j:=Nat.le_of_not_lt (fun hlt=>by
   have:=h3 j hlt
   rw[b3,hf] at this
   cases this)
  have hle:Zfa c.1 L[j].1≤0:=by
   rcases Nat.lt_or_ge i j with h | h
   ·have:=List.pairwise_iff_getElem.1 hsort i j hi hj h
    rw[h2] at this
    exact of_decide_eq_true this
   ·obtain rfl:i=j:=by omega
    rw[h2,(Zf7 c.1 c.1).2 rfl];exact Int.le_refl _
  exact Zf8 _ _ _ hle b2
 ·intro hn u hu
  obtain⟨c',b1,b2,b3⟩:=Ztz hk hu
  have:=List.find?_eq_none.1 hn c' ((hmem c').2 b1)
  rw[b3] at this
  simpa using this
end
section
def Zjf (b:Nat):Nat→Nat→List Int
 | 0,_=>[]
 | n+1,k=>Zjf b n (k/b)++[((k%b:Nat):Int)]
theorem Zis (b:Nat):∀ n k,(Zjf b n k).length=n
 | 0,_=>rfl
 | n+1,k=>by unfold Zjf;rw[List.length_append,Zis b n];rfl
theorem Zoe (b:Nat) (hb:0<b):∀ n k,∀ x∈Zjf b n k,0≤x∧x<(b:Int)
 | 0,_,x,hx=>by cases hx
 | n+1,k,x,hx=>by
  unfold Zjf at hx
  rcases List.mem_append.1 hx with h | h
  ·exact Zoe b hb n _ x h
  ·have hm:=Nat.mod_lt k hb
   have:x=((k%b:Nat):Int):=by simpa using h
   omega
theorem Zp7 (x y:Int):∀ a b:List Int,a.length=b.length→Zfa (a++[x]) (b++[y])=if Zfa a b≠0 then Zfa a b else Zmv x y
 | [],[],_=>by
  show Zfa [x] [y]=_
  rcases Zbl x y [] [] with ⟨h1,h2⟩ | ⟨h1,h2⟩ | ⟨h1,h2⟩<;>rcases Zjn x y with ⟨h3,h4⟩ | ⟨h3,h4⟩ | ⟨h3,h4⟩<;>first | omega | (rw[h2,h4];simp[Zfa])
 | [],_::_,h=>by simp at h
 | _::_,[],h=>by simp at h
 | p::a,q::b,h=>by
  have ih:=Zp7 x y a b (by simpa using h)
  show Zfa (p::(a++[x])) (q::(b++[y]))=_
  unfold Zfa
  by_cases hz:Zmv p q=0
  ·simp[hz,ih]
  ·simp only[hz,ne_eq,not_false_eq_true,if_true]
theorem Zy0 (b:Nat) (hb:0<b):∀ n k m,k<m→m<b^n→Zfa (Zjf b n k) (Zjf b n m)<0
 | 0,k,m,h,hm=>by simp at hm;omega
 | n+1,k,m,h,hm=>by
  unfold Zjf
  rw[Zp7 _ _ _ _ (by rw[Zis,Zis])]
  have hd:m/b<b^n:=(Nat.div_lt_iff_lt_mul hb).2 (by rw[← Nat.pow_succ];exact hm)
  rcases Nat.lt_or_ge (k/b) (m/b) with h1 | h1
  ·have:=Zy0 b hb n _ _ h1 hd
   rw[if_pos (by omega)];exact this
  ·have e:k/b=m/b:=Nat.le_antisymm (Nat.div_le_div_right (Nat.le_of_lt h)) h1
   rw[e,(Zf7 _ _).2 rfl,if_neg (by simp)]
   have h2:=Nat.div_add_mod k b
   have h3:=Nat.div_add_mod m b
   rw[e] at h2
   rcases Zjn ((k%b:Nat):Int) ((m%b:Nat):Int) with ⟨h4,h5⟩ | ⟨h4,h5⟩ | ⟨h4,h5⟩<;>omega
theorem Zy1 (b:Nat) (hb:0<b):∀ (n:Nat) (l:List Int),l.length=n→(∀ x∈l,0≤x∧x<(b:Int))→∃ k,k<b^n∧Zjf b n k=l
 | 0,l,hl,_=>⟨0,by simp,by cases l with | nil=>rfl | cons _ _=>simp at hl⟩
 | n+1,l,hl,hx=>by
  have hne:l≠[]:=by intro e;rw[e] at hl;simp at hl
  obtain⟨k,hk,he⟩:=Zy1 b hb n l.dropLast (by rw[List.length_dropLast,hl];omega) (fun x h=>hx x (List.dropLast_subset l h))
  have h1:=hx (l.getLast hne) (List.getLast_mem hne)
  refine⟨k*b+(l.getLast hne).toNat,?_,?_⟩
  ·have:(k+1)*b≤b^n*b:=Nat.mul_le_mul_right _ hk
   rw[Nat.pow_succ]
   have e:(k+1)*b=k*b+b:=by rw[Nat.add_mul,Nat.one_mul]
   omega
  ·have hlt:(l.getLast hne).toNat<b:=by omega
   unfold Zjf
   rw[Nat.mul_comm k b,Nat.mul_add_div hb,Nat.div_eq_of_lt hlt,Nat.add_zero,Nat.mul_add_mod,Nat.mod_eq_of_lt hlt,he,Int.toNat_of_nonneg h1.1]
   exact List.dropLast_concat_getLast hne
def Zke (n:Nat) (most:Nat) (k:Nat):List Int:=0::Zjf (most+1) n k
theorem Zof (n most:Nat) (v:List Int):AsgL n (most:Int) v↔∃ k,k<(most+1)^n∧v=Zke n most k:=by
 constructor
 ·intro h
  cases v with
  | nil=>have:=h.len;simp at this
  | cons x l =>
   have hl:l.length=n:=by have:=h.len;simpa using this
   have h0:x=0:=h.asg.zero
   obtain⟨k,hk,he⟩:=Zy1 (most+1) (by omega) n l hl (fun y hy=>by
    obtain⟨i,hi,rfl⟩:=List.mem_iff_getElem.1 hy
    have:=h.asg.rng i (by omega)
    have e:gv (x::l) (i+1)=l[i]:=by
     unfold gv
     rw[List.getD_eq_getElem?_getD,List.getElem?_cons_succ,List.getElem?_eq_getElem hi];rfl
    rw[e] at this
    omega)
   exact⟨k,hk,by unfold Zke;rw[he,h0]⟩
 ·rintro⟨k,hk,rfl⟩
  have hl:=Zis (most+1) n k
  refine⟨by unfold Zke;simp[hl],rfl,fun i hi=>?_⟩
  have e:gv (Zke n most k) (i+1)=(Zjf (most+1) n k)[i]'(by omega):=by
   unfold gv Zke
   rw[List.getD_eq_getElem?_getD,List.getElem?_cons_succ,List.getElem?_eq_getElem (by omega)];rfl
  have:=Zoe (most+1) (by omega) n k _ (List.getElem_mem (by omega:i<(Zjf (most+1) n k).length))
  rw[e]
  omega
theorem Z63 (n most k m:Nat) (h:k<m) (hm:m<(most+1)^n):Zfa (Zke n most k) (Zke n most m)<0:=by
 have:=Zy0 (most+1) (by omega) n k m h hm
 unfold Zke
 rcases Zbl 0 0 (Zjf (most+1) n k) (Zjf (most+1) n m) with ⟨h1,h2⟩ | ⟨h1,h2⟩ | ⟨h1,h2⟩<;>omega
def Zcz (g:Nat→Bool) (m:Nat):Option Nat:=(List.range m).find? g
theorem Zy2 {n most:Nat} (f:List Int→Bool) {v:List Int} (hv:AsgL n (most:Int) v) (hf:f v=true) (hmin:∀ u,AsgL n (most:Int) u→f u=true→Zfa v u≤0) :
  ∃ k,k<(most+1)^n∧v=Zke n most k∧f (Zke n most k)=true∧∀ j,j<k→f (Zke n most j)=false:=by
 obtain⟨k,hk,rfl⟩:=(Zof n most v).1 hv
 refine⟨k,hk,rfl,hf,fun j hj=>?_⟩
 cases hfj:f (Zke n most j) with
 | false=>rfl
 | true =>
  have h1:=hmin _ ((Zof n most _).2 ⟨j,by omega,rfl⟩) hfj
  have h2:=Z63 n most j k hj hk
  have h3:=Zdk (Zke n most j) (Zke n most k)
  omega
def Zp8 (g:Nat→Bool):Nat→Nat
 | 0=>0
 | m+1=>Zp8 g m+(if g m=true then 1 else 0)
theorem Zt0 (g:Nat→Bool) (a:Nat):∀ b,Zp8 g (a+b)=Zp8 g a+Zp8 (fun j=>g (a+j)) b
 | 0=>rfl
 | b+1=>by
  show Zp8 g (a+b)+(if g (a+b)=true then 1 else 0)=Zp8 g a+(Zp8 (fun j=>g (a+j)) b+(if g (a+b)=true then 1 else 0))
  rw[Zt0 g a b];omega
theorem Zjo {g h:Nat→Bool}:∀ m,(∀ j,j<m→g j=h j)→Zp8 g m=Zp8 h m
 | 0,_=>rfl
 | m+1,e=>by unfold Zp8;rw[Zjo m (fun j hj=>e j (by omega)),e m (by omega)]
theorem Zm6 (g:Nat→Bool) (b:Bool):∀ m,(∀ j,j<m→g j=b)→Zp8 g m=if b=true then m else 0
 | 0,_=>by cases b<;>rfl
 | m+1,e=>by
  unfold Zp8
  rw[Zm6 g b m (fun j hj=>e j (by omega)),e m (by omega)]
  cases b<;>simp
def Zit (f:List Int→Bool) (most:Nat):Nat→List Int→Nat
 | 0,v=>if f v=true then 1 else 0
 | r+1,v=>sumA (fun x=>Zit f most r (v++[(x:Int)])) (most+1)
where sumA (g:Nat→Nat):Nat→Nat
 | 0=>0
 | m+1=>sumA g m+g m
theorem Zt1 (g:Nat→Bool):∀ m,Zit.sumA (fun x=>if g x=true then 1 else 0) m=Zp8 g m
 | 0=>rfl
 | m+1=>by unfold Zit.sumA Zp8;rw[Zt1 g m]
end
section
def Zog (ns:List (List Nat)) (v:List Int) (at':Nat) (k:Ky):List Int :=
 if Zcp ns k.l=at' then [gv v (Zcp ns k.r)+k.c+1] else if Zcp ns k.r=at' then [gv v (Zcp ns k.l)-k.c] else []
def Zec (ns:List (List Nat)) (v:List Int) (at':Nat) (most:Int) (ks:List Ky):List Int:=[0,most+1]++ks.flatMap (Zog ns v at')
def inT (most:Int) (t:Int):Bool:=!(decide (t<0)||decide (most+1<t))
def leI (a b:Int):Bool:=decide (a≤b)
def Zch (ns:List (List Nat)) (v:List Int) (at':Nat) (most:Int) (ks:List Ky):List Int:=((Zec ns v at' most ks).filter (inT most)).mergeSort leI
def Z6e (g:Int→Bool):List Int→Int
 | t::t2::ts=>(if g t=true then t2-t else 0)+Z6e g (t2::ts)
 | _=>0
theorem Zt2 (g:Int→Bool) (h:Nat→Bool) (hg:∀ x:Nat,g (x:Int)=h x) (M:Nat):∀ (L:List Int) (a:Nat),L.Pairwise (fun x y=>leI x y=true)→L.head?=some (a:Int)→L.getLast?=some (M:Int)→(∀ t∈L,0≤t) →
  (∀ (x t:Int),a≤x→x<M→t≤x→t∈L→(∀ s∈L,s≤t∨x<s)→g x=g t)→a≤M→Z6e g L=((Zp8 (fun j=>h (a+j)) (M-a):Nat):Int)
 | [],a,_,h1,_,_,_,_=>by cases h1
 | [t],a,_,h1,h2,_,_,_=>by
  simp only[List.head?_cons,Option.some.injEq] at h1
  simp only[List.getLast?_singleton,Option.some.injEq] at h2
  have:M-a=0:=by omega
  rw[this]
  rfl
 | t::t2::ts,a,hs,h1,h2,hp,hc,hle=>by
  simp only[List.head?_cons,Option.some.injEq] at h1
  subst h1
  have hs':=List.pairwise_cons.1 hs
  have h12:(a:Int)≤t2:=of_decide_eq_true (hs'.1 t2 (by simp))
  obtain⟨b,rfl⟩:∃ b:Nat,t2=(b:Int):=⟨t2.toNat,by omega⟩
  have hl2:((b:Int)::ts).getLast?=some (M:Int):=by rw[List.getLast?_cons_cons] at h2;exact h2
  have hbM:b≤M:=by
   have hm:(M:Int)∈(b:Int)::ts:=List.mem_of_getLast? hl2
   rcases List.mem_cons.1 hm with e | e
   ·omega
   ·have:=of_decide_eq_true ((List.pairwise_cons.1 hs'.2).1 _ e)
    omega
  have ih:=Zt2 g h hg M ((b:Int)::ts) b hs'.2 rfl hl2 (fun x hx=>hp x (List.mem_cons_of_mem _ hx)) (fun x t hx1 hx2 hx3 ht hx4=>hc x t (by omega) hx2 hx3 (List.mem_cons_of_mem _ ht) (fun s hs2=>by
   rcases List.mem_cons.1 hs2 with rfl | hs2
   ·left
    have:(b:Int)≤t:=by
     rcases List.mem_cons.1 ht with e | e
     ·omega
     ·exact of_decide_eq_true ((List.pairwise_cons.1 hs'.2).1 _ e)
    omega
   ·exact hx4 s hs2)) hbM
  show (if g (a:Int)=true then (b:Int)-(a:Int) else 0)+Z6e g ((b:Int)::ts)=_
  rw[ih,show M-a=(b-a)+(M-b) by omega,Zt0,Zm6 (fun j=>h (a+j)) (g (a:Int)) (b-a) (fun j hj=>by
   rw[← hg]
   exact hc _ (a:Int) (by omega) (by omega) (by omega) (by simp) (fun s hs2=>by
    rcases List.mem_cons.1 hs2 with e | hs2
    ·left;omega
    ·right
     have:(b:Int)≤s:=by
      rcases List.mem_cons.1 hs2 with e | e
      ·omega
      ·exact of_decide_eq_true ((List.pairwise_cons.1 hs'.2).1 _ e)
     omega))]
  have e2:Zp8 (fun j=>h (a+(b-a+j))) (M-b)=Zp8 (fun j=>h (b+j)) (M-b):=Zjo _ (fun j _=>by rw[show a+(b-a+j)=b+j by omega])
  rw[e2]
  cases g (a:Int)<;>simp<;>omega
theorem Zy3 (a b c:Int) (h1:leI a b=true) (h2:leI b c=true):leI a c=true:=by
 unfold leI at *;rw[decide_eq_true_eq] at *;omega
theorem Zy4 (a b:Int):(leI a b||leI b a)=true:=by
 unfold leI;rw[Bool.or_eq_true,decide_eq_true_eq,decide_eq_true_eq];omega
theorem Zg7 (ns:List (List Nat)) (v:List Int) (at':Nat) (most:Int) (ks:List Ky) (t:Int):t∈Zch ns v at' most ks↔(t∈Zec ns v at' most ks)∧0≤t∧t≤most+1:=by
 unfold Zch
 rw[(List.mergeSort_perm _ leI).mem_iff,List.mem_filter]
 unfold inT
 simp
theorem Zj4 (ns:List (List Nat)) (v:List Int) (at':Nat) (most:Int) (ks:List Ky):(Zch ns v at' most ks).Pairwise (fun x y=>leI x y=true):=List.pairwise_mergeSort Zy3 Zy4 _
theorem Zvj {L:List Int} {a:Int} (hs:L.Pairwise (fun x y=>leI x y=true)) (ha:a∈L) (hmin:∀ t∈L,a≤t):L.head?=some a:=by
 cases L with
 | nil=>cases ha
 | cons x l =>
  have h1:=hmin x (by simp)
  rcases List.mem_cons.1 ha with e | e
  ·rw[e];rfl
  ·have:=of_decide_eq_true ((List.pairwise_cons.1 hs).1 a e)
   have:x=a:=by omega
   rw[this];rfl
theorem Ziu:∀ {L:List Int} {a:Int},L.Pairwise (fun x y=>leI x y=true)→a∈L→(∀ t∈L,t≤a)→L.getLast?=some a
 | [],a,_,ha,_=>by cases ha
 | [x],a,_,ha,_=>by
  have:a=x:=by simpa using ha
  rw[this];rfl
 | x::y::l,a,hs,ha,hmax=>by
  rw[List.getLast?_cons_cons]
  have hs':=List.pairwise_cons.1 hs
  refine Ziu hs'.2 ?_ (fun t ht=>hmax t (List.mem_cons_of_mem _ ht))
  rcases List.mem_cons.1 ha with e | e
  ·have h1:=of_decide_eq_true (hs'.1 y (by simp))
   have h2:=hmax y (by simp)
   have:a=y:=by omega
   rw[this];simp
  ·exact e
theorem Zjp (v:List Int) (x:Int) (i:Nat):gv (v++[x]) i=if i<v.length then gv v i else if i=v.length then x else 0:=by
 unfold gv
 rw[List.getD_eq_getElem?_getD,List.getD_eq_getElem?_getD,List.getElem?_append]
 by_cases h:i<v.length
 ·rw[if_pos h,if_pos h]
 ·rw[if_neg h,if_neg h]
  by_cases h2:i=v.length
  ·rw[if_pos h2,h2,Nat.sub_self];rfl
  ·rw[if_neg h2,List.getElem?_eq_none (by simp;omega)];rfl
theorem Zt3 {ns:List (List Nat)} {s t:List Nat} (hs:Zfg ns s=true) (ht:Zfg ns t=true) (h:Zcp ns s=Zcp ns t):s=t:=by
 unfold Zcp at h
 unfold Zfg at hs ht
 rw[Bool.or_eq_true,beq_iff_eq] at hs ht
 by_cases e1:s=[]
 ·rw[if_pos e1] at h
  by_cases e2:t=[]
  ·rw[e1,e2]
  ·rw[if_neg e2] at h;omega
 ·rw[if_neg e1] at h
  by_cases e2:t=[]
  ·rw[if_pos e2] at h;omega
  ·rw[if_neg e2] at h
   have h1:s∈ns:=by rcases hs with hs | hs;exact absurd hs e1;simpa using hs
   have h2:t∈ns:=by rcases ht with ht | ht;exact absurd ht e2;simpa using ht
   have e3:=List.getElem_idxOf (List.idxOf_lt_length_iff.2 h1)
   have e4:=List.getElem_idxOf (List.idxOf_lt_length_iff.2 h2)
   have:ns.idxOf s=ns.idxOf t:=by omega
   rw[← e3,← e4]
   simp only[this]
theorem Zvk {ns:List (List Nat)} {ps:List Prd} {p:Prd} (hp:p∈ps) (hk:Ziq ns (Zal ps)) {v:List Int} (hv:v.length=ns.length) {most:Int} (x t:Int) (h0:0≤t) (hx:x≤most) (htx:t≤x)
  (hbet:∀ s∈Zch ns v ns.length most (Zal ps),s≤t∨x<s):Zas (fK ns (gv (v++[x]))) p=Zas (fK ns (gv (v++[t]))) p:=by
 refine Zlh (fun k hk2=>?_) p hp
 have hcon:Zmf k=false:=((Ze9 _ k).1 hk2).1
 obtain⟨hl,hr⟩:=hk k hk2
 have hle:=Zfy hl
 have hre:=Zfy hr
 have hne:Zcp ns k.l≠Zcp ns k.r:=fun e=>by
  have:=Zt3 hl hr e
  unfold Zmf at hcon
  rw[this] at hcon
  simp at hcon
 have hnb:∀ s∈Zog ns v ns.length k,0≤s→s≤most+1→s≤t∨x<s:=fun s hs h1 h2=>hbet s ((Zg7 _ _ _ _ _ _).2 ⟨List.mem_append_right _ (List.mem_flatMap.2 ⟨k,hk2,hs⟩),h1,h2⟩)
 unfold Zog at hnb
 unfold fK
 rw[Zjp,Zjp,Zjp,Zjp,hv]
 by_cases h1:Zcp ns k.l=ns.length
 ·rw[if_pos h1] at hnb
  have h3:=hnb _ (List.mem_singleton.2 rfl)
  rw[if_neg (by omega),if_pos h1,if_pos (by omega),if_neg (by omega),if_pos h1,if_pos (by omega)]
  by_cases hd:x-gv v (Zcp ns k.r)≤k.c
  ·rw[decide_eq_true hd,decide_eq_true (by omega)]
  ·rw[decide_eq_false hd,decide_eq_false (by omega)]
 ·rw[if_neg h1] at hnb
  by_cases h2:Zcp ns k.r=ns.length
  ·rw[if_pos h2] at hnb
   have h3:=hnb _ (List.mem_singleton.2 rfl)
   rw[if_pos (by omega),if_neg (by omega),if_pos h2,if_pos (by omega),if_neg (by omega),if_pos h2]
   by_cases hd:gv v (Zcp ns k.l)-x≤k.c
   ·rw[decide_eq_true hd,decide_eq_true (by omega)]
   ·rw[decide_eq_false hd,decide_eq_false (by omega)]
  ·rw[if_pos (by omega),if_pos (by omega),if_pos (by omega),if_pos (by omega)]
theorem Zy5 {ns:List (List Nat)} {ps:List Prd} {p:Prd} (hp:p∈ps) (hk:Ziq ns (Zal ps)) {v:List Int} (hv:v.length=ns.length) (most:Nat) :
  Z6e (fun x=>Zas (fK ns (gv (v++[x]))) p) (Zch ns v ns.length (most:Int) (Zal ps))=((Zit (fun u=>Zas (fK ns (gv u)) p) most 1 v:Nat):Int):=by
 have hmem:=Zg7 ns v ns.length (most:Int) (Zal ps)
 have hs:=Zj4 ns v ns.length (most:Int) (Zal ps)
 have h1:(0:Int)∈Zch ns v ns.length (most:Int) (Zal ps):=(hmem 0).2 ⟨by simp[Zec],by omega,by omega⟩
 have h2:((most+1:Nat):Int)∈Zch ns v ns.length (most:Int) (Zal ps):=(hmem _).2 ⟨by simp[Zec],by omega,by omega⟩
 have:=Zt2 (fun x=>Zas (fK ns (gv (v++[x]))) p) (fun x=>Zas (fK ns (gv (v++[(x:Int)]))) p) (fun x=>rfl) (most+1) (Zch ns v ns.length (most:Int) (Zal ps)) 0 hs
  (Zvj hs h1 (fun t ht=>((hmem t).1 ht).2.1)) (Ziu hs h2 (fun t ht=>by have:=((hmem t).1 ht).2.2;omega)) (fun t ht=>((hmem t).1 ht).2.1)
  (fun x t hx1 hx2 hx3 ht hb=>Zvk hp hk hv x t ((hmem t).1 ht).2.1 (by omega) hx3 hb) (by omega)
 rw[this]
 congr 1
 show _=Zit.sumA (fun x=>if Zas (fK ns (gv (v++[(x:Int)]))) p=true then 1 else 0) (most+1)
 rw[Zt1]
 refine Zjo _ (fun j _=>?_)
 rw[Nat.zero_add]
end
end Go.Proofs.YtmkdfbelbcocpaaGreatDoor
