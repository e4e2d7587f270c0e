import Derived.Deep.Quiet
import Derived.Lib.QuietBelow
import Derived.Test.YtbcgocpihobjnaaGreatDoorCI21
import Derived.Test.YtbcgocpihobjnaaGreatDoorCI13
import Derived.Shelf.SlSortCmp.NoneTotal
import Derived.Test.YtbcgocpihobjnaaGreatDoorShelf
import Derived.Test.YtbcgocpihobjnaaGreatDoorCI0
import Derived.Test.YtbcgocpihobjnaaGreatDoorCI16
set_option linter.all false
namespace Go.Proofs.YtbcgocpihobjnaaGreatDoor
section
open Go.RowKit Go.Sort
theorem Z5y {f:FuncId} {args:Array Value} {v:Value} (w:World) (h:∀ W:World,Below w.heap.size w W→Calls Tryz.prog f args W fun e w'=>e = .returned v∧Below W.heap.size W w') (d:Nat) (os:Array Obj) :
  Calls Tryz.prog f args (grow (redrawn w d) os) fun e w''=>e = .returned v∧∃ p:Regrown,w''=grow (redrawn w p.d) p.os :=
 Calls.regrown_of (h _ (below_regrown w d os))
end
section
open Go.RowKit Go.Sort
section
variable {α:Type}
def Zm1 (EL:World→(Nat→Prop)→α→List Value→Prop):Prop :=
 ∀ (w w':World) (P P':Nat→Prop) (x:α) (vs:List Value),(∀ g,P g→g<w.heap.size→w'.heap[g]?=w.heap[g]?)→w.heap.size≤w'.heap.size→(∀ g,P g→g<w.heap.size→P' g)→EL w P x vs→EL w' P' x vs
structure RowM (EL:World→(Nat→Prop)→α→List Value→Prop) (k base:Nat) (wr:World) (lo:Nat) (bad:Nat→Prop) (ao:Option Addr) (n cp:Nat) (xs:List α) (vss:List (List Value)):Prop where
 own:OwnK wr lo k n cp vss.flatten ao
 len:vss.length=xs.length
 cnt:n=xs.length
 elk:∀ vs∈vss,vs.length=k
 each:∀ (i:Nat) (x:α) (vs:List Value),xs[i]?=some x→vss[i]?=some vs→EL wr (fun g=>base≤g∧¬ bad g∧blk ao≠some g) x vs
variable {EL:World→(Nat→Prop)→α→List Value→Prop} {k base:Nat}
theorem RowM.nil (wr:World) (lo:Nat) (bad:Nat→Prop):RowM EL k base wr lo bad none 0 0 [] [] :=
 ⟨.nil rfl rfl rfl,rfl,rfl,fun vs h=>absurd h List.not_mem_nil,fun i x vs h=>by simp at h⟩
theorem RowM.turn (hE:Zm1 EL) {wr w':World} {lo:Nat} {bad:Nat→Prop} {ao:Option Addr} {n cp:Nat} {xs:List α} {vss:List (List Value)} (h:RowM EL k base wr lo bad ao n cp xs vss) {p:Nat→Prop} (hb:Only wr w' p)
  (hp:∀ g,p g→bad g∨g<base) (ho:∀ g,blk ao=some g→¬ p g):RowM EL k base w' lo bad ao n cp xs vss:=by
 refine⟨h.own.of_block (fun g e hl=>hb.block g hl (ho g e)) hb.size,h.len,h.cnt,h.elk,fun i x vs hx hv=>hE _ _ _ _ _ _ (fun g hg hl=>hb.block g hl (fun hh=>?_)) hb.size (fun g hg _=>hg) (h.each i x vs hx hv)⟩;rcases hp g hh with h1 | h1
 ·exact hg.2.1 h1
 ·have:=hg.1;omega
theorem RowM.step (hE:Zm1 EL) {wr w':World} {lo:Nat} {bad:Nat→Prop} {ao:Option Addr} {n cp:Nat} {xs:List α} {vss:List (List Value)} (h:RowM EL k base wr lo bad ao n cp xs vss) (hb:Below wr.heap.size wr w'):RowM EL k base w' lo bad ao n cp xs vss :=
 h.turn hE (Only.of_below (p:=fun _=>False) hb) (fun g h=>h.elim) (fun g _ h=>h.elim)
theorem RowM.add (hE:Zm1 EL) {w0 w2 wa:World} {lo:Nat} {bad:Nat→Prop} {ao:Option Addr} {n cp g5 off5 c5:Nat} {xs:List α} {vss:List (List Value)} {x:α} {vs:List Value} (h:RowM EL k base w2 lo bad ao n cp xs vss)
  (hao:∀ g,blk ao=some g→g<w0.heap.size) (hb0:base≤w0.heap.size) (hbad:∀ g,bad g→g<w0.heap.size)
  (hx:EL w2 (fun g=>w0.heap.size≤g) x vs) (hk:vs.length=k) (ho:OwnK wa lo k (n+1) c5 (vss.flatten++vs) (some ⟨g5,off5,none⟩)) (hg:w2.grownBy wa (blk ao)) (hor:blk ao=some g5∨w2.heap.size≤g5) :
  RowM EL k base wa lo bad (some ⟨g5,off5,none⟩) (n+1) c5 (xs++[x]) (vss++[vs]):=by
 have hnew:∀ g,blk ao≠some g→g<w2.heap.size→blk (some (⟨g5,off5,none⟩:Addr))≠some g:=fun g hb hl e=>by
  have e':g5=g:=Option.some.inj e;subst e';rcases hor with h1 | h1
  ·exact hb h1
  ·omega
 refine⟨by rw[List.flatten_append];simpa using ho,by rw[List.length_append,List.length_append,h.len];rfl,by rw[List.length_append,← h.cnt];rfl,fun us hu=>?_,?_⟩
 ·rcases List.mem_append.1 hu with hu | hu
  ·exact h.elk us hu
  ·rw[List.mem_singleton] at hu;subst hu;exact hk
 intro i y us hq hu;have hlen:=h.len;by_cases hi:i<xs.length
 ·rw[List.getElem?_append_left hi] at hq
  rw[List.getElem?_append_left (by omega)] at hu;exact hE w2 wa (fun g=>base≤g∧¬ bad g∧blk ao≠some g) _ y us (fun g hx hl=>hg.block g hl (fun e=>hx.2.2 e.symm)) hg.size (fun g hx hl=>⟨hx.1,hx.2.1,hnew g hx.2.2 hl⟩) (h.each i y us hq hu)
 ·rw[List.getElem?_append_right (by omega)] at hq hu
  have hi1:i=xs.length:=by
   have:=(List.getElem?_eq_some_iff.1 hq).1;simp at this;omega
  subst hi1;rw[Nat.sub_self] at hq;rw[hlen,Nat.sub_self] at hu
  obtain rfl:x=y:=by simpa using hq
  obtain rfl:vs=us:=by simpa using hu
  have hne:∀ g,w0.heap.size≤g→blk ao≠some g:=fun g hge e=>by
   have:=hao g e;omega
  exact hE w2 wa (fun g=>w0.heap.size≤g) _ x vs (fun g hx hl=>hg.block g hl (fun e=>hne g hx e.symm)) hg.size (fun g hx hl=>⟨Nat.le_trans hb0 hx,fun hb=>by have:=hbad g hb;omega,hnew g (hne g hx) hl⟩) hx
theorem Zly (k:Nat):∀ (vss:List (List Value)),(∀ vs∈vss,vs.length=k)→∀ (i j:Nat) (vs:List Value),vss[i]?=some vs→j<k→vss.flatten[i*k+j]?=vs[j]?
 | [],_,i,j,vs,h,_=>by simp at h
 | us::vss,hk,0,j,vs,h,hj=>by
  obtain rfl:us=vs:=by simpa using h
  have:=hk us (List.mem_cons_self ..);rw[List.flatten_cons,List.getElem?_append_left (by omega)]
  congr 1;omega
 | us::vss,hk,i+1,j,vs,h,hj=>by
  have hl:=hk us (List.mem_cons_self ..);rw[List.flatten_cons,List.getElem?_append_right (by rw[hl,Nat.add_mul];omega),hl];rw[← Zly k vss (fun x hx=>hk x (List.mem_cons_of_mem _ hx)) i j vs (by simpa using h) hj]
  congr 1
  rw[Nat.add_mul];omega
theorem RowM.at {wr:World} {lo:Nat} {bad:Nat→Prop} {ao:Option Addr} {n cp:Nat} {xs:List α} {vss:List (List Value)} (h:RowM EL k base wr lo bad ao n cp xs vss) (i:Nat) (x:α) (hx:xs[i]?=some x) :
  ∃ g off vs,ao=some ⟨g,off,none⟩∧g<wr.heap.size∧lo≤g∧vss[i]?=some vs∧vs.length=k∧Zau wr g (off+i*k) vs∧EL wr (fun g=>base≤g∧¬ bad g∧blk ao≠some g) x vs:=by
 have hi:=(List.getElem?_eq_some_iff.1 hx).1
 have hil:i<vss.length:=by rw[h.len];exact hi
 have hv:vss[i]?=some vss[i]:=List.getElem?_eq_getElem hil;have hk:=h.elk vss[i] (List.getElem_mem hil);have hO:=h.own
 cases hao:ao with
 | none =>
  rw[hao] at hO
  cases hO with
  | nil h1 h2 h3=>have:=h.cnt;omega
 | some a =>
  rw[hao] at hO;obtain⟨g,off,si⟩:=a
  cases hO with
  | «at» g off h1 h2 h3 h4 =>
   refine⟨g,off,vss[i],rfl,h1.lt,h1.own,hv,hk,fun j u hj=>?_,hao ▸ h.each i x _ hx hv⟩;have hjk:=(List.getElem?_eq_some_iff.1 hj).1;have:=h1.cells (i*k+j) u (by rw[Zly k vss h.elk i j _ hv (by omega)];exact hj)
   rwa [← Nat.add_assoc] at this
end
def ClE (w:World) (P:Nat→Prop) (c:List Ky) (vs:List Value):Prop:=∃ ao cap,vs=[.slice ao c.length cap]∧(c=[]∨∃ g off,ao=some ⟨g,off,none⟩∧P g∧g<w.heap.size∧Zau w g off (c.flatMap kyC))
theorem ClE.keeps:Zm1 ClE:=fun w w' P P' c vs hb hs hP ⟨ao,cap,hv,hk⟩=>⟨ao,cap,hv,by
 rcases hk with hk | ⟨g,off,h1,h2,h3,h4⟩
 ·exact .inl hk
 ·exact .inr ⟨g,off,h1,hP g h2 h3,Nat.lt_of_lt_of_le h3 hs,h4.of_block (hb g h2 h3)⟩⟩
structure Chc where
 need:Int
 atoms:List Prd
end
section
open Go.RowKit Go.Shelf Go.Sort
section
variable {α:Type} [Inhabited α] (enc:α→Value)
end
def Z54 (w:World) (g base:Nat) (bad:Nat→Prop) (x:List Ky×Value):Prop :=
 ClE w (fun h=>base≤h∧¬ bad h∧h≠g) x.1 [x.2]∧(∀ k∈x.1,KyB k)∧x.1.length≤1000
abbrev GC (w:World) (g base:Nat) (bad:Nat→Prop):={x:List Ky×Value // Z54 w g base bad x}
instance (w:World) (g base:Nat) (bad:Nat→Prop):Inhabited (GC w g base bad):=⟨⟨([],.slice none 0 0),⟨none,0,rfl,.inl rfl⟩,by simp,by simp⟩⟩
theorem Zoq {α:Type} {p:α→Prop}:∀ (l:List α),(∀ x∈l,p x)→∃ d:List {x // p x},d.map (·.1)=l
 | [],_=>⟨[],rfl⟩
 | x::l,h=>by
  obtain⟨d,hd⟩:=Zoq l (fun y hy=>h y (List.mem_cons_of_mem _ hy));exact⟨⟨x,h x (List.mem_cons_self ..)⟩::d,by rw[List.map_cons,hd]⟩
end
section
theorem Zvz:∀ (j a i:Nat),a.testBit j=false→(a+2^j).testBit i=(decide (i=j)||a.testBit i)
 | 0,a,i,h=>by
  have h0:a%2=0:=by simpa [Nat.testBit_zero] using h
  cases i with
  | zero=>simp[Nat.testBit_zero];omega
  | succ i =>
   rw[Nat.testBit_succ,Nat.testBit_succ,show (a+2^0)/2=a/2 by simp;omega];simp
 | j+1,a,i,h=>by
  rw[Nat.testBit_succ] at h
  have e:(a+2^(j+1))/2=a/2+2^j:=by rw[Nat.pow_succ];omega
  cases i with
  | zero=>simp[Nat.testBit_zero,Nat.pow_succ]
  | succ i =>
   rw[Nat.testBit_succ,Nat.testBit_succ,e,Zvz j (a/2) i h];simp
end
section
mutual
theorem Zhp (f g:Ky→Bool):∀ p,(∀ k∈Zcq p,f k=true→g k=true)→Za5 f p=true→Za5 g p=true
 | .mk k l r c ks,h,ht=>by
  rw[Za5] at ht ⊢
  have hL:∀ x∈Zb1 ks,f x=true→g x=true:=fun x hx=>h x (by unfold Zcq;exact List.mem_append_right _ hx)
  have hc:=Zr3 f g ks hL;have hle:=Zvu g ks;by_cases h0:k=0
  ·rw[if_pos h0] at ht ⊢
   exact h _ (by unfold Zcq;simp[h0]) ht
  ·rw[if_neg h0] at ht ⊢
   by_cases h1:k=1
   ·rw[if_pos h1] at ht ⊢
    rw[beq_iff_eq] at ht ⊢;omega
   ·rw[if_neg h1] at ht ⊢
    by_cases h2:k=2
    ·rw[if_pos h2,decide_eq_true_eq] at ht ⊢
     omega
    ·rw[if_neg h2,decide_eq_true_eq] at ht ⊢
     omega
theorem Zr3 (f g:Ky→Bool):∀ ks,(∀ k∈Zb1 ks,f k=true→g k=true)→Zim f ks≤Zim g ks
 | [],_=>by simp[Zim]
 | p::ps,h=>by
  have h1:=Zhp f g p (fun k hk=>h k (by unfold Zb1;exact List.mem_append_left _ hk));have h2:=Zr3 f g ps (fun k hk=>h k (by unfold Zb1;exact List.mem_append_right _ hk));rw[Zim,Zim];by_cases ht:Za5 f p=true
  ·rw[if_pos ht,if_pos (h1 ht)];omega
  ·rw[if_neg ht];omega
end
theorem Zkb {f g:Ky→Bool} {p:Prd} (h:∀ k∈Zcq p,f k=g k):Za5 f p=Za5 g p:=by
 have h1:=Zhp f g p (fun k hk e=>by rw[← h k hk];exact e);have h2:=Zhp g f p (fun k hk e=>by rw[h k hk];exact e)
 cases hf:Za5 f p with
 | true=>rw[h1 hf]
 | false =>
  cases hg:Za5 g p with
  | false=>rfl
  | true=>rw[h2 hg] at hf;cases hf
theorem Zv0:∀ (n:Nat) (g:Nat→Bool),∃ a,a<2^n∧∀ j,j<n→a.testBit j=g j
 | 0,g=>⟨0,by simp,fun j hj=>absurd hj (Nat.not_lt_zero _)⟩
 | n+1,g=>by
  obtain⟨a,h1,h2⟩:=Zv0 n g;have hb:a.testBit n=false:=Nat.testBit_lt_two_pow h1
  cases hg:g n with
  | false =>
   refine⟨a,by rw[Nat.pow_succ];omega,fun j hj=>?_⟩;rcases Nat.lt_succ_iff_lt_or_eq.1 hj with h | rfl
   ·exact h2 j h
   ·rw[hb,hg]
  | true =>
   refine⟨a+2^n,by rw[Nat.pow_succ];omega,fun j hj=>?_⟩;rw[Zvz n a j hb];rcases Nat.lt_succ_iff_lt_or_eq.1 hj with h | rfl
   ·rw[h2 j h];simp;intro e;omega
   ·simp[hg]
end
section
def Zin (ns:List (List Nat)) (s:List Nat):Nat:=if s=[] then 0 else ns.idxOf s+1
def Zfs (ns:List (List Nat)) (s:List Nat):Bool:=s==[]||ns.contains s
theorem Zm2 {ns:List (List Nat)} {s:List Nat} (h:Zfs ns s=true):Zin ns s<ns.length+1:=by
 unfold Zin;by_cases e:s=[]
 ·rw[if_pos e];omega
 ·rw[if_neg e]
  unfold Zfs at h;rw[Bool.or_eq_true,beq_iff_eq] at h;rcases h with h | h
  ·exact absurd h e
  ·have:=List.idxOf_lt_length_iff.2 (by simpa using h:s∈ns)
   omega
def Zfc (ns:List (List Nat)) (k:Ky):Con:=⟨Zin ns k.l,Zin ns k.r,k.c⟩
def Zd6 (most:Int):Nat→List Con
 | 0=>[]
 | i+1=>Zd6 most i++[⟨0,i+1,0⟩,⟨i+1,0,most⟩]
theorem Zhq (most:Int):∀ n,(Zd6 most n).length=2*n
 | 0=>rfl
 | n+1=>by unfold Zd6;rw[List.length_append,Zhq most n];simp;omega
theorem Zdv (most:Int) (c:Con):∀ n,c∈Zd6 most n↔∃ i,i<n∧(c=⟨0,i+1,0⟩∨c=⟨i+1,0,most⟩)
 | 0=>by simp[Zd6]
 | n+1=>by
  unfold Zd6;rw[List.mem_append,Zdv most c n];constructor
  ·rintro (⟨i,hi,h⟩ | h)
   ·exact⟨i,by omega,h⟩
   ·exact⟨n,by omega,by simpa using h⟩
  ·rintro⟨i,hi,h⟩
   rcases Nat.lt_succ_iff_lt_or_eq.1 hi with h1 | rfl
   ·exact .inl ⟨i,h1,h⟩
   ·exact .inr (by simpa using h)
def Zcu (ns:List (List Nat)) (most:Int) (ks:List Ky):List Con:=ks.map (Zfc ns)++Zd6 most ns.length
def Zp0 (ns:List (List Nat)) (ks:List Ky):Prop:=∀ k∈ks,Zfs ns k.l=true∧Zfs ns k.r=true
theorem Ze3 {ns:List (List Nat)} {ks:List Ky} (h:Zp0 ns ks) (most:Int):InC (ns.length+1) (Zcu ns most ks):=by
 intro c hc;unfold Zcu at hc;rcases List.mem_append.1 hc with hc | hc
 ·obtain⟨k,hk,rfl⟩:=List.mem_map.1 hc
  exact⟨Zm2 (h k hk).1,Zm2 (h k hk).2⟩
 ·obtain⟨i,hi,h1 | h1⟩:=(Zdv most c ns.length).1 hc
  ·subst h1;exact⟨by simp,by simp only;omega⟩
  ·subst h1;exact⟨by simp only;omega,by simp⟩
def fK (ns:List (List Nat)) (u:Nat→Int) (k:Ky):Bool:=decide (u (Zin ns k.l)-u (Zin ns k.r)≤k.c)
theorem Zv1 (ns:List (List Nat)) (u:Nat→Int) (k:Ky):fK ns u (Ztf k)=!fK ns u k:=by
 unfold fK Ztf;by_cases h:u (Zin ns k.l)-u (Zin ns k.r)≤k.c
 ·rw[decide_eq_true h];simp only[Bool.not_true,decide_eq_false_iff_not];omega
 ·rw[decide_eq_false h];simp only[Bool.not_false,decide_eq_true_eq];omega
structure AsgN (n:Nat) (most:Int) (u:Nat→Int):Prop where
 zero:u 0=0
 rng:∀ i,i<n→0≤u (i+1)∧u (i+1)≤most
theorem Zhr {ns:List (List Nat)} {most:Int} {ks:List Ky} {u:Nat→Int}:SolC (ns.length+1) (Zcu ns most ks) u↔AsgN ns.length most u∧∀ k∈ks,fK ns u k=true:=by
 constructor
 ·intro h
  refine⟨⟨h.zero,fun i hi=>?_⟩,fun k hk=>?_⟩
  ·have h1:=h.meet ⟨0,i+1,0⟩ (List.mem_append_right _ ((Zdv _ _ _).2 ⟨i,hi,.inl rfl⟩))
   have h2:=h.meet ⟨i+1,0,most⟩ (List.mem_append_right _ ((Zdv _ _ _).2 ⟨i,hi,.inr rfl⟩));have h0:=h.zero;unfold Zii at h1 h2;simp only at h1 h2;omega
  ·have:=h.meet (Zfc ns k) (List.mem_append_left _ (List.mem_map.2 ⟨k,hk,rfl⟩))
   unfold fK;rw[decide_eq_true_eq];exact this
 ·rintro⟨h1,h2⟩
  refine⟨h1.zero,fun i hi=>?_,fun c hc=>?_⟩
  ·cases i with
   | zero=>rw[h1.zero];exact Int.le_refl _
   | succ i=>exact (h1.rng i (by omega)).1
  ·unfold Zcu at hc
   rcases List.mem_append.1 hc with hc | hc
   ·obtain⟨k,hk,rfl⟩:=List.mem_map.1 hc
    have h3:=h2 k hk;unfold fK at h3;rw[decide_eq_true_eq] at h3;exact h3
   ·have h0:=h1.zero
    obtain⟨i,hi,h3 | h3⟩:=(Zdv most c ns.length).1 hc
    ·subst h3;have:=h1.rng i hi;unfold Zii;simp only;omega
    ·subst h3;have:=h1.rng i hi;unfold Zii;simp only;omega
def Zeh (k:Ky):Ky×Bool:=if ltL k.r k.l=true then (Ztf k,false) else (k,true)
theorem Zor (ns:List (List Nat)) (u:Nat→Int) (k:Ky):fK ns u k=if (Zeh k).2=true then fK ns u (Zeh k).1 else !fK ns u (Zeh k).1:=by
 unfold Zeh;by_cases h:ltL k.r k.l=true
 ·rw[if_pos h,if_neg (by simp),Zv1];simp
 ·rw[if_neg h,if_pos rfl]
def Zv2 (ks:List Ky):List Ky:=((ks.map (fun k=>(Zeh k).1)).filter (fun k=>!Zzn k)).foldl Zmp []
def Za7 (ps:List Prd):List Ky:=Zv2 (ps.flatMap Zam)
theorem Zos (ks:List Ky) (x:Ky):x∈Zv2 ks↔Zzn x=false∧∃ k∈ks,(Zeh k).1=x:=by
 unfold Zv2;rw[Zfk];simp[List.mem_filter,and_comm]
theorem Zv3 (k:Ky):((Zeh k).1.l=k.l∧(Zeh k).1.r=k.r)∨((Zeh k).1.l=k.r∧(Zeh k).1.r=k.l):=by
 unfold Zeh;by_cases h:ltL k.r k.l=true
 ·rw[if_pos h];exact .inr ⟨rfl,rfl⟩
 ·rw[if_neg h];exact .inl ⟨rfl,rfl⟩
theorem Zv4 {ns:List (List Nat)} {ks:List Ky} (h:Zp0 ns ks):Zp0 ns (Zv2 ks):=by
 intro x hx;obtain⟨-,k,hk,rfl⟩:=(Zos ks x).1 hx;obtain⟨h1,h2⟩:=h k hk;rcases Zv3 k with ⟨e1,e2⟩ | ⟨e1,e2⟩
 ·rw[e1,e2];exact⟨h1,h2⟩
 ·rw[e1,e2];exact⟨h2,h1⟩
theorem Z2t (ns:List (List Nat)) (u:Nat→Int) (k:Ky) (h:Zzn k=true):fK ns u k=decide (0≤k.c):=by
 unfold fK;unfold Zzn at h;rw[beq_iff_eq] at h;rw[h,Int.sub_self]
theorem Zth {ns:List (List Nat)} {ks:List Ky} {u v:Nat→Int} (h:∀ x∈Zv2 ks,fK ns u x=fK ns v x):∀ k∈ks,fK ns u k=fK ns v k:=by
 intro k hk;rw[Zor,Zor (u:=v)]
 have e:fK ns u (Zeh k).1=fK ns v (Zeh k).1:=by
  cases hc:Zzn (Zeh k).1 with
  | true=>rw[Z2t _ _ _ hc,Z2t _ _ _ hc]
  | false=>exact h _ ((Zos ks _).2 ⟨hc,k,hk,rfl⟩)
 rw[e]
theorem Zqj {ns:List (List Nat)} {ps:List Prd} {u v:Nat→Int} (h:∀ x∈Za7 ps,fK ns u x=fK ns v x) (p:Prd) (hp:p∈ps):Za5 (fK ns u) p=Za5 (fK ns v) p :=
 Zkb (fun k hk=>Zth h k (List.mem_flatMap.2 ⟨p,hp,(Zb8 p k).2 hk⟩))
def sgK (ks:List Ky) (set:Nat):Nat→List Ky
 | 0=>[]
 | j+1=>sgK ks set j++(match ks[j]? with | some k=>[if set.testBit j=true then k else Ztf k] | none=>[])
theorem Zkc (ks:List Ky) (set:Nat) (x:Ky):∀ j,x∈sgK ks set j↔∃ i k,i<j∧ks[i]?=some k∧x=if set.testBit i=true then k else Ztf k
 | 0=>by simp[sgK]
 | j+1=>by
  unfold sgK;rw[List.mem_append,Zkc ks set x j];constructor
  ·rintro (⟨i,k,h1,h2,h3⟩ | h)
   ·exact⟨i,k,by omega,h2,h3⟩
   ·cases hk:ks[j]? with
    | none=>rw[hk] at h;cases h
    | some k=>rw[hk] at h;exact⟨j,k,by omega,hk,by simpa using h⟩
  ·rintro⟨i,k,h1,h2,h3⟩
   rcases Nat.lt_succ_iff_lt_or_eq.1 h1 with h | rfl
   ·exact .inl ⟨i,k,h,h2,h3⟩
   ·right;rw[h2];simpa using h3
theorem Zv5 (ks:List Ky) (set:Nat):∀ j,j≤ks.length→(sgK ks set j).length=j
 | 0,_=>rfl
 | j+1,h=>by
  unfold sgK;rw[List.length_append,Zv5 ks set j (by omega),List.getElem?_eq_getElem (by omega)];rfl
theorem Zgx (ns:List (List Nat)) (u:Nat→Int) (ks:List Ky) (set:Nat):(∀ x∈sgK ks set ks.length,fK ns u x=true)↔∀ i k,ks[i]?=some k→fK ns u k=set.testBit i:=by
 constructor
 ·intro h i k hk
  have h1:=h _ ((Zkc ks set _ _).2 ⟨i,k,(List.getElem?_eq_some_iff.1 hk).1,hk,rfl⟩);by_cases hb:set.testBit i=true
  ·rw[if_pos hb] at h1;rw[h1,hb]
  ·rw[if_neg hb,Zv1] at h1
   have:set.testBit i=false:=by simpa using hb
   rw[this];simpa using h1
 ·intro h x hx
  obtain⟨i,k,h1,h2,rfl⟩:=(Zkc ks set _ _).1 hx;have:=h i k h2;by_cases hb:set.testBit i=true
  ·rw[if_pos hb,this,hb]
  ·rw[if_neg hb,Zv1,this];simpa using hb
theorem Zhs {ns:List (List Nat)} {ks:List Ky} (h:Zp0 ns ks) (set:Nat):Zp0 ns (sgK ks set ks.length):=by
 intro x hx;obtain⟨i,k,h1,h2,rfl⟩:=(Zkc ks set _ _).1 hx;obtain⟨h3,h4⟩:=h k (List.mem_of_getElem? h2);by_cases hb:set.testBit i=true
 ·rw[if_pos hb];exact⟨h3,h4⟩
 ·rw[if_neg hb];exact⟨h4,h3⟩
def trU (ns:List (List Nat)) (ps:List Prd) (u:Nat→Int):List Bool:=ps.map (fun p=>Za5 (fK ns u) p)
def Zco (ns:List (List Nat)) (most:Int) (ks:List Ky) (ps:List Prd):Nat→List (List Int×List Bool)
 | 0=>[]
 | s+1=>Zco ns most ks ps s++(match Zdn ns.length (Zcu ns most (sgK ks s ks.length)) with | some v=>[(v,trU ns ps (gv v))] | none=>[])
theorem Zer (ns:List (List Nat)) (most:Int) (ks:List Ky) (ps:List Prd) (c:List Int×List Bool):∀ s,c∈Zco ns most ks ps s↔∃ t,t<s∧Zdn ns.length (Zcu ns most (sgK ks t ks.length))=some c.1∧c.2=trU ns ps (gv c.1)
 | 0=>by simp[Zco]
 | s+1=>by
  unfold Zco;rw[List.mem_append,Zer ns most ks ps c s];constructor
  ·rintro (⟨t,h1,h2,h3⟩ | h)
   ·exact⟨t,by omega,h2,h3⟩
   ·cases hk:Zdn ns.length (Zcu ns most (sgK ks s ks.length)) with
    | none=>rw[hk] at h;cases h
    | some v =>
     rw[hk] at h
     obtain rfl:c=(v,trU ns ps (gv v)):=by simpa using h
     exact⟨s,by omega,hk,rfl⟩
  ·rintro⟨t,h1,h2,h3⟩
   rcases Nat.lt_succ_iff_lt_or_eq.1 h1 with h | rfl
   ·exact .inl ⟨t,h,h2,h3⟩
   ·right;rw[h2]
    obtain⟨c1,c2⟩:=c;simp only at h3 ⊢;rw[h3];simp
theorem Zht (ns:List (List Nat)) (most:Int) (ks:List Ky) (ps:List Prd):∀ s,(Zco ns most ks ps s).length≤s
 | 0=>Nat.le_refl _
 | s+1=>by
  unfold Zco;have:=Zht ns most ks ps s;rw[List.length_append];cases Zdn ns.length (Zcu ns most (sgK ks s ks.length))<;>simp<;>omega
def Zfd:List Int→List Int→Int
 | [],[]=>0
 | [],_::_=>-1
 | _::_,[]=>1
 | x::xs,y::ys=>if Znr x y≠0 then Znr x y else Zfd xs ys
theorem Zti (x y:Int):(x<y∧Znr x y = -1)∨(x=y∧Znr x y=0)∨(y<x∧Znr x y=1):=by
 unfold Znr;by_cases h:x<y
 ·left;rw[if_pos h];exact⟨h,rfl⟩
 ·rw[if_neg h]
  by_cases h2:x=y
  ·right;left;rw[if_pos h2];exact⟨h2,rfl⟩
  ·right;right;rw[if_neg h2];exact⟨by omega,rfl⟩
theorem Zbr (x y:Int) (a b:List Int):(x<y∧Zfd (x::a) (y::b) = -1)∨(x=y∧Zfd (x::a) (y::b)=Zfd a b)∨(y<x∧Zfd (x::a) (y::b)=1):=by
 have e:Zfd (x::a) (y::b)=if Znr x y≠0 then Znr x y else Zfd a b:=by rw[Zfd]
 rw[e];rcases Zti x y with ⟨h1,h2⟩ | ⟨h1,h2⟩ | ⟨h1,h2⟩
 ·left;rw[h2,if_pos (by decide)];exact⟨h1,rfl⟩
 ·right;left;rw[h2,if_neg (by simp)];exact⟨h1,rfl⟩
 ·right;right;rw[h2,if_pos (by decide)];exact⟨h1,rfl⟩
theorem Zft:∀ a b:List Int,Zfd a b=0↔a=b
 | [],[]=>by simp[Zfd]
 | [],_::_=>by simp[Zfd]
 | _::_,[]=>by simp[Zfd]
 | x::a,y::b=>by
  rcases Zbr x y a b with ⟨h1,h2⟩ | ⟨h1,h2⟩ | ⟨h1,h2⟩
  ·rw[h2];constructor
   ·intro h;cases h
   ·intro h;injection h with e1 e2;omega
  ·rw[h2,Zft a b];subst h1;simp
  ·rw[h2];constructor
   ·intro h;cases h
   ·intro h;injection h with e1 e2;omega
theorem Zdc:∀ a b:List Int,Zfd a b = - Zfd b a
 | [],[]=>rfl
 | [],_::_=>rfl
 | _::_,[]=>rfl
 | x::a,y::b=>by
  have h:=Zdc a b;rcases Zbr x y a b with ⟨h1,h2⟩ | ⟨h1,h2⟩ | ⟨h1,h2⟩
  ·rcases Zbr y x b a with ⟨h3,h4⟩ | ⟨h3,h4⟩ | ⟨h3,h4⟩<;>first | omega | (rw[h2,h4];rfl)
  ·rcases Zbr y x b a with ⟨h3,h4⟩ | ⟨h3,h4⟩ | ⟨h3,h4⟩<;>omega
  ·rcases Zbr y x b a with ⟨h3,h4⟩ | ⟨h3,h4⟩ | ⟨h3,h4⟩<;>first | omega | (rw[h2,h4])
theorem Zes:∀ a b c:List Int,Zfd a b≤0→Zfd b c≤0→Zfd a c≤0
 | [],_,[],_,_=>by simp[Zfd]
 | [],_,_::_,_,_=>by simp[Zfd]
 | _::_,[],_,h,_=>by simp[Zfd] at h
 | _::_,_::_,[],_,h=>by simp[Zfd] at h
 | x::a,y::b,z::c,h1,h2=>by
  rcases Zbr x y a b with ⟨e1,e2⟩ | ⟨e1,e2⟩ | ⟨e1,e2⟩
  ·rcases Zbr y z b c with ⟨f1,f2⟩ | ⟨f1,f2⟩ | ⟨f1,f2⟩
   ·rcases Zbr x z a c with ⟨g1,g2⟩ | ⟨g1,g2⟩ | ⟨g1,g2⟩<;>omega
   ·rcases Zbr x z a c with ⟨g1,g2⟩ | ⟨g1,g2⟩ | ⟨g1,g2⟩<;>omega
   ·omega
  ·rcases Zbr y z b c with ⟨f1,f2⟩ | ⟨f1,f2⟩ | ⟨f1,f2⟩
   ·rcases Zbr x z a c with ⟨g1,g2⟩ | ⟨g1,g2⟩ | ⟨g1,g2⟩<;>omega
   ·have:=Zes a b c (by omega) (by omega)
    rcases Zbr x z a c with ⟨g1,g2⟩ | ⟨g1,g2⟩ | ⟨g1,g2⟩<;>omega
   ·omega
  ·omega
def leV (a b:List Int×List Bool):Bool:=decide (Zfd a.1 b.1≤0)
theorem Zot (a b c:List Int×List Bool) (h1:leV a b=true) (h2:leV b c=true):leV a c=true:=by
 unfold leV at *;rw[decide_eq_true_eq] at *;exact Zes _ _ _ h1 h2
theorem Zou (a b:List Int×List Bool):(leV a b||leV b a)=true:=by
 unfold leV;rw[Bool.or_eq_true,decide_eq_true_eq,decide_eq_true_eq];have:=Zdc a.1 b.1;omega
def Zcz (ns:List (List Nat)) (most:Int) (ks:List Ky) (ps:List Prd):List (List Int×List Bool):=(Zco ns most ks ps (2^ks.length)).mergeSort leV
theorem Zv6:∀ a b:List Int,a.length=b.length→(∀ i,gv a i≤gv b i)→Zfd a b≤0
 | [],[],_,_=>by simp[Zfd]
 | [],_::_,h,_=>by simp at h
 | _::_,[],h,_=>by simp at h
 | x::a,y::b,h,hp=>by
  have h0:x≤y:=hp 0;have:=Zv6 a b (by simpa using h) (fun i=>hp (i+1));rcases Zbr x y a b with ⟨e1,e2⟩ | ⟨e1,e2⟩ | ⟨e1,e2⟩<;>omega
structure AsgL (n:Nat) (most:Int) (v:List Int):Prop where
 len:v.length=n+1
 asg:AsgN n most (gv v)
theorem Zm3 {ns:List (List Nat)} {most:Int} {ps:List Prd} {ks:List Ky} (hk:Zp0 ns ks) {c:List Int×List Bool} (h:c∈Zco ns most ks ps (2^ks.length)):AsgL ns.length most c.1∧c.2=trU ns ps (gv c.1):=by
 obtain⟨t,h1,h2,h3⟩:=(Zer ns most ks ps c _).1 h;obtain⟨a1,a2,a3⟩:=Zc1 (Ze3 (Zhs hk t) most) h2;exact⟨⟨a1,(Zhr.1 a2).1⟩,h3⟩
theorem Zr4 {ns:List (List Nat)} {most:Int} {ps:List Prd} (hk:Zp0 ns (Za7 ps)) {u:List Int} (hu:AsgL ns.length most u):∃ c∈Zco ns most (Za7 ps) ps (2^(Za7 ps).length),Zfd c.1 u≤0∧c.2=trU ns ps (gv u):=by
 generalize hks:Za7 ps=ks at *;obtain⟨set,hs1,hs2⟩:=Zv0 ks.length (fun i=>match ks[i]? with | some k=>fK ns (gv u) k | none=>false)
 have hbit:∀ i k,ks[i]?=some k→fK ns (gv u) k=set.testBit i:=fun i k h=>by
  rw[hs2 i (List.getElem?_eq_some_iff.1 h).1,h]
 have hsol:SolC (ns.length+1) (Zcu ns most (sgK ks set ks.length)) (gv u):=Zhr.2 ⟨hu.asg,(Zgx ns (gv u) ks set).2 hbit⟩
 cases hl:Zdn ns.length (Zcu ns most (sgK ks set ks.length)) with
 | none=>exact absurd hsol (Zp7 (Ze3 (Zhs hk set) most) hl _)
 | some v =>
  obtain⟨a1,a2,a3⟩:=Zc1 (Ze3 (Zhs hk set) most) hl;refine⟨(v,trU ns ps (gv v)),(Zer ns most ks ps _ _).2 ⟨set,hs1,hl,rfl⟩,?_,?_⟩
  ·refine Zv6 v u (a1.trans hu.len.symm) (fun i=>?_)
   by_cases hi:i<ns.length+1
   ·exact a3 (gv u) hsol i hi
   ·unfold gv
    rw[List.getD_eq_getElem?_getD,List.getD_eq_getElem?_getD,List.getElem?_eq_none (by rw[a1];omega),List.getElem?_eq_none (by rw[hu.len];omega)];exact Int.le_refl _
  ·unfold trU
   refine List.map_congr_left (fun p hp=>?_);refine Zqj (fun x hx=>?_) p hp;rw[hks] at hx;obtain⟨i,hi⟩:=List.mem_iff_getElem?.1 hx;rw[hbit i x hi];exact (Zgx ns (gv v) ks set).1 (Zhr.1 a2).2 i x hi
theorem Zkd {ns:List (List Nat)} {most:Int} {ps:List Prd} {ks:List Ky} (hk:Zp0 ns ks):∀ s,s≤2^ks.length→((Zco ns most ks ps s).map Prod.fst).Nodup
 | 0,_=>by simp[Zco]
 | s+1,hs=>by
  unfold Zco;have ih:=Zkd (most:=most) (ps:=ps) hk s (by omega)
  cases hl:Zdn ns.length (Zcu ns most (sgK ks s ks.length)) with
  | none=>simpa using ih
  | some v =>
   rw[List.map_append];refine List.nodup_append.2 ⟨ih,by simp,fun a ha b hb e=>?_⟩
   have hb':b=v:=by simpa using hb
   subst hb';subst e;obtain⟨c,hc,rfl⟩:=List.mem_map.1 ha;obtain⟨t,h1,h2,h3⟩:=(Zer ns most ks ps c s).1 hc;have e1:=(Zgx ns (gv c.1) ks t).1 (Zhr.1 (Zc1 (Ze3 (Zhs hk t) most) h2).2.1).2;have e2:=(Zgx ns (gv c.1) ks s).1 (Zhr.1 (Zc1 (Ze3 (Zhs hk s) most) hl).2.1).2
   have:t=s:=Nat.eq_of_testBit_eq (fun i=>by
    by_cases hi:i<ks.length
    ·rw[← e1 i ks[i] (List.getElem?_eq_getElem hi),← e2 i ks[i] (List.getElem?_eq_getElem hi)]
    ·have hp:2^ks.length≤2^i:=Nat.pow_le_pow_right (by omega) (by omega)
     rw[Nat.testBit_lt_two_pow (by omega),Nat.testBit_lt_two_pow (by omega)])
   omega
theorem Zov {ns:List (List Nat)} {most:Int} {ps:List Prd} {ks:List Ky} (hk:Zp0 ns ks) {l:List (List Int×List Bool)} (hp:l.Perm (Zco ns most ks ps (2^ks.length))) (hs:l.Pairwise (fun a b=>leV a b=true)):l=Zcz ns most ks ps:=by
 unfold Zcz;have hnd:=Zkd (most:=most) (ps:=ps) hk _ (Nat.le_refl _);refine List.Perm.eq_of_pairwise (le:=fun a b=>leV a b=true) (fun a b ha hb h1 h2=>?_) hs (List.pairwise_mergeSort Zot Zou _) (hp.trans (List.mergeSort_perm _ leV).symm)
 have e:a.1=b.1:=by
  unfold leV at h1 h2;rw[decide_eq_true_eq] at h1 h2;have:=Zdc a.1 b.1;exact (Zft _ _).1 (by omega)
 have ha':=hp.mem_iff.1 ha;have hb':=(List.mergeSort_perm _ leV).mem_iff.1 hb;have h3:=(Zm3 hk ha').2;have h4:=(Zm3 hk hb').2;obtain⟨a1,a2⟩:=a;obtain⟨b1,b2⟩:=b;simp only at e h3 h4;subst e;rw[h3,h4]
theorem Z0m {ns:List (List Nat)} {most:Int} {ps:List Prd} (hk:Zp0 ns (Za7 ps)) (f:List Bool→Bool) :
  (∀ c,(Zcz ns most (Za7 ps) ps).find? (fun c=>f c.2)=some c→AsgL ns.length most c.1∧c.2=trU ns ps (gv c.1)∧f (trU ns ps (gv c.1))=true∧∀ u,AsgL ns.length most u→f (trU ns ps (gv u))=true→Zfd c.1 u≤0) ∧
  ((Zcz ns most (Za7 ps) ps).find? (fun c=>f c.2)=none→∀ u,AsgL ns.length most u→f (trU ns ps (gv u))=false):=by
 have hmem:∀ c,c∈Zcz ns most (Za7 ps) ps↔c∈Zco ns most (Za7 ps) ps (2^(Za7 ps).length):=fun c=>(List.mergeSort_perm _ leV).mem_iff
 have hsort:(Zcz ns most (Za7 ps) ps).Pairwise (fun a b=>leV a b=true):=List.pairwise_mergeSort Zot Zou _;generalize Zcz ns most (Za7 ps) ps=L at *;constructor
 ·intro c hc
  obtain⟨h1,i,hi,h2,h3⟩:=List.find?_eq_some_iff_getElem.1 hc
  have hcm:c∈L:=by rw[← h2];exact List.getElem_mem _
  obtain⟨a1,a2⟩:=Zm3 hk ((hmem c).1 hcm);refine⟨a1,a2,by rw[← a2];exact h1,fun u hu hf=>?_⟩;obtain⟨c',b1,b2,b3⟩:=Zr4 hk hu;obtain⟨j,hj,rfl⟩:=List.mem_iff_getElem.1 ((hmem c').2 b1)
  have hij:i≤j:=Nat.le_of_not_lt (fun hlt=>by
   have:=h3 j hlt;rw[b3,hf] at this
   cases this)
  have hle:Zfd c.1 L[j].1≤0:=by
   rcases Nat.lt_or_ge i j with h | h
   ·have:=List.pairwise_iff_getElem.1 hsort i j hi hj h
    rw[h2] at this;exact of_decide_eq_true this
   ·obtain rfl:i=j:=by omega
    rw[h2,(Zft c.1 c.1).2 rfl];exact Int.le_refl _
  exact Zes _ _ _ hle b2
 ·intro hn u hu
  obtain⟨c',b1,b2,b3⟩:=Zr4 hk hu;have:=List.find?_eq_none.1 hn c' ((hmem c').2 b1);rw[b3] at this;simpa using this
end
section
def leI (a b:Int):Bool:=decide (a≤b)
end
end Go.Proofs.YtbcgocpihobjnaaGreatDoor
