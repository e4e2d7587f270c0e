import Derived.WideKeyEntry
import Derived.Test.YtbcgocpihobjnaaGreatDoorCT36
import Derived.Test.YtbcgocpihobjnaaGreatDoorCT1
set_option linter.unusedVariables false
set_option linter.unusedSimpArgs false
namespace Go.Proofs.YtbcgocpihobjnaaGreatDoor
section
open Go.RowKit Go.Sort Go.Maps
def Zs6 (c:Crw) (i:Nat):Int:=(c.us.getD i ⟨0,0,0,0⟩).w
def Zwh (c:Crw) (l:List Int) (n:Nat) (m v:Int):Nat:=(List.range n).countP (fun j=>l.getD j 0==m&&Zs6 c j==v)
def Zwi (c:Crw) (l:List Int) (i:Nat):Bool:=Zcj (l.getD i 0) c.ms.length&&((Zau c).getD i []).getD (l.getD i 0).toNat false&&decide (((Zwh c l (i+1) (l.getD i 0) (Zs6 c i):Nat):Int)≤Zch (c.ms.getD (l.getD i 0).toNat ⟨[],[],0⟩).t (Zs6 c i).toNat)
def Zwj (c:Crw) (l:List Int):Bool:=Zak c&&decide (l.length=c.us.length)&&(List.range l.length).all (Zwi c l)
end
section
open Go.RowKit Go.Sort Go.Maps
theorem Zs7 {T:Tbl} (h:Zb6 T=true):∃ a,Legal T a:=(Zjo T).1 h
def Z0y (u n:Nat) (l:List Nat) (b:Nat→Nat):Prop:=(∀ i,i<n→b (u+i)=l.getD i 0)∨∃ k,k<n∧(∀ i,i<k→b (u+i)=l.getD i 0)∧l.getD k 0<b (u+k)
theorem Zh5 {p:Nat→Bool} {n m:Nat} (h:(List.range n).find? p=some m):m<n∧p m=true∧∀ k,k<m→p k=false:=by
 obtain⟨h1,h2⟩:=List.find?_eq_some_iff_append.1 h
 obtain⟨pr,bs,h3,h4⟩:=h2
 have hm:m∈List.range n:=by rw[h3];simp
 have hm:=List.mem_range.1 hm
 refine⟨hm,h1,fun k hk=>?_⟩
 have hlen:pr.length=m:=by
  have h5:(List.range n)[pr.length]?=some m:=by rw[h3];simp
  rw[List.getElem?_range (by
   have:=congrArg List.length h3
   simp at this;omega)] at h5
  exact Option.some.inj h5
 have hka:k<pr.length:=by omega
 have h6:pr[k]=k:=by
  have h5:(List.range n)[k]?=pr[k]?:=by rw[h3,List.getElem?_append_left hka]
  rw[List.getElem?_range (by omega),List.getElem?_eq_getElem hka] at h5
  exact (Option.some.inj h5).symm
 have:=h4 pr[k] (List.getElem_mem hka)
 rw[h6] at this
 simpa using this
theorem Zh6 {p:Nat→Bool} {n:Nat} (h:(List.range n).find? p=none) (k:Nat) (hk:k<n):p k=false:=by
 have:=List.find?_eq_none.1 h k (List.mem_range.2 hk)
 simpa using this
theorem Zjf {c:Crw}:∀ (n u:Nat) (C:List (List Bool)) (out:List Nat),n+u=c.us.length→out.length=u→ReckOk c C→(∃ a,Legal (Zat c C) a)→(∀ a,Legal (Zat c C) a→∀ j,j<u→a j=out.getD j 0) →
  ∃ rest:List Nat,Za1 c n u C out=out++rest∧rest.length=n∧(∀ b,Legal (Zat c C) b→Z0y u n rest b)∧∃ a,Legal (Zat c C) a∧∀ j,j<c.us.length→a j=(out++rest).getD j 0
 | 0,u,C,out,hn,hl,hok,⟨a,ha⟩,hpre=>⟨[],by rw[Za1,List.append_nil],rfl,fun b _=>.inl (fun i hi=>absurd hi (Nat.not_lt_zero i)),a,ha,fun j hj=>by rw[List.append_nil];exact hpre a ha j (by omega)⟩
 | n+1,u,C,out,hn,hl,hok,⟨a,ha⟩,hpre=>by
  have hu:u<c.us.length:=by omega
  have hau:a u<c.ms.length:=ha.mem u hu
  have hpa:Zii c C u (a u)=true:=(Zka hok hu hau).2 ⟨a,ha,rfl⟩
  rw[Za1]
  cases hm:Zmj c C u with
  | none =>
   have:=Zh6 hm (a u) hau
   rw[hpa] at this;cases this
  | some m =>
   obtain⟨hm1,hm2,hm3⟩:=Zh5 hm
   have hfx:∀ b,Legal (Zat c (Zbi c C u m)) b↔Legal (Zat c C) b∧b u=m:=fun b=>Zdk hok hu hm1 b
   obtain⟨a1,ha1,hau1⟩:=(Zka hok hu hm1).1 hm2
   obtain⟨rest,h1,h2,h3,a2,h4,h5⟩:=Zjf n (u+1) (Zbi c C u m) (out++[m]) (by omega) (by rw[List.length_append,hl];rfl) (hok.fix u m) ⟨a1,(hfx a1).2 ⟨ha1,hau1⟩⟩ (fun b hb j hj=>by
    obtain⟨hb1,hb2⟩:=(hfx b).1 hb
    by_cases e:j=u
    ·subst e
     rw[hb2,List.getD_eq_getElem?_getD,List.getElem?_append_right (by omega),hl];simp
    ·rw[hpre b hb1 j (by omega),List.getD_eq_getElem?_getD,List.getD_eq_getElem?_getD,List.getElem?_append_left (by omega)])
   refine⟨m::rest,by show Za1 c n (u+1) (Zbi c C u m) (out++[m])=_;rw[h1,List.append_assoc];rfl,by rw[List.length_cons,h2],fun b hb=>?_,a2,((hfx a2).1 h4).1,fun j hj=>by rw[h5 j hj,List.append_assoc];rfl⟩
   have hbu:b u<c.ms.length:=hb.mem u hu
   have hpb:Zii c C u (b u)=true:=(Zka hok hu hbu).2 ⟨b,hb,rfl⟩
   by_cases e:b u=m
   ·rcases h3 b ((hfx b).2 ⟨hb,e⟩) with h6 | ⟨k,hk,h6,h7⟩
    ·refine .inl (fun i hi=>?_)
     cases i with
     | zero=>exact e
     | succ i=>rw[show u+(i+1)=u+1+i by omega,h6 i (by omega)];rfl
    ·refine .inr ⟨k+1,by omega,fun i hi=>?_,by rw[show u+(k+1)=u+1+k by omega];exact h7⟩
     cases i with
     | zero=>exact e
     | succ i=>rw[show u+(i+1)=u+1+i by omega,h6 i (by omega)];rfl
   ·refine .inr ⟨0,by omega,fun i hi=>absurd hi (Nat.not_lt_zero i),?_⟩
    show m<b u
    rcases Nat.lt_or_ge m (b u) with h | h
    ·exact h
    ·have:=hm3 (b u) (by omega)
     rw[hpb] at this;cases this
theorem Zqf {c:Crw} {C:List (List Bool)} (hok:ReckOk c C) (hf:Zb6 (Zat c C)=true):(Za1 c c.us.length 0 C []).length=c.us.length∧Legal (Zat c C) (aOf (Za1 c c.us.length 0 C []))∧∀ b,Legal (Zat c C) b→Z0y 0 c.us.length (Za1 c c.us.length 0 C []) b:=by
 obtain⟨rest,h1,h2,h3,a,h4,h5⟩:=Zjf (c:=c) c.us.length 0 C [] rfl rfl hok (Zs7 hf) (fun a _ j hj=>absurd hj (Nat.not_lt_zero j))
 rw[List.nil_append] at h1 h5
 rw[h1]
 exact⟨h2,Zhh (fun u hu=>h5 u hu) h4,h3⟩
theorem Znt {c:Crw} {C:List (List Bool)} (hok:ReckOk c C) {m:Nat} (hm:m<c.ms.length) (w:Nat):0≤Zch (c.ms.getD m ⟨[],[],0⟩).t w:=by
 rw[List.getD_eq_getElem?_getD,List.getElem?_eq_getElem hm,Option.getD_some]
 have h:=(hok.tic c.ms[m] (List.getElem_mem hm)).1
 unfold Zch
 rw[List.getD_eq_getElem?_getD]
 cases h1:(c.ms[m].t)[w]? with
 | none=>exact Int.le_refl _
 | some t=>exact (h t (List.mem_of_getElem? h1)).1
theorem Zo8 {c:Crw} {C:List (List Bool)} (hok:ReckOk c C) {m:Nat} (hm:m<c.ms.length) (w:Nat):(((Zat c C).cap m w:Nat):Int)=Zch (c.ms.getD m ⟨[],[],0⟩).t w:=Int.toNat_of_nonneg (Znt hok hm w)
theorem Zke {c:Crw} {C:List (List Bool)} (hok:ReckOk c C) {u:Nat} (hu:u<c.us.length):0≤Zs6 c u∧Zs6 c u≤15∧(((Zat c C).win u:Nat):Int)=Zs6 c u:=by
 have h:(c.us.getD u ⟨0,0,0,0⟩)=c.us[u]:=by rw[List.getD_eq_getElem?_getD,List.getElem?_eq_getElem hu,Option.getD_some]
 have h1:=hok.win c.us[u] (List.getElem_mem hu)
 have h2:Zs6 c u=c.us[u].w:=by unfold Zs6;rw[h]
 have h3:(Zat c C).win u=c.us[u].w.toNat:=by show (c.us.getD u ⟨0,0,0,0⟩).w.toNat=_;rw[h]
 rw[h2,h3]
 exact⟨h1.1,h1.2,Int.toNat_of_nonneg h1.1⟩
theorem Zdr {x:Int} {n:Nat}:Zcj x n=true↔0≤x∧x.toNat<n:=by
 unfold Zcj inB
 rw[Bool.and_eq_true,decide_eq_true_eq,decide_eq_true_eq]
 omega
theorem Zh7 (p:Nat→Bool) (n cap:Nat):(∀ i,i<n→p i=true→(List.range (i+1)).countP p≤cap)↔(List.range n).countP p≤cap:=by
 constructor
 ·intro h
  induction n with
  | zero=>exact Nat.zero_le _
  | succ n ih =>
   by_cases hp:p n=true
   ·exact h n (by omega) hp
   ·rw[List.range_succ,List.countP_append]
    have:List.countP p [n]=0:=by simp[hp]
    rw[this,Nat.add_zero]
    exact ih (fun i hi=>h i (by omega))
 ·intro h i hi _
  refine Nat.le_trans ?_ h
  obtain⟨k,rfl⟩:∃ k,n=i+1+k:=⟨n-(i+1),by omega⟩
  exact (List.range_sublist.2 (by omega)).countP_le
theorem Zwk {c:Crw} {l:List Int} (hv:Zak c=true) (hok:ReckOk c (Zau c)):Zwj c l=true↔l.length=c.us.length∧(∀ i,i<c.us.length→0≤l.getD i 0)∧Legal (Zat c (Zau c)) (fun i=>(l.getD i 0).toNat):=by
 have hat:∀ i,i<c.us.length→(Zwi c l i=true↔0≤l.getD i 0∧(l.getD i 0).toNat<c.ms.length∧(Zat c (Zau c)).can i (l.getD i 0).toNat=true∧Zwh c l (i+1) (l.getD i 0) (Zs6 c i)≤(Zat c (Zau c)).cap (l.getD i 0).toNat ((Zat c (Zau c)).win i)):=by
  intro i hi
  unfold Zwi
  rw[Bool.and_eq_true,Bool.and_eq_true,Zdr,decide_eq_true_eq]
  constructor
  ·rintro⟨⟨⟨h1,h2⟩,h3⟩,h4⟩
   refine⟨h1,h2,h3,?_⟩
   have:=Zo8 hok h2 ((Zat c (Zau c)).win i)
   have h5:(Zat c (Zau c)).win i=(Zs6 c i).toNat:=rfl
   rw[h5] at this ⊢
   omega
  ·rintro⟨h1,h2,h3,h4⟩
   refine⟨⟨⟨h1,h2⟩,h3⟩,?_⟩
   have:=Zo8 hok h2 ((Zat c (Zau c)).win i)
   have h5:(Zat c (Zau c)).win i=(Zs6 c i).toNat:=rfl
   rw[h5] at this h4
   omega
 unfold Zwj
 rw[hv,Bool.true_and,Bool.and_eq_true,decide_eq_true_eq]
 constructor
 ·rintro⟨hl,hall⟩
  have hall:∀ i,i<c.us.length→Zwi c l i=true:=fun i hi=>List.all_eq_true.1 hall i (List.mem_range.2 (by omega))
  refine⟨hl,fun i hi=>((hat i hi).1 (hall i hi)).1,⟨fun u hu=>((hat u hu).1 (hall u hu)).2.1,fun u hu=>((hat u hu).1 (hall u hu)).2.2.1,fun m w=>?_⟩⟩
  show (List.range c.us.length).countP _≤_
  rw[← Zh7]
  intro i hi hp
  rw[Bool.and_eq_true,beq_iff_eq,beq_iff_eq] at hp
  obtain⟨hp1,hp2⟩:=hp
  obtain⟨h1,h2,h3,h4⟩:=(hat i hi).1 (hall i hi)
  rw[← hp1,← hp2]
  refine Nat.le_trans (Nat.le_of_eq ?_) h4
  unfold Zwh
  refine List.countP_congr (fun j hj=>?_)
  have hj:j<c.us.length:=by have:=List.mem_range.1 hj;omega
  have hj1:=((hat j hj).1 (hall j hj)).1
  have hw1:=(Zke hok hj).2.2
  have hw2:=(Zke hok hi).2.2
  simp only[Bool.and_eq_true,beq_iff_eq]
  omega
 ·rintro⟨hl,h0,hL⟩
  refine⟨hl,List.all_eq_true.2 (fun i hi=>?_)⟩
  have hi:i<c.us.length:=by have:=List.mem_range.1 hi;omega
  refine (hat i hi).2 ⟨h0 i hi,hL.mem i hi,hL.can i hi,?_⟩
  have h1:=(Zh7 (fun u=>(l.getD u 0).toNat==(l.getD i 0).toNat&&(Zat c (Zau c)).win u==(Zat c (Zau c)).win i) c.us.length ((Zat c (Zau c)).cap (l.getD i 0).toNat ((Zat c (Zau c)).win i))).2 (hL.few _ _) i hi (by simp)
  refine Nat.le_trans (Nat.le_of_eq ?_) h1
  unfold Zwh
  refine List.countP_congr (fun j hj=>?_)
  have hj:j<c.us.length:=by have:=List.mem_range.1 hj;omega
  have hj1:=h0 j hj
  have hi1:=h0 i hi
  have hw1:=(Zke hok hj).2.2
  have hw2:=(Zke hok hi).2.2
  simp only[Bool.and_eq_true,beq_iff_eq]
  omega
theorem Zha {c:Crw} {u m:Int} (h:Zei c u m=true):Zak c=true∧0≤u∧u.toNat<c.us.length∧0≤m∧m.toNat<c.ms.length:=by
 unfold Zei at h
 rw[Bool.and_eq_true,Bool.and_eq_true,Zdr,Zdr] at h
 exact⟨h.1.1,h.1.2.1,h.1.2.2,h.2.1,h.2.2⟩
theorem Zo9 {c:Crw} {C:List (List Bool)} (hok:ReckOk c C) {u m:Nat} (hu:u<c.us.length) (hm:m<c.ms.length):Zii c C u m=Zb6 (Zat c (Zbi c C u m)):=by
 rw[Bool.eq_iff_iff,Zka hok hu hm,Zjo]
 constructor
 ·rintro⟨a,h1,h2⟩;exact⟨a,(Zdk hok hu hm a).2 ⟨h1,h2⟩⟩
 ·rintro⟨a,h⟩;exact⟨a,(Zdk hok hu hm a).1 h⟩
theorem Zwl {c:Crw} {C:List (List Bool)} {u m:Nat}:m∈Zgc c C u↔m<c.ms.length∧Zii c C u m=true:=by
 unfold Zgc
 rw[List.mem_filter,List.mem_range]
theorem Zwm {c:Crw} (hv:Zak c=true) (hn:c.us.length≤1000) {u m:Nat} (hu:u<c.us.length) (hm:m<c.ms.length) (hf:Zb6 (Zat c (Zbi c (Zau c) u m))=true):(Za1 c c.us.length 0 (Zbi c (Zau c) u m) []).length=c.us.length∧Zwj c ((Za1 c c.us.length 0 (Zbi c (Zau c) u m) []).map Int.ofNat)=true∧(Za1 c c.us.length 0 (Zbi c (Zau c) u m) []).getD u 0=m:=by
 have hok:=Zaq hv hn
 obtain⟨h1,h2,-⟩:=Zqf (hok.fix u m) hf
 generalize Za1 c c.us.length 0 (Zbi c (Zau c) u m) []=l at *
 obtain⟨h3,h4⟩:=(Zdk hok hu hm _).1 h2
 have hg:∀ i,(l.map Int.ofNat).getD i 0=((l.getD i 0:Nat):Int):=fun i=>by
  rw[List.getD_eq_getElem?_getD,List.getElem?_map,List.getD_eq_getElem?_getD]
  cases l[i]?<;>rfl
 refine⟨h1,(Zwk hv hok).2 ⟨by rw[List.length_map,h1],fun i hi=>by rw[hg];omega,Zhh (fun i hi=>by rw[hg];rfl) h3⟩,h4⟩
end
end Go.Proofs.YtbcgocpihobjnaaGreatDoor
