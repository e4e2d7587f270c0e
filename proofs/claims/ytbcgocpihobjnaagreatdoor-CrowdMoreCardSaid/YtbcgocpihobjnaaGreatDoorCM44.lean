import Derived.Test.YtbcgocpihobjnaaGreatDoorCM43
import Derived.Test.YtbcgocpihobjnaaGreatDoorCM34
import Derived.Test.YtbcgocpihobjnaaGreatDoorCM11
set_option linter.all false
namespace Go.Proofs.YtbcgocpihobjnaaGreatDoor
section
open Go.RowKit Go.Sort Go.Maps
theorem Z0v {c:Crw} (hv:Zak c=true) {i:Nat} {r:List Int} (h:(Zas c)[i]?=some r):i<c.us.length∧r=(Zfm c (Za1 c) i).map Int.ofNat:=by
 unfold Zas at h;rw[if_pos hv,List.getElem?_map] at h;by_cases hi:i<c.us.length
 ·rw[List.getElem?_range hi] at h
  exact⟨hi,(Option.some.inj h).symm⟩
 ·rw[List.getElem?_eq_none (by rw[List.length_range];omega)] at h
  cases h
theorem Zyp (c:Crw) (C:List (List Bool)) (i:Nat):(Zfm c C i).length≤c.ms.length:=Zbo _ _
end
section
open Go.RowKit Go.Sort Go.Maps
def Z2n {α:Type} (u:Nat) (l:List α):List α:=l.drop u++l.take u
def Z0w (c:Crw) (ms:List Mem):Crw:=⟨c.qs,ms,c.us⟩
section
variable {c:Crw} (hv:Zak c=true) (hn:c.us.length≤1000) (ho:∀ x∈c.us,x.h = -1) {jx:List Nat} (hp:jx.Perm (List.range c.ms.length))
include hp in
include hp in
include hp in
include ho hp in
include hp in
include hp in
include hp in
include ho hp in
include hv hn ho hp in
include hv hn ho hp in
include hv hn ho hp in
end
structure TurP (c:Crw) (c1 c2:Crw) (un u:Nat) (opened:Bool):Prop where
 v1:Zak c1=true
 v2:Zak c2=true
 ls:(Zas c).length=un
 l2:(Zas c2).length=un
 rot:Zas c1=Z2n u (Zas c)
 cnt:Zbc c1=Zbc c
 cn2:opened=false→Zbc c2=Zbc c
 row:opened=false→∀ (n:Nat) (r s:List Int),(Zas c)[n]?=some r→(Zas c2)[n]?=some s→r.length=s.length
end
section
open Go.RowKit Go.Sort Go.Maps
def Zen (l:List Int) (w:Nat):List Int:=if l.getD w 4096<4096 then l.set w (l.getD w 4096+1) else l
def Zvr (m:Mem) (w:Nat):Mem:=⟨m.b,Zen m.t w,m.r⟩
def Zr3 (c:Crw) (k w:Nat):Crw:=Z0w c (c.ms.set k (Zvr (c.ms.getD k ⟨[],[],0⟩) w))
def Zn9 (c:Crw) (m:Mem):Crw:=Z0w c (c.ms++[m])
theorem Zge (l:List Int) (w:Nat):(Zen l w).length=l.length:=by unfold Zen;split<;>simp
theorem Zyq (l:List Int) (w k:Nat):l.getD k 0≤(Zen l w).getD k 0:=by
 unfold Zen;split
 ·rw[List.getD_eq_getElem?_getD,List.getD_eq_getElem?_getD,List.getElem?_set]
  by_cases e:w=k
  ·subst e
   rw[if_pos rfl];split
   ·rename_i h
    rw[List.getD_eq_getElem?_getD,List.getElem?_eq_getElem h];show l[w]≤l[w]+1;omega
   ·rename_i h
    rw[List.getElem?_eq_none (by omega)];exact Int.le_refl _
  ·rw[if_neg e];exact Int.le_refl _
 ·exact Int.le_refl _
theorem Zyr {l:List Int} {w:Nat} (h:∀ t∈l,0≤t∧t≤4096):∀ t∈Zen l w,0≤t∧t≤4096:=by
 intro t ht;unfold Zen at ht
 split at ht
 ·rename_i hlt
  rcases List.mem_or_eq_of_mem_set ht with h1 | h1
  ·exact h t h1
  ·by_cases hw:w<l.length
   ·have h2:=h _ (List.getElem_mem hw)
    rw[List.getD_eq_getElem?_getD,List.getElem?_eq_getElem hw] at hlt h1;have hlt:l[w]<4096:=hlt;have h1:t=l[w]+1:=h1;omega
   ·rw[List.getD_eq_getElem?_getD,List.getElem?_eq_none (by omega)] at hlt
    have hlt:(4096:Int)<4096:=hlt;omega
 ·exact h t ht
theorem Zo7 {m:Mem} {w:Nat} (h:Zc1 m=true):Zc1 (Zvr m w)=true:=by
 have ht:=Zhr h;unfold Zc1 at h ⊢;simp only[Bool.and_eq_true,decide_eq_true_eq,Bool.not_eq_true',List.any_eq_false,Bool.not_eq_true] at h ⊢;obtain⟨⟨⟨h1,h2⟩,h3⟩,h4⟩:=h;refine⟨⟨⟨h1,by show (Zen m.t w).length≤16;rw[Zge];exact h2⟩,fun t htm=>?_⟩,h4⟩;have:=Zyr ht.1 t htm;simpa [Zza,inB] using this
theorem Zvs {c:Crw} (hv:Zak c=true) {k w:Nat} (hk:k<c.ms.length):Zak (Zr3 c k w)=true:=by
 rw[Zr1] at hv ⊢;obtain⟨h1,h2,h3,h4,h5,h6⟩:=hv
 have hl:(Zr3 c k w).ms.length=c.ms.length:=by show (c.ms.set k _).length=_;rw[List.length_set]
 refine⟨h1,by rw[hl];exact h2,h3,h4,fun m hm=>?_,fun x hx=>by rw[hl];exact h6 x hx⟩;rcases List.mem_or_eq_of_mem_set (show m∈c.ms.set k _ from hm) with h | rfl
 ·exact h5 m h
 ·refine Zo7 (h5 _ ?_)
  rw[List.getD_eq_getElem?_getD,List.getElem?_eq_getElem hk];exact List.getElem_mem hk
structure MoreM (c c':Crw):Prop where
 qs:c'.qs=c.qs
 us:c'.us=c.us
 len:c.ms.length≤c'.ms.length
 mem:∀ j,j<c.ms.length→(c'.ms.getD j ⟨[],[],0⟩).b=(c.ms.getD j ⟨[],[],0⟩).b∧(c'.ms.getD j ⟨[],[],0⟩).r=(c.ms.getD j ⟨[],[],0⟩).r∧∀ w,(Zca (c.ms.getD j ⟨[],[],0⟩).t w).toNat≤(Zca (c'.ms.getD j ⟨[],[],0⟩).t w).toNat
theorem Zj8 (c:Crw) {q j:Nat} {p:Prd} (hq:c.qs[q]?=some p) (hj:j<c.ms.length):((Zaj c).getD q []).getD j false=hmB p (c.ms.getD j ⟨[],[],0⟩):=by
 unfold Zaj;rw[List.getD_eq_getElem?_getD (l:=c.qs.map _),List.getElem?_map,hq];show (c.ms.map (hmB p)).getD j false=_;rw[List.getD_eq_getElem?_getD,List.getElem?_map,List.getElem?_eq_getElem hj,List.getD_eq_getElem?_getD,List.getElem?_eq_getElem hj];rfl
theorem Ziw (c:Crw) {q j:Nat} (hq:c.qs[q]?=none):((Zaj c).getD q []).getD j false=false:=by
 unfold Zaj;rw[List.getD_eq_getElem?_getD (l:=c.qs.map _),List.getElem?_map,hq];rfl
theorem Z2o {p:Prd} {m m':Mem} (h:m'.b=m.b):hmB p m'=hmB p m:=by unfold hmB;rw[h]
theorem MoreM.can {c c':Crw} (h:MoreM c c') {u j:Nat} (hu:u<c.us.length) (hj:j<c.ms.length):(Za2 c (Za1 c)).can u j=(Za2 c' (Za1 c')).can u j:=by
 have hj':j<c'.ms.length:=Nat.lt_of_lt_of_le hj h.len;have h1:(Za2 c (Za1 c)).can u j=_:=Zvo (c:=c) c.us hu hj;have h2:(Za2 c' (Za1 c')).can u j=_:=Zvo (c:=c') c'.us (v:=u) (by rw[h.us];exact hu) hj';rw[h1,h2,h.us];generalize c.us.getD u ⟨0,0,0,0⟩=x
 have hhh:((Zaj c).getD x.q.toNat []).getD j false=((Zaj c').getD x.q.toNat []).getD j false:=by
  cases hq:c.qs[x.q.toNat]? with
  | none=>rw[Ziw c hq,Ziw c' (by rw[h.qs];exact hq)]
  | some p=>rw[Zj8 c hq hj,Zj8 c' (by rw[h.qs];exact hq) hj',Z2o (h.mem j hj).1]
 unfold Zzb;rw[hhh,(h.mem j hj).2.1]
theorem MoreM.win {c c':Crw} (h:MoreM c c') (u:Nat):(Za2 c (Za1 c)).win u=(Za2 c' (Za1 c')).win u:=by
 show (c.us.getD u _).w.toNat=(c'.us.getD u _).w.toNat;rw[h.us]
theorem MoreM.num {c c':Crw} (h:MoreM c c'):Zpi (Za2 c (Za1 c))≤Zpi (Za2 c' (Za1 c')) :=
 Zsp (by show c.us.length=c'.us.length;rw[h.us]) h.len (fun u m hu hm hc=>by rw[← h.can hu hm];exact hc) (fun u _=>h.win u) (fun m w hm=>(h.mem m hm).2.2 w)
theorem MoreM.leg {c c':Crw} (h:MoreM c c') {a:Nat→Nat} (ha:Legal (Za2 c (Za1 c)) a):Legal (Za2 c' (Za1 c')) a :=
 Zwn (by show c.us.length=c'.us.length;rw[h.us]) h.len (fun u m hu hm hc=>by rw[← h.can hu hm];exact hc) (fun u _=>h.win u) (fun m w hm=>(h.mem m hm).2.2 w) ha
theorem Zix {c:Crw} (hv:Zak c=true) (hu:c.us.length≤5) (hm:c.ms.length≤6):Zbc c=(Zpi (Za2 c (Za1 c)),0):=by
 unfold Zbc;rw[if_pos hv];refine Z0u (Z1s (Zao hv (by omega))) (fun k _=>?_) ?_
 ·have h1:(Zc5 (Za2 c (Za1 c)) k).length≤(List.range c.us.length).length:=List.length_filter_le _ _
  rw[List.length_range] at h1;omega
 ·refine Nat.le_trans (Zzo _) ?_
  show c.ms.length^c.us.length≤_;exact Nat.le_trans (Nat.pow_le_pow_left hm _) (Nat.le_trans (Nat.pow_le_pow_right (by decide) hu) (by decide))
theorem Zys {c:Crw} (hv:Zak c=true) {i:Nat} (hi:i<c.us.length):(Zas c).getD i []=(Zfm c (Za1 c) i).map Int.ofNat:=by
 unfold Zas;rw[if_pos hv,List.getD_eq_getElem?_getD,List.getElem?_map,List.getElem?_range hi];rfl
theorem Zyt {c:Crw} (hv:Zak c=true):(Zas c).length=c.us.length:=by
 unfold Zas;rw[if_pos hv,List.length_map,List.length_range]
theorem Zhs {c:Crw} {i:Nat} {y:Int}:y∈(Zfm c (Za1 c) i).map Int.ofNat↔∃ m:Nat,y=(m:Int)∧m<c.ms.length∧Zk5 c (Za1 c) i m=true:=by
 unfold Zfm;rw[List.mem_map];constructor
 ·rintro⟨m,h1,rfl⟩
  obtain⟨h2,h3⟩:=List.mem_filter.1 h1;exact⟨m,rfl,List.mem_range.1 h2,h3⟩
 ·rintro⟨m,rfl,h2,h3⟩
  exact⟨m,List.mem_filter.2 ⟨List.mem_range.2 h2,h3⟩,rfl⟩
theorem MoreM.sub {c c':Crw} (h:MoreM c c') (hv:Zak c=true) (hv':Zak c'=true) (hn:c.us.length≤1000) {i:Nat} (hi:i<c.us.length):∀ y∈(Zas c).getD i [],y∈(Zas c').getD i []:=by
 have hi':i<c'.us.length:=by rw[h.us];exact hi
 rw[Zys hv hi,Zys hv' hi'];intro y hy;obtain⟨m,rfl,h2,h3⟩:=Zhs.1 hy;have h2':m<c'.ms.length:=Nat.lt_of_lt_of_le h2 h.len;refine Zhs.2 ⟨m,rfl,h2',?_⟩;rw[Zk6 (Zao hv hn) hi h2] at h3;rw[Zk6 (Zao hv' (by rw[h.us];exact hn)) hi' h2'];obtain⟨a,h4,h5⟩:=h3;exact⟨a,h.leg h4,h5⟩
theorem Zqn {c:Crw} {k w:Nat} (hk:k<c.ms.length):MoreM c (Zr3 c k w):=by
 refine⟨rfl,rfl,by show _≤(c.ms.set k _).length;rw[List.length_set];exact Nat.le_refl _,fun j hj=>?_⟩
 have he:(Zr3 c k w).ms.getD j ⟨[],[],0⟩=if k=j then Zvr (c.ms.getD k ⟨[],[],0⟩) w else c.ms.getD j ⟨[],[],0⟩:=by
  show (c.ms.set k _).getD j _=_;rw[List.getD_eq_getElem?_getD,List.getElem?_set];by_cases e:k=j
  ·subst e;rw[if_pos rfl,if_pos rfl,if_pos hj];rfl
  ·rw[if_neg e,if_neg e,← List.getD_eq_getElem?_getD]
 rw[he];by_cases e:k=j
 ·subst e
  rw[if_pos rfl];refine⟨rfl,rfl,fun w'=>?_⟩;show (Zca _ w').toNat≤(Zca (Zen _ w) w').toNat;unfold Zca;have:=Zyq (c.ms.getD k ⟨[],[],0⟩).t w w';omega
 ·rw[if_neg e];exact⟨rfl,rfl,fun _=>Nat.le_refl _⟩
theorem Zqo (c:Crw) (m:Mem):MoreM c (Zn9 c m):=by
 refine⟨rfl,rfl,by show _≤(c.ms++[m]).length;rw[List.length_append];omega,fun j hj=>?_⟩
 have he:(Zn9 c m).ms.getD j ⟨[],[],0⟩=c.ms.getD j ⟨[],[],0⟩:=by
  show (c.ms++[m]).getD j _=_;rw[List.getD_eq_getElem?_getD,List.getElem?_append_left hj,← List.getD_eq_getElem?_getD]
 rw[he];exact⟨rfl,rfl,fun _=>Nat.le_refl _⟩
theorem Zvt {c:Crw} {x:Use} {a:Nat→Nat} (h:Legal (Za2 (Zaw c x) (Za1 (Zaw c x))) a):Legal (Za2 c (Za1 c)) a:=by
 have hU:(Zaw c x).us.length=c.us.length+1:=by show (c.us++[x]).length=_;simp
 have hcl:(Za1 c).length=c.us.length:=by unfold Za1;rw[List.length_map]
 have hcan:∀ u m,u<c.us.length→(Za2 (Zaw c x) (Za1 (Zaw c x))).can u m=(Za2 c (Za1 c)).can u m:=fun u m hu=>by
  show ((Za1 (Zaw c x)).getD u []).getD m false=((Za1 c).getD u []).getD m false;rw[Zvp,List.getD_eq_getElem?_getD (l:=Za1 c++_),List.getElem?_append_left (by omega),← List.getD_eq_getElem?_getD]
 have hwin:∀ u,u<c.us.length→(Za2 (Zaw c x) (Za1 (Zaw c x))).win u=(Za2 c (Za1 c)).win u:=fun u hu=>by
  show ((c.us++[x]).getD u ⟨0,0,0,0⟩).w.toNat=(c.us.getD u ⟨0,0,0,0⟩).w.toNat;rw[List.getD_eq_getElem?_getD,List.getElem?_append_left hu,← List.getD_eq_getElem?_getD]
 have hlt:∀ u,u<c.us.length→u<(Za2 (Zaw c x) (Za1 (Zaw c x))).U:=fun u hu=>by show u<(Zaw c x).us.length;omega
 refine⟨fun u hu=>h.mem u (hlt u hu),fun u hu=>?_,fun m w=>Nat.le_trans ?_ (h.few m w)⟩
 ·rw[← hcan u _ hu];exact h.can u (hlt u hu)
 ·unfold Zha
  show (List.range c.us.length).countP _≤(List.range (Zaw c x).us.length).countP _;rw[hU,List.range_succ,List.countP_append];refine Nat.le_trans (Nat.le_of_eq (List.countP_congr (fun u hu=>?_))) (Nat.le_add_right _ _);rw[hwin u (List.mem_range.1 hu)]
theorem Zyu {c:Crw} {x:Use} (hv:Zak c=true) (hv':Zak (Zaw c x)=true) (hn:c.us.length≤999) {i:Nat} (hi:i<c.us.length):∀ y∈(Zas (Zaw c x)).getD i [],y∈(Zas c).getD i []:=by
 have hU:(Zaw c x).us.length=c.us.length+1:=by show (c.us++[x]).length=_;simp
 have hi':i<(Zaw c x).us.length:=by omega
 rw[Zys hv hi,Zys hv' hi'];intro y hy;obtain⟨m,rfl,h2,h3⟩:=Zhs.1 hy;refine Zhs.2 ⟨m,rfl,h2,?_⟩;rw[Zk6 (Zao hv' (by omega)) hi' h2] at h3;rw[Zk6 (Zao hv (by omega)) hi h2];obtain⟨a,h4,h5⟩:=h3;exact⟨a,Zvt h4,h5⟩
structure MorP (c cm cr cl:Crw) (n:Nat):Prop where
 nn:(Zas c).length=n
 d:(Zas cr).length=n
 oc:(Zbc c).2=0
 o2:(Zbc cr).2=0
 le:(Zbc c).1≤(Zbc cr).1
 a1:Zak cm=true→(Zas cm).length=n+1
 a0:Zak cm=false→(Zas cm).length=0
 b:Zak cl=true→(Zbc cl).2=0∧(Zbc c).1≤(Zbc cl).1∧(Zas cl).length=n
 sa:Zak cm=true→∀ i,i<n→∀ y∈(Zas cm).getD i [],y∈(Zas c).getD i []
 sd:∀ i,i<n→∀ y∈(Zas c).getD i [],y∈(Zas cr).getD i []
 sb:Zak cl=true→∀ i,i<n→∀ y∈(Zas c).getD i [],y∈(Zas cl).getD i []
theorem Z0x {c:Crw} (hv:Zak c=true) (hu:c.us.length≤5) (hm:c.ms.length≤5) (x:Use) (m:Mem) {k:Nat} (hk:k<c.ms.length) (w:Nat):MorP c (Zaw c x) (Zr3 c k w) (Zn9 c m) c.us.length:=by
 have hr:=Zvs hv (w:=w) hk
 have hrm:(Zr3 c k w).ms.length=c.ms.length:=by show (c.ms.set k _).length=_;rw[List.length_set]
 have hlm:(Zn9 c m).ms.length=c.ms.length+1:=by show (c.ms++[m]).length=_;simp
 have e1:=Zix hv hu (by omega);have e2:=Zix hr hu (by omega)
 have hU:(Zaw c x).us.length=c.us.length+1:=by show (c.us++[x]).length=_;simp
 refine⟨Zyt hv,Zyt hr,by rw[e1],by rw[e2],by rw[e1,e2];exact (Zqn hk).num,fun h=>by rw[Zyt h,hU],fun h=>?_,fun h=>?_,fun h i hi=>Zyu hv h (by omega) hi,fun i hi=>(Zqn hk).sub hv hr (by omega) hi,fun h i hi=>(Zqo c m).sub hv h (by omega) hi⟩
 ·unfold Zas;rw[h];rfl
 ·have e3:=Zix h hu (by omega)
  exact⟨by rw[e3],by rw[e1,e3];exact (Zqo c m).num,Zyt h⟩
end
end Go.Proofs.YtbcgocpihobjnaaGreatDoor
