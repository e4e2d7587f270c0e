import Derived.Test.YtbcgocpihobjnaaGreatDoorCV43
import Derived.Test.YtbcgocpihobjnaaGreatDoorCV39
import Derived.Test.YtbcgocpihobjnaaGreatDoorCV11
import Derived.Test.YtbcgocpihobjnaaGreatDoorCV40
import Derived.Test.YtbcgocpihobjnaaGreatDoorCV34
set_option linter.all false
namespace Go.Proofs.YtbcgocpihobjnaaGreatDoor
section
open Go.RowKit Go.Sort Go.Maps
theorem Zpi {c:Crw} (hv:Zam c=true) {i:Nat} {r:List Int} (h:(Zbb c)[i]?=some r):i<c.us.length∧r=(Ze3 c (Zay c) i).map Int.ofNat:=by
 unfold Zbb at h;rw[if_pos hv,List.getElem?_map] at h;by_cases hi:i<c.us.length
 ·rw[List.getElem?_range hi] at h
  exact⟨hi,(Option.some.inj h).symm⟩
 ·rw[List.getElem?_eq_none (by rw[List.length_range];omega)] at h
  cases h
theorem Zq6 {c:Crw} (hv:Zam c=true):(Zbb c).length=c.us.length:=by
 unfold Zbb;rw[if_pos hv,List.length_map,List.length_range]
theorem Zzd (c:Crw) (C:List (List Bool)) (i:Nat):(Ze3 c C i).length≤c.ms.length:=Zbn _ _
end
section
open Go.RowKit Go.Sort Go.Maps
theorem Zhb {α:Type} (l:List α) (d:α):l=(List.range l.length).map (fun i=>l.getD i d):=by
 apply List.ext_getElem?;intro i;rw[List.getElem?_map];by_cases hi:i<l.length
 ·rw[List.getElem?_range hi,List.getElem?_eq_getElem hi];simp[hi]
 ·rw[List.getElem?_eq_none (by omega),List.getElem?_eq_none (by rw[List.length_range];omega)];rfl
def Zdo {α:Type} (u:Nat) (l:List α):List α:=l.drop u++l.take u
theorem Zdp {α:Type} (u:Nat) (l:List α):(Zdo u l).Perm l:=by
 have:=List.perm_append_comm (l₁:=l.drop u) (l₂:=l.take u);rw[List.take_append_drop] at this;exact this
theorem Zcs {α:Type} (u:Nat) (l:List α):(Zdo u l).length=l.length:=(Zdp u l).length_eq
theorem Zq7 {α β:Type} (f:α→β) (u:Nat) (l:List α):(Zdo u l).map f=Zdo u (l.map f):=by unfold Zdo;rw[List.map_append,List.map_drop,List.map_take]
theorem Zv9 {α:Type} (u:Nat) (l:List α) (d:α):Zdo u l=(Zdo u (List.range l.length)).map (fun i=>l.getD i d):=by
 rw[Zq7,← Zhb l d]
theorem Zq8 {α:Type} {l:List α} {d:α} {ix:List Nat} {k:Nat} (hk:k<ix.length):(ix.map (fun i=>l.getD i d)).getD k d=l.getD (ix.getD k 0) d:=by
 rw[List.getD_eq_getElem?_getD,List.getElem?_map,List.getD_eq_getElem?_getD (l:=ix),List.getElem?_eq_getElem hk];rfl
def ixC (c:Crw) (ix:List Nat):Crw:=Zjp c (ix.map (fun i=>c.us.getD i ⟨0,0,0,0⟩))
theorem Zfw (c:Crw) (ix:List Nat):(ixC c ix).us.length=ix.length:=by show (ix.map _).length=_;rw[List.length_map]
theorem Zpj {c:Crw} {ix:List Nat} (hlt:∀ i∈ix,i<c.us.length) {v k:Nat} (hv:v<ix.length) (hk:k<c.ms.length):(Zax (ixC c ix) (Zay (ixC c ix))).can v k=((Zax c (Zay c)).sub ix).can v k:=by
 have h1:=Zl9 (c:=c) (ix.map (fun i=>c.us.getD i ⟨0,0,0,0⟩)) (v:=v) (by rw[List.length_map];exact hv) hk;have h2:(Zax c (Zay c)).can (ix.getD v 0) k=Zyh c (Zal c) (c.us.getD (ix.getD v 0) ⟨0,0,0,0⟩) k:=Zl9 (c:=c) c.us (hlt _ (Ze7 hv)) hk;rw[Zq8 hv] at h1;exact h1.trans h2.symm
theorem Zma {c:Crw} {ix:List Nat} {v:Nat} (hv:v<ix.length):(Zax (ixC c ix) (Zay (ixC c ix))).win v=((Zax c (Zay c)).sub ix).win v:=by
 show ((ix.map (fun i=>c.us.getD i ⟨0,0,0,0⟩)).getD v ⟨0,0,0,0⟩).w.toNat=_;rw[Zq8 hv];rfl
theorem Z1a {c:Crw} {ix:List Nat} (hlt:∀ i∈ix,i<c.us.length):Zpw (Zax (ixC c ix) (Zay (ixC c ix)))=Zpw ((Zax c (Zay c)).sub ix):=by
 have hl:=Zfw c ix;exact Zpz hl rfl (fun v k hv hk=>Zpj hlt (by rw[← hl];exact hv) hk) (fun v hv=>Zma (by rw[← hl];exact hv)) (fun m w _=>rfl)
theorem Zod {c:Crw} {ix:List Nat} (hlt:∀ i∈ix,i<c.us.length) (a:Nat→Nat):Legal (Zax (ixC c ix) (Zay (ixC c ix))) a↔Legal ((Zax c (Zay c)).sub ix) a:=by
 have hl:=Zfw c ix;constructor
 ·exact Zm5 hl rfl (fun v k hv hk=>Zpj hlt (by rw[← hl];exact hv) hk) (fun v hv=>Zma (by rw[← hl];exact hv)) (fun m w _=>rfl)
 ·exact Zm5 hl.symm rfl (fun v k hv hk=>(Zpj hlt hv hk).symm) (fun v hv=>(Zma hv).symm) (fun m w _=>rfl)
theorem Zgn {c:Crw} (hv:Zam c=true) {ix:List Nat} (hlt:∀ i∈ix,i<c.us.length) (hle:ix.length≤c.us.length):Zam (ixC c ix)=true:=by
 have h:=Zar hv;refine Zph hv (by rw[List.length_map];exact Nat.le_trans hle h.2.2.1) (fun x hx=>?_);obtain⟨i,hi,rfl⟩:=List.mem_map.1 hx;refine h.2.2.2.2.2 _ ?_;rw[List.getD_eq_getElem?_getD,List.getElem?_eq_getElem (hlt i hi)];exact List.getElem_mem _
theorem Z1b {c:Crw} (hv:Zam c=true) (hn:c.us.length≤1000) {ix:List Nat} (hp:ix.Perm (List.range c.us.length)) {k:Nat} (hk:k<ix.length):Ze3 (ixC c ix) (Zay (ixC c ix)) k=Ze3 c (Zay c) (ix.getD k 0):=by
 have hlt:∀ i∈ix,i<c.us.length:=fun i hi=>List.mem_range.1 (hp.mem_iff.1 hi)
 have hll:ix.length=c.us.length:=by have:=hp.length_eq;rwa [List.length_range] at this
 have hnd:ix.Nodup:=hp.nodup_iff.2 List.nodup_range;have hok:=Zan hv hn;have hok2:=Zan (Zgn hv hlt (Nat.le_of_eq hll)) (by rw[Zfw,hll];exact hn);unfold Ze3;show (List.range c.ms.length).filter _=_;refine List.filter_congr (fun m hm=>?_);have hm:=List.mem_range.1 hm;rw[Bool.eq_iff_iff,Zlz hok2 (by rw[Zfw];exact hk) (by exact hm),Zlz hok (hlt _ (Ze7 hk)) hm];constructor
 ·rintro⟨a,h1,h2⟩
  have h3:=(Zrd hnd ((Zod hlt a).1 h1)).perm hp;exact⟨Zxc ix a,Zpy.2 h3,by rw[Zp0 hnd a hk];exact h2⟩
 ·rintro⟨b,h1,h2⟩
  have h3:=(Zpy.1 h1).perm hp.symm;exact⟨_,(Zod hlt _).2 (Zm4.2 h3),h2⟩
theorem Zk6 {T T':Tbl} (hw:∀ u,u<T.U→T.win u<16) (hw':∀ u,u<T'.U→T'.win u<16) (hg:∀ w,(Zc4 T w).length=(Zc4 T' w).length) (hn:Zpw T=Zpw T'):Zgw T=Zgw T':=by
 unfold Zgw;rw[Zs5 T hw,Zs5 T' hw',hn];simp only[hg]
theorem Zze {c:Crw} (hv:Zam c=true) (hn:c.us.length≤1000) {ix:List Nat} (hp:ix.Perm (List.range c.us.length)):Zbw (ixC c ix)=Zbw c:=by
 have hlt:∀ i∈ix,i<c.us.length:=fun i hi=>List.mem_range.1 (hp.mem_iff.1 hi)
 have hll:ix.length=c.us.length:=by have:=hp.length_eq;rwa [List.length_range] at this
 have hok:=Zan hv hn;have hv2:=Zgn hv hlt (Nat.le_of_eq hll);have hok2:=Zan hv2 (by rw[Zfw,hll];exact hn);unfold Zbw;rw[if_pos hv,if_pos hv2];refine Zk6 (Zq5 hok2) (Zq5 hok) (fun w=>?_) ?_
 ·unfold Zc4
  have h1:((List.range (Zax (ixC c ix) (Zay (ixC c ix))).U).filter (fun u=>(Zax (ixC c ix) (Zay (ixC c ix))).win u==w)).length=(ix.filter (fun u=>(Zax c (Zay c)).win u==w)).length:=by
   show ((List.range (ixC c ix).us.length).filter _).length=_;rw[Zfw]
   have e:(List.range ix.length).filter (fun u=>(Zax (ixC c ix) (Zay (ixC c ix))).win u==w)=(List.range ix.length).filter ((fun u=>(Zax c (Zay c)).win u==w) ∘ (fun k=>ix.getD k 0)):=List.filter_congr (fun k hk=>by
    rw[Zma (List.mem_range.1 hk)];rfl)
   rw[e]
   conv=>rhs;rw[Zhb ix 0]
   rw[List.filter_map,List.length_map]
  rw[h1];exact (hp.filter _).length_eq
 ·rw[Z1a hlt,Zxb]
  exact Zs8 hp _
theorem Zpk (c:Crw) (u:Nat):Zjp c (Zdo u c.us)=ixC c (Zdo u (List.range c.us.length)):=by
 unfold ixC;rw[← Zv9]
theorem Zzf (c:Crw) (u:Nat):(Zdo u (List.range c.us.length)).Perm (List.range c.us.length):=Zdp _ _
theorem Zzg {c:Crw} (hv:Zam c=true) (hn:c.us.length≤1000) (u:Nat):Zbb (Zjp c (Zdo u c.us))=Zdo u (Zbb c):=by
 have hp:=Zzf c u
 have hlt:∀ i∈Zdo u (List.range c.us.length),i<c.us.length:=fun i hi=>List.mem_range.1 (hp.mem_iff.1 hi)
 have hll:(Zdo u (List.range c.us.length)).length=c.us.length:=by have:=hp.length_eq;rwa [List.length_range] at this
 rw[Zpk];unfold Zbb;rw[if_pos hv,if_pos (Zgn hv hlt (Nat.le_of_eq hll)),Zfw,← Zq7]
 have e:(List.range (Zdo u (List.range c.us.length)).length).map (fun k=>(Ze3 (ixC c (Zdo u (List.range c.us.length))) (Zay (ixC c (Zdo u (List.range c.us.length)))) k).map Int.ofNat)=(List.range (Zdo u (List.range c.us.length)).length).map (fun k=>(fun i=>(Ze3 c (Zay c) i).map Int.ofNat) ((Zdo u (List.range c.us.length)).getD k 0)):=List.map_congr_left (fun k hk=>by
  rw[Z1b hv hn hp (List.mem_range.1 hk)])
 rw[e]
 conv=>rhs;rw[Zhb (Zdo u (List.range c.us.length)) 0]
 rw[List.map_map];rfl
def Zjq (c:Crw) (ms:List Mem):Crw:=⟨c.qs,ms,c.us⟩
theorem Zfx {c:Crw} (hv:Zam c=true) {ms:List Mem} (hp:ms.Perm c.ms):Zam (Zjq c ms)=true:=by
 obtain⟨h1,h2,h3,h4,h5,h6⟩:=Zar hv;refine (Zk5 _).2 ⟨h1,by show ms.length≤64;rw[hp.length_eq];exact h2,h3,h4,fun m hm=>h5 m (hp.mem_iff.1 hm),fun x hx=>?_⟩;show Zcx c.qs.length ms.length x=true;rw[hp.length_eq];exact h6 x hx
theorem Zk7 {T T':Tbl} {a:Nat→Nat} (σ:Nat→Nat) (hU:T.U=T'.U) (hm:∀ u,u<T.U→σ (a u)<T'.M) (hc:∀ u,u<T.U→T.can u (a u)=true→T'.can u (σ (a u))=true) (hw:∀ u,u<T.U→T.win u=T'.win u) (hf:∀ u0,u0<T.U→∃ k,(∀ u,u<T.U→σ (a u)=σ (a u0)→a u=k)∧∀ w,T.cap k w≤T'.cap (σ (a u0)) w) (h:Legal T a):Legal T' (fun u=>σ (a u)):=by
 refine⟨fun u hu=>hm u (by rw[hU];exact hu),fun u hu=>hc u (by rw[hU];exact hu) (h.can u (by rw[hU];exact hu)),fun m w=>?_⟩;by_cases he:∃ u0,u0<T.U∧σ (a u0)=m
 ·obtain⟨u0,hu0,rfl⟩:=he
  obtain⟨k,hk1,hk2⟩:=hf u0 hu0;refine Nat.le_trans (Nat.le_trans ?_ (h.few k w)) (hk2 w);unfold Zfd;rw[← hU];refine List.countP_mono_left (fun u hu h1=>?_);have hu:=List.mem_range.1 hu;rw[Bool.and_eq_true,beq_iff_eq] at h1 ⊢;exact⟨hk1 u hu h1.1,by rw[hw u hu];exact h1.2⟩
 ·have:Zfd T' (fun u=>σ (a u)) m w=0:=by
   unfold Zfd;rw[List.countP_eq_zero];intro u hu h1;have hu:=List.mem_range.1 hu;rw[Bool.and_eq_true,beq_iff_eq] at h1;exact he ⟨u,by rw[hU];exact hu,h1.1⟩
  rw[this];exact Nat.zero_le _
section
variable {c:Crw} (hv:Zam c=true) (hn:c.us.length≤1000) (ho:∀ x∈c.us,x.h = -1) {jx:List Nat} (hp:jx.Perm (List.range c.ms.length))
def jxC (c:Crw) (jx:List Nat):Crw:=Zjq c (jx.map (fun i=>c.ms.getD i ⟨[],[],0⟩))
include hp in
theorem Z2c:∀ i∈jx,i<c.ms.length:=fun i hi=>List.mem_range.1 (hp.mem_iff.1 hi)
include hp in
theorem Zfo:jx.length=c.ms.length:=by have:=hp.length_eq;rwa [List.length_range] at this
include hp in
theorem Zwa:(jx.map (fun i=>c.ms.getD i ⟨[],[],0⟩)).Perm c.ms:=by
 have:=hp.map (fun i=>c.ms.getD i (⟨[],[],0⟩:Mem))
 rwa [← Zhb c.ms] at this
include ho hp in
theorem Zwb {u k:Nat} (hu:u<c.us.length) (hk:k<c.ms.length):(Zax (jxC c jx) (Zay (jxC c jx))).can u k=(Zax c (Zay c)).can u (jx.getD k 0):=by
 have hk2:k<jx.length:=by rw[Zfo hp];exact hk
 have hj:jx.getD k 0<c.ms.length:=Z2c hp _ (Ze7 hk2);have h1:=Zl9 (c:=jxC c jx) c.us (v:=u) hu (k:=k) (by show k<(jx.map _).length;rw[List.length_map];exact hk2);have h2:=Zl9 (c:=c) c.us hu hj;have h1:(Zax (jxC c jx) (Zay (jxC c jx))).can u k=_:=h1;have h2:(Zax c (Zay c)).can u (jx.getD k 0)=_:=h2;rw[h1,h2];unfold Zyh
 have hx:(c.us.getD u ⟨0,0,0,0⟩).h = -1:=by
  rw[List.getD_eq_getElem?_getD,List.getElem?_eq_getElem hu];exact ho _ (List.getElem_mem _)
 have hmm:(jxC c jx).ms.getD k ⟨[],[],0⟩=c.ms.getD (jx.getD k 0) ⟨[],[],0⟩:=Zq8 hk2
 have hhh:((Zal (jxC c jx)).getD (c.us.getD u ⟨0,0,0,0⟩).q.toNat []).getD k false=((Zal c).getD (c.us.getD u ⟨0,0,0,0⟩).q.toNat []).getD (jx.getD k 0) false:=by
  generalize (c.us.getD u ⟨0,0,0,0⟩).q.toNat=q;unfold Zal;show ((c.qs.map _).getD q []).getD k false=_;by_cases hq:q<c.qs.length
  ·rw[List.getD_eq_getElem?_getD (l:=c.qs.map _),List.getElem?_map,List.getElem?_eq_getElem hq,List.getD_eq_getElem?_getD (l:=c.qs.map _),List.getElem?_map,List.getElem?_eq_getElem hq]
   show ((jx.map (fun i=>c.ms.getD i ⟨[],[],0⟩)).map (hmB c.qs[q])).getD k false=(c.ms.map (hmB c.qs[q])).getD (jx.getD k 0) false;rw[List.getD_eq_getElem?_getD,List.getElem?_map,List.getElem?_map,List.getElem?_eq_getElem hk2,List.getD_eq_getElem?_getD (l:=c.ms.map _),List.getElem?_map,List.getElem?_eq_getElem hj];show hmB c.qs[q] (c.ms.getD jx[k] ⟨[],[],0⟩)=hmB c.qs[q] c.ms[jx.getD k 0]
   have:jx[k]=jx.getD k 0:=by rw[List.getD_eq_getElem?_getD,List.getElem?_eq_getElem hk2];rfl
   rw[this,List.getD_eq_getElem?_getD (l:=c.ms),List.getElem?_eq_getElem hj];rfl
  ·rw[List.getD_eq_getElem?_getD (l:=c.qs.map _),List.getElem?_eq_none (by rw[List.length_map];omega),List.getD_eq_getElem?_getD (l:=c.qs.map _),List.getElem?_eq_none (by rw[List.length_map];omega)];rfl
 rw[hmm,hhh,hx];unfold Zi1;simp
include hp in
theorem Zwc {k w:Nat} (hk:k<c.ms.length):(Zax (jxC c jx) (Zay (jxC c jx))).cap k w=(Zax c (Zay c)).cap (jx.getD k 0) w:=by
 have hk2:k<jx.length:=by rw[Zfo hp];exact hk
 have hmm:(jxC c jx).ms.getD k ⟨[],[],0⟩=c.ms.getD (jx.getD k 0) ⟨[],[],0⟩:=Zq8 hk2;show (Zco ((jxC c jx).ms.getD k ⟨[],[],0⟩).t w).toNat=_;rw[hmm];rfl
include hp in
theorem Z1c:(jxC c jx).ms.length=c.ms.length:=by
 show (jx.map _).length=_;rw[List.length_map,Zfo hp]
include hp in
theorem Zwd {a b:Nat} (ha:a<c.ms.length) (hb:b<c.ms.length) (h:jx.getD a 0=jx.getD b 0):a=b:=by
 have hnd:jx.Nodup:=hp.nodup_iff.2 List.nodup_range
 have ha:a<jx.length:=by rw[Zfo hp];exact ha
 have hb:b<jx.length:=by rw[Zfo hp];exact hb
 rw[List.getD_eq_getElem?_getD,List.getElem?_eq_getElem ha,List.getD_eq_getElem?_getD,List.getElem?_eq_getElem hb] at h;have h:jx[a]=jx[b]:=h;rw[← List.Nodup.idxOf_getElem hnd a ha,← List.Nodup.idxOf_getElem hnd b hb,h]
include ho hp in
theorem Z2d:Zpw (Zax (jxC c jx) (Zay (jxC c jx)))=Zpw (Zax c (Zay c)):=by
 have hM:=Z1c hp;have h1:Zpw (Zax (jxC c jx) (Zay (jxC c jx)))=Zpw ⟨c.us.length,c.ms.length,fun u m=>(Zax c (Zay c)).can u (jx.getD m 0),(Zax c (Zay c)).win,fun m w=>(Zax c (Zay c)).cap (jx.getD m 0) w⟩:=Zpz rfl hM (fun u m hu hm=>Zwb ho hp hu (by rw[← hM];exact hm)) (fun u hu=>rfl) (fun m w hm=>Zwc hp (by rw[← hM];exact hm));rw[h1];show Zid (fun u m=>(Zax c (Zay c)).can u (jx.getD m 0)) (Zax c (Zay c)).win c.ms.length (List.range c.us.length) (fun m w=>(Zax c (Zay c)).cap (jx.getD m 0) w)=Zid (Zax c (Zay c)).can (Zax c (Zay c)).win c.ms.length (List.range c.us.length) (Zax c (Zay c)).cap;refine Zm3 (fun m=>jx.getD m 0) ?_ (fun a b ha hb h=>Zwd hp ha hb h) _ _
 have:(List.range c.ms.length).map (fun m=>jx.getD m 0)=jx:=by
  conv=>rhs;rw[Zhb jx 0,Zfo hp]
 show ((List.range c.ms.length).map _).Perm (List.range c.ms.length);rw[this];exact hp
include hv hn ho hp in
theorem Z1d:Zbw (jxC c jx)=Zbw c:=by
 have hv2:Zam (jxC c jx)=true:=Zfx hv (Zwa hp);unfold Zbw;rw[if_pos hv,if_pos hv2];exact Zk6 (Zq5 (Zan hv2 hn)) (Zq5 (Zan hv hn)) (fun w=>rfl) (Z2d ho hp)
include hv hn ho hp in
theorem Z2e {u m:Nat} (hu:u<c.us.length) (hm:m<c.ms.length):Zjf (jxC c jx) (Zay (jxC c jx)) u m=Zjf c (Zay c) u (jx.getD m 0):=by
 have hv2:Zam (jxC c jx)=true:=Zfx hv (Zwa hp);have hM:=Z1c hp
 have hm2:m<jx.length:=by rw[Zfo hp];exact hm
 have hj:∀ k,k<c.ms.length→jx.getD k 0<c.ms.length:=fun k hk=>Z2c hp _ (Ze7 (by rw[Zfo hp];exact hk))
 have hnd:jx.Nodup:=hp.nodup_iff.2 List.nodup_range;rw[Bool.eq_iff_iff,Zlz (Zan hv2 hn) hu (by rw[hM];exact hm),Zlz (Zan hv hn) hu (hj m hm)];constructor
 ·rintro⟨a,h1,h2⟩
  have ha:∀ u,u<c.us.length→a u<c.ms.length:=fun u hu=>by have:a u<(jxC c jx).ms.length:=h1.mem u hu;rwa [hM] at this
  refine⟨fun u=>jx.getD (a u) 0,Zk7 (T:=Zax (jxC c jx) (Zay (jxC c jx))) (fun k=>jx.getD k 0) rfl (fun u hu=>hj _ (ha u hu)) (fun u hu hc=>?_) (fun u hu=>rfl) (fun u0 hu0=>⟨a u0,fun u hu he=>Zwd hp (ha u hu) (ha u0 hu0) he,fun w=>Nat.le_of_eq (Zwc hp (ha u0 hu0))⟩) h1,by show jx.getD (a u) 0=_;rw[h2]⟩;rw[← Zwb ho hp hu (ha u hu)];exact hc
 ·rintro⟨b,h1,h2⟩
  have hb:∀ u,u<c.us.length→b u<c.ms.length:=fun u hu=>h1.mem u hu
  have hbi:∀ u,u<c.us.length→jx.idxOf (b u)<c.ms.length∧jx.getD (jx.idxOf (b u)) 0=b u:=fun u hu=>by
   have hmem:b u∈jx:=hp.mem_iff.2 (List.mem_range.2 (hb u hu));have hlt:=List.idxOf_lt_length_of_mem hmem;refine⟨by rw[← Zfo hp];exact hlt,?_⟩;rw[List.getD_eq_getElem?_getD,List.getElem?_eq_getElem hlt];exact List.getElem_idxOf hlt
  refine⟨fun u=>jx.idxOf (b u),Zk7 (T:=Zax c (Zay c)) (fun k=>jx.idxOf k) rfl (fun u hu=>by show _<(jxC c jx).ms.length;rw[hM];exact (hbi u hu).1) (fun u hu hc=>?_) (fun u hu=>rfl) (fun u0 hu0=>⟨b u0,fun u hu he=>?_,fun w=>?_⟩) h1,?_⟩
  ·rw[Zwb ho hp hu (hbi u hu).1,(hbi u hu).2];exact hc
  ·rw[← (hbi u hu).2,he,(hbi u0 hu0).2]
  ·rw[Zwc hp (hbi u0 hu0).1,(hbi u0 hu0).2];exact Nat.le_refl _
  ·show jx.idxOf (b u)=m
   exact Zwd hp (hbi u hu).1 hm (by rw[(hbi u hu).2,h2])
include hv hn ho hp in
theorem Zwe {u:Nat} (hu:u<c.us.length):(Ze3 (jxC c jx) (Zay (jxC c jx)) u).length=(Ze3 c (Zay c) u).length:=by
 unfold Ze3;rw[Z1c hp];have e:(List.range c.ms.length).filter (Zjf (jxC c jx) (Zay (jxC c jx)) u)=(List.range c.ms.length).filter (Zjf c (Zay c) u ∘ (fun m=>jx.getD m 0)):=List.filter_congr (fun m hm=>Z2e hv hn ho hp hu (List.mem_range.1 hm));rw[e,← List.length_map (f:=fun m=>jx.getD m 0),← List.filter_map]
 have:(List.range c.ms.length).map (fun m=>jx.getD m 0)=jx:=by
  conv=>rhs;rw[Zhb jx 0,Zfo hp]
 rw[this];exact (hp.filter _).length_eq
end
theorem Zwf (c:Crw) (m:Nat):Zjq c (Zdo m c.ms)=jxC c (Zdo m (List.range c.ms.length)):=by
 unfold jxC;rw[← Zv9]
structure TurP (c:Crw) (c1 c2:Crw) (un u:Nat) (opened:Bool):Prop where
 v1:Zam c1=true
 v2:Zam c2=true
 ls:(Zbb c).length=un
 l2:(Zbb c2).length=un
 rot:Zbb c1=Zdo u (Zbb c)
 cnt:Zbw c1=Zbw c
 cn2:opened=false→Zbw c2=Zbw c
 row:opened=false→∀ (n:Nat) (r s:List Int),(Zbb c)[n]?=some r→(Zbb c2)[n]?=some s→r.length=s.length
theorem Z1e {c:Crw} (hv:Zam c=true) (hn:c.us.length≤1000) (u m:Nat):TurP c (Zjp c (Zdo u c.us)) (Zjq c (Zdo m c.ms)) c.us.length u (c.us.any (fun x=>x.h != -1)):=by
 have hp1:(Zdo u (List.range c.us.length)).Perm (List.range c.us.length):=Zdp _ _;have hp2:(Zdo m (List.range c.ms.length)).Perm (List.range c.ms.length):=Zdp _ _
 have hlt:∀ i∈Zdo u (List.range c.us.length),i<c.us.length:=fun i hi=>List.mem_range.1 (hp1.mem_iff.1 hi)
 have hll:(Zdo u (List.range c.us.length)).length=c.us.length:=by have:=hp1.length_eq;rwa [List.length_range] at this
 have hv2:Zam (Zjq c (Zdo m c.ms))=true:=Zfx hv (Zdp _ _)
 have ho:c.us.any (fun x=>x.h != -1)=false→∀ x∈c.us,x.h = -1:=fun h x hx=>by
  rw[List.any_eq_false] at h;have:=h x hx;simpa using this
 refine⟨by rw[Zpk];exact Zgn hv hlt (Nat.le_of_eq hll),hv2,Zq6 hv,Zq6 hv2,Zzg hv hn u,by rw[Zpk];exact Zze hv hn hp1,fun h=>?_,fun h n r s h1 h2=>?_⟩
 ·rw[Zwf];exact Z1d hv hn (ho h) hp2
 ·obtain⟨hi,rfl⟩:=Zpi hv h1
  obtain⟨-,rfl⟩:=Zpi hv2 h2;rw[List.length_map,List.length_map,Zwf,Zwe hv hn (ho h) hp2 hi]
end
section
open Go.RowKit Go.Sort Go.Maps
def Zi8 (k:Nat):Type:={l:List Value // l.length=k∧∀ u∈l,u.oneCell'=true}
def Zoe {k:Nat} (x:Zi8 k):List Value:=x.1
theorem Zbh {k:Nat} (x:Zi8 k):(Zoe x).length=k:=x.2.1
theorem Zgo {k:Nat} (x:Zi8 k):∀ u∈Zoe x,u.oneCell'=true:=x.2.2
def HdR {β:Type} {k:Nat} (P:World→β→List Value→Prop) (w:World) (l:List β) (hs:List (Zi8 k)):Prop:=hs.length=l.length∧∀ (i:Nat) (x:β) (v:Zi8 k),l[i]?=some x→hs[i]?=some v→P w x v.1
section
variable {β:Type} {k:Nat} {P:World→β→List Value→Prop}
theorem HdR.below {w w':World} {l:List β} {hs:List (Zi8 k)} (h:HdR P w l hs) (hP:∀ x cs,P w x cs→P w' x cs):HdR P w' l hs:=⟨h.1,fun i x v h1 h2=>hP _ _ (h.2 i x v h1 h2)⟩
theorem HdR.drop {w:World} {l:List β} {hs:List (Zi8 k)} (h:HdR P w l hs) (u:Nat):HdR P w (l.drop u) (hs.drop u):=⟨by rw[List.length_drop,List.length_drop,h.1],fun i x v h1 h2=>by
 rw[List.getElem?_drop] at h1 h2
 exact h.2 _ x v h1 h2⟩
theorem HdR.take {w:World} {l:List β} {hs:List (Zi8 k)} (h:HdR P w l hs) (u:Nat):HdR P w (l.take u) (hs.take u):=⟨by rw[List.length_take,List.length_take,h.1],fun i x v h1 h2=>by
 rw[List.getElem?_take] at h1 h2
 split at h1
 ·rename_i hi
  rw[if_pos hi] at h2;exact h.2 _ x v h1 h2
 ·cases h1⟩
theorem HdR.append {w:World} {l l':List β} {hs hs':List (Zi8 k)} (h:HdR P w l hs) (h':HdR P w l' hs'):HdR P w (l++l') (hs++hs'):=⟨by rw[List.length_append,List.length_append,h.1,h'.1],fun i x v h1 h2=>by
 by_cases hi:i<l.length
 ·rw[List.getElem?_append_left hi] at h1
  rw[List.getElem?_append_left (by rw[h.1];exact hi)] at h2;exact h.2 _ x v h1 h2
 ·rw[List.getElem?_append_right (by omega)] at h1
  rw[List.getElem?_append_right (by rw[h.1];omega),h.1] at h2
  exact h'.2 _ x v h1 h2⟩
theorem HdR.rot {w:World} {l:List β} {hs:List (Zi8 k)} (h:HdR P w l hs) (u:Nat):HdR P w (Zdo u l) (Zdo u hs):=(h.drop u).append (h.take u)
end
theorem Zeh {α:Type} {f:α→List Value} {k:Nat} (hf:∀ x,(f x).length=k) {w:World} {g:Nat}:∀ (l:List α) (off:Nat),(∀ i x,l[i]?=some x→Zau w g (off+i*k) (f x))→Zau w g off (l.flatMap f)
 | [],off,_=>fun j u hj=>by cases hj
 | x::l,off,h=>fun j u hj=>by
  rw[List.flatMap_cons] at hj;by_cases hjk:j<(f x).length
  ·rw[List.getElem?_append_left hjk] at hj
   have:=h 0 x rfl j u hj
   rwa [Nat.zero_mul,Nat.add_zero] at this
  ·rw[List.getElem?_append_right (by omega),hf] at hj
   rw[hf] at hjk
   have:=Zeh hf l (off+k) (fun i y hi=>by
    have:=h (i+1) y hi
    rwa [Nat.succ_mul,show off+(i*k+k)=off+k+i*k by omega] at this) (j-k) u hj
   rwa [show off+k+(j-k)=off+j by omega] at this
theorem Zei {α:Type} {f:α→List Value} {k:Nat} (hf:∀ x,(f x).length=k) {w:World} {g:Nat}:∀ (l:List α) (off:Nat),Zau w g off (l.flatMap f)→∀ i x,l[i]?=some x→Zau w g (off+i*k) (f x)
 | [],off,_,i,x,hi=>by cases hi
 | y::l,off,h,0,x,hi=>by
  obtain rfl:=Option.some.inj hi;intro j u hj;rw[Nat.zero_mul,Nat.add_zero];refine h j u ?_;rw[List.flatMap_cons,List.getElem?_append_left (List.getElem?_eq_some_iff.1 hj).1];exact hj
 | y::l,off,h,i+1,x,hi=>by
  have:=Zei hf l (off+k) (fun j u hj=>by
   have:=h (k+j) u (by rw[List.flatMap_cons,List.getElem?_append_right (by rw[hf];omega),hf,Nat.add_sub_cancel_left];exact hj)
   rwa [show off+(k+j)=off+k+j by omega] at this) i x hi
  rwa [Nat.succ_mul,show off+(i*k+k)=off+k+i*k by omega]
theorem Zak.part {α:Type} {f:α→List Value} {k:Nat} (hf:∀ x,(f x).length=k) {w:World} {g off:Nat} {l:List α} (h:Zak f w (some ⟨g,off,none⟩) l) (u:Nat):Zak f w (some ⟨g,off+u*k,none⟩) (l.drop u):=by
 rcases h with h | ⟨g',off',h1,h2,h3⟩
 ·exact .inl (by rw[h];simp)
 ·obtain⟨rfl,rfl⟩:g=g'∧off=off':=by simpa using h1
  refine .inr ⟨g,off+u*k,rfl,h2,Zeh hf _ _ (fun i x hi=>?_)⟩;rw[List.getElem?_drop] at hi;have:=Zei hf l off h3 (u+i) x hi
  rwa [Nat.add_mul,← Nat.add_assoc] at this
theorem Zak.first {α:Type} {f:α→List Value} {k:Nat} (hf:∀ x,(f x).length=k) {w:World} {ao:Option Addr} {l:List α} (h:Zak f w ao l) (u:Nat):Zak f w ao (l.take u):=by
 rcases h with h | ⟨g,off,h1,h2,h3⟩
 ·exact .inl (by rw[h];simp)
 ·refine .inr ⟨g,off,h1,h2,Zeh hf _ _ (fun i x hi=>?_)⟩
  rw[List.getElem?_take] at hi
  split at hi
  ·exact Zei hf l off h3 i x hi
  ·cases hi
theorem Z1f {α:Type}:∀ (n:Nat) (Q:Nat→α→Prop),(∀ i,i<n→∃ x,Q i x)→∃ l:List α,l.length=n∧∀ i x,l[i]?=some x→Q i x
 | 0,Q,h=>⟨[],rfl,fun i x hi=>by cases hi⟩
 | n+1,Q,h=>by
  obtain⟨l,hl,hq⟩:=Z1f n Q (fun i hi=>h i (by omega));obtain⟨x,hx⟩:=h n (by omega);refine⟨l++[x],by rw[List.length_append,hl];rfl,fun i y hi=>?_⟩;by_cases hin:i<l.length
  ·rw[List.getElem?_append_left hin] at hi;exact hq i y hi
  ·rw[List.getElem?_append_right (by omega)] at hi
   have h0:i-l.length=0:=by
    rcases Nat.eq_zero_or_pos (i-l.length) with h | h
    ·exact h
    ·rw[List.getElem?_eq_none (by show 1≤_;omega)] at hi;cases hi
   rw[h0] at hi;obtain rfl:=Option.some.inj hi
   obtain rfl:i=n:=by omega
   exact hx
theorem Zzh {w:World} {m:Mem} {cs:List Value} (h:Zny w m cs):cs.length=3∧∀ u∈cs,u.oneCell'=true:=by
 obtain⟨bo,bc,to',tc,rfl,-⟩:=h;exact⟨rfl,by simp[Value.oneCell']⟩
theorem Zwg {w:World} {ms:List Mem} {mo:Option Addr} (h:Zfu w ms mo):∃ hs:List (Zi8 3),Zak Zoe w mo hs∧HdR Zny w ms hs:=by
 rcases h with rfl | ⟨g,off,h1,h2,h3⟩
 ·exact⟨[],.inl rfl,rfl,fun i x v hx=>by cases hx⟩
 ·obtain⟨hs,hl,hq⟩:=Z1f (α:=Zi8 3) ms.length (fun i v=>∀ m,ms[i]?=some m→Zny w m v.1∧Zau w g (off+i*3) v.1) (fun i hi=>by
   obtain⟨cs,h4,h5⟩:=h3 i ms[i] (List.getElem?_eq_getElem hi);refine⟨⟨cs,Zzh h4⟩,fun m hm=>?_⟩;rw[List.getElem?_eq_getElem hi] at hm;obtain rfl:=Option.some.inj hm
   exact⟨h4,h5⟩)
  refine⟨hs,.inr ⟨g,off,h1,h2,Zeh Zbh hs off (fun i v hi=>?_)⟩,hl,fun i m v hm hv=>(hq i v hv m hm).1⟩
  have hi2:i<ms.length:=by rw[← hl];exact (List.getElem?_eq_some_iff.1 hi).1
  exact (hq i v hi ms[i] (List.getElem?_eq_getElem hi2)).2
theorem Zwh {w:World} {ms:List Mem} {mo:Option Addr} {hs:List (Zi8 3)} (h:Zak Zoe w mo hs) (hh:HdR Zny w ms hs):Zfu w ms mo:=by
 rcases h with rfl | ⟨g,off,h1,h2,h3⟩
 ·exact .inl (List.eq_nil_of_length_eq_zero hh.1.symm)
 ·refine .inr ⟨g,off,h1,h2,fun i m hm=>?_⟩
  have hi:i<hs.length:=by rw[hh.1];exact (List.getElem?_eq_some_iff.1 hm).1
  have hv:=List.getElem?_eq_getElem hi;exact⟨hs[i].1,hh.2 i m _ hm hv,Zei Zbh hs off h3 i _ hv⟩
def Zzz (w:World) (r:List Int) (cs:List Value):Prop:=∃ bo bc,cs=[.slice bo r.length bc]∧Zak Zbm w bo r
theorem Zzz.below {w w':World} {r:List Int} {cs:List Value} (h:Zzz w r cs) (hb:Below w.heap.size w w'):Zzz w' r cs:=by
 obtain⟨bo,bc,h1,h2⟩:=h;exact⟨bo,bc,h1,h2.below hb⟩
theorem Zwi {w:World} {rows:List (List Int)} {ao:Option Addr} (h:Zer w rows ao):∃ hs:List (Zi8 1),Zak Zoe w ao hs∧HdR Zzz w rows hs:=by
 rcases h with rfl | ⟨g,off,h1,h2,h3⟩
 ·exact⟨[],.inl rfl,rfl,fun i x v hx=>by cases hx⟩
 ·obtain⟨hs,hl,hq⟩:=Z1f (α:=Zi8 1) rows.length (fun i v=>∀ r,rows[i]?=some r→Zzz w r v.1∧Zau w g (off+i*1) v.1) (fun i hi=>by
   obtain⟨bo,bc,h4,h5⟩:=h3 i rows[i] (List.getElem?_eq_getElem hi);refine⟨⟨[.slice bo rows[i].length bc],rfl,by simp[Value.oneCell']⟩,fun r hr=>?_⟩;rw[List.getElem?_eq_getElem hi] at hr;obtain rfl:=Option.some.inj hr;refine⟨⟨bo,bc,rfl,h5⟩,fun j u hj=>?_⟩
   cases j with
   | zero =>
    obtain rfl:=Option.some.inj hj;rw[Nat.mul_one,Nat.add_zero];exact h4
   | succ j=>cases hj)
  refine⟨hs,.inr ⟨g,off,h1,h2,Zeh Zbh hs off (fun i v hi=>?_)⟩,hl,fun i r v hr hv=>(hq i v hv r hr).1⟩
  have hi2:i<rows.length:=by rw[← hl];exact (List.getElem?_eq_some_iff.1 hi).1
  exact (hq i v hi rows[i] (List.getElem?_eq_getElem hi2)).2
theorem Zwj {w:World} {rows:List (List Int)} {ao:Option Addr} {hs:List (Zi8 1)} (h:Zak Zoe w ao hs) (hh:HdR Zzz w rows hs):Zer w rows ao:=by
 rcases h with rfl | ⟨g,off,h1,h2,h3⟩
 ·exact .inl (List.eq_nil_of_length_eq_zero hh.1.symm)
 ·refine .inr ⟨g,off,h1,h2,fun i r hr=>?_⟩
  have hi:i<hs.length:=by rw[hh.1];exact (List.getElem?_eq_some_iff.1 hr).1
  have hv:=List.getElem?_eq_getElem hi;obtain⟨bo,bc,e,h4⟩:=hh.2 i r _ hr hv;have:=Zei Zbh hs off h3 i _ hv 0 (.slice bo r.length bc) (by show hs[i].1[0]?=_;rw[e];rfl);rw[Nat.mul_one,Nat.add_zero] at this;exact⟨bo,bc,this,h4⟩
theorem HdR.mem {w w':World} {ms:List Mem} {hs:List (Zi8 3)} (h:HdR Zny w ms hs) (hb:Below w.heap.size w w'):HdR Zny w' ms hs:=h.below (fun x cs h=>h.below hb)
theorem HdR.row {w w':World} {rows:List (List Int)} {hs:List (Zi8 1)} (h:HdR Zzz w rows hs) (hb:Below w.heap.size w w'):HdR Zzz w' rows hs:=h.below (fun x cs h=>h.below hb)
section
variable (g o n cap u:Nat)
theorem Zwk {T:TypeId} {k:Nat} (hT:Tryz.prog.underlying T=some (.slice (Tryz.prog.elem T))) (hk:∀ w,(sizeOf (Tryz.prog.elem T)).run Tryz.prog w = .ok k w) (hu:u≤n) (hc:u<cap):∀ w,(Instr.slice T (.slice (some ⟨g,o,none⟩) n cap) (some (.int .i64 (u:Int))) none none).run Tryz.prog w = .ok (.slice (some ⟨g,o+u*k,none⟩) (n-u) (cap-u)) w:=by
 intro w;rw[run_slice_l (ht:=hT) (kl:=.i64) (l:=(u:Int)) (h0:=by omega) (h1:=by omega),hk w];show Result.ok (sliced _ (u:Int).toNat n cap k) w=_;unfold sliced;rw[Int.toNat_natCast,if_neg (by omega)];simp[Addr.add]
theorem Zwl {T:TypeId} {k:Nat} (hT:Tryz.prog.underlying T=some (.slice (Tryz.prog.elem T))) (hk:∀ w,(sizeOf (Tryz.prog.elem T)).run Tryz.prog w = .ok k w) (hc:u≤cap):∀ w,(Instr.slice T (.slice (some ⟨g,o,none⟩) n cap) none (some (.int .i64 (u:Int))) none).run Tryz.prog w = .ok (.slice (some ⟨g,o,none⟩) u cap) w:=by
 intro w;rw[run_slice_h (ht:=hT) (kh:=.i64) (h:=(u:Int)) (h0:=by omega) (h2:=by omega),hk w];show Result.ok (sliced _ 0 (u:Int).toNat cap k) w=_;unfold sliced;rw[Int.toNat_natCast];split<;>simp[Addr.add]
end
theorem Zof:∀ w,(sizeOf (Tryz.prog.elem 24)).run Tryz.prog w = .ok 4 w:=fun w=>by kernel_rfl
theorem Zog:∀ w,(sizeOf (Tryz.prog.elem 23)).run Tryz.prog w = .ok 3 w:=fun w=>by kernel_rfl
theorem Zoh:∀ w,(sizeOf (Tryz.prog.elem 36)).run Tryz.prog w = .ok 1 w:=fun w=>by kernel_rfl
end
end Go.Proofs.YtbcgocpihobjnaaGreatDoor
