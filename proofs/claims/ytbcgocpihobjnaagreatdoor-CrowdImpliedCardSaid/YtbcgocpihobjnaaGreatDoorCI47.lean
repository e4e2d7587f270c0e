import Derived.Test.YtbcgocpihobjnaaGreatDoorCI46
import Derived.Test.YtbcgocpihobjnaaGreatDoorCI37
import Derived.Test.YtbcgocpihobjnaaGreatDoorCI31
import Derived.Test.YtbcgocpihobjnaaGreatDoorCI22
set_option linter.all false
namespace Go.Proofs.YtbcgocpihobjnaaGreatDoor
section
open Go.RowKit Go.Sort Go.Maps
theorem Zy8 {c:Crw} {C:List (List Bool)} (hok:ReckOk c C) {i m:Nat} (hi:i<c.us.length):m∈Zif c C i↔m<c.ms.length∧∃ a,Legal (Zbs c C) a∧a i=m:=by
 rw[Z2b];constructor
 ·rintro⟨h1,h2⟩;exact⟨h1,(Zxt hok hi h1).1 h2⟩
 ·rintro⟨h1,h2⟩;exact⟨h1,(Zxt hok hi h1).2 h2⟩
theorem Zy9 {a b:List Nat}:Znp (a.map Int.ofNat) (b.map Int.ofNat)=true↔∀ x∈a,x∈b:=by
 rw[Zy7];constructor
 ·intro h x hx
  obtain⟨y,hy,e⟩:=List.mem_map.1 (h (Int.ofNat x) (List.mem_map.2 ⟨x,hx,rfl⟩));rw[← Int.ofNat.inj e];exact hy
 ·intro h x hx
  obtain⟨y,hy,rfl⟩:=List.mem_map.1 hx;exact List.mem_map.2 ⟨y,h y hy,rfl⟩
end
section
open Go.RowKit Go.Sort Go.Maps
theorem Zza {ps:List Prd} {p:Prd} (hp:p∈ps) {k:Ky} (hk:k∈Zam p):Zfs (Zel ps) k.l=true∧Zfs (Zel ps) k.r=true:=by
 have hm:k∈ps.flatMap Zam:=List.mem_flatMap.2 ⟨p,hp,hk⟩
 have h1:∀ s,(s=k.l∨s=k.r)→Zfs (Zel ps) s=true:=fun s hs=>by
  unfold Zfs;by_cases e:s=[]
  ·rw[e];rfl
  ·have:s∈Zel ps:=(Zji _ s).2 ⟨e,k,hm,hs⟩
   rw[Bool.or_eq_true];exact .inr (by simpa using this)
 exact⟨h1 _ (.inl rfl),h1 _ (.inr rfl)⟩
theorem Z2k {b:List Bnd} (hv:vbP b=true):Zgk (Zgl b) []=some 0:=by
 have hne:∀ e∈(b.map fun b=>(b.n,b.v)).reverse,(e.1==([]:List Nat))=false:=fun e he=>by
  rw[List.mem_reverse,List.mem_map] at he;obtain⟨x,hx,rfl⟩:=he;have h1:=(Zsa [] b hv x hx).1;rw[beq_eq_false_iff_ne];intro h2;rw[show x.n=[] from h2] at h1
  revert h1;decide
 unfold Zgk Zgl;rw[List.find?_append,List.find?_eq_none.2 (fun e he=>by rw[hne e he];decide)];rfl
def Zzs (ns:List (List Nat)) (M:List (List Nat×Int)):List Int:=0::ns.map (gvD M)
theorem Zzb {ns:List (List Nat)} {M:List (List Nat×Int)} (h0:gvD M []=0) {s:List Nat} (h:Zfs ns s=true):gv (Zzs ns M) (Zin ns s)=gvD M s:=by
 unfold Zin;by_cases e:s=[]
 ·rw[if_pos e,e,h0];rfl
 ·rw[if_neg e]
  unfold Zfs at h
  have hs:s∈ns:=by
   rw[Bool.or_eq_true] at h;rcases h with h | h
   ·exact absurd (by simpa using h) e
   ·simpa using h
  have hi:=List.idxOf_lt_length_iff.2 hs;show (Zzs ns M).getD (ns.idxOf s+1) 0=_;unfold Zzs;rw[List.getD_cons_succ,List.getD_eq_getElem?_getD,List.getElem?_map,List.getElem?_eq_getElem hi,Option.map_some,Option.getD_some,List.getElem_idxOf hi]
theorem Z4p {ns:List (List Nat)} {M:List (List Nat×Int)} (hb:Z47 M):AsgL ns.length 65535 (Zzs ns M):=by
 refine⟨by unfold Zzs;rw[List.length_cons,List.length_map],⟨rfl,fun i hi=>?_⟩⟩
 have:gv (Zzs ns M) (i+1)=gvD M ns[i]:=by
  show (Zzs ns M).getD (i+1) 0=_;unfold Zzs;rw[List.getD_cons_succ,List.getD_eq_getElem?_getD,List.getElem?_map,List.getElem?_eq_getElem hi];rfl
 rw[this];exact Zwk hb _
theorem Zpt {ps:List Prd} {p:Prd} (hp:p∈ps) {b:List Bnd} (hv:vbP b=true):Za5 (fK (Zel ps) (gv (Zzs (Zel ps) (Zgl b)))) p=Za5 (fV (Zgl b)) p:=by
 have h0:gvD (Zgl b) []=0:=by unfold gvD;rw[Z2k hv];rfl
 refine Zkb (fun k hk=>?_);obtain⟨h1,h2⟩:=Zza hp ((Zb8 p k).2 hk);unfold fK fV;rw[Zzb h0 h1,Zzb h0 h2]
theorem Zpu {p q:Prd} (hno:Zkp (Zel [p,q]) 65535 (Za7 [p,q]) [p,q] (fun l=>l.getD 0 false&&!l.getD 1 false)=none) {b:List Bnd} (h1:(Zde p b).2=0) (h2:(Zde q b).2=0) (h3:(Zde p b).1=true):(Zde q b).1=true:=by
 have hp:Zde p b=(Za5 (fV (Zgl b)) p,0)∧vbP b=true:=by
  unfold Zde at h1 ⊢
  split at h1
  ·cases h1
  ·split at h1
   ·cases h1
   ·rename_i g1 g2
    rw[if_neg g1,if_neg g2];refine⟨rfl,?_⟩;rw[Bool.not_eq_false,Bool.and_eq_true] at g1;exact g1.2
 have hq:Zde q b=(Za5 (fV (Zgl b)) q,0):=by
  unfold Zde at h2 ⊢
  split at h2
  ·cases h2
  ·split at h2
   ·cases h2
   ·rename_i g1 g2
    rw[if_neg g1,if_neg g2]
 rw[hp.1] at h3;rw[hq]
 have hk:Zp0 (Zel [p,q]) (Za7 [p,q]):=Zv4 (fun k hk=>by
  obtain⟨x,hx,hkx⟩:=List.mem_flatMap.1 hk
  exact Zza hx hkx)
 unfold Zkp at hno;rw[Option.map_eq_none_iff] at hno;have hf:=(Z0m hk (fun l=>l.getD 0 false&&!l.getD 1 false)).2 hno (Zzs (Zel [p,q]) (Zgl b)) (Z4p (Zwn hp.2));unfold trU at hf;rw[List.map_cons,List.map_cons,List.map_nil,Zpt (List.mem_cons_self ..) hp.2,Zpt (List.mem_cons_of_mem _ (List.mem_cons_self ..)) hp.2] at hf;have h3:Za5 (fV (Zgl b)) p=true:=h3;show Za5 (fV (Zgl b)) q=true;have hf:(Za5 (fV (Zgl b)) p&&!Za5 (fV (Zgl b)) q)=false:=hf;rw[h3,Bool.true_and] at hf;simpa using hf
theorem Zs3 (c:Crw) {i k:Nat} {p:Prd} {m:Mem} (hp:c.qs[i]?=some p) (hm:c.ms[k]?=some m):((Zak c).getD i []).getD k false=hmB p m:=by
 unfold Zak;rw[List.getD_eq_getElem?_getD,List.getD_eq_getElem?_getD,List.getElem?_map,hp,Option.map_some,Option.getD_some,List.getElem?_map,hm];rfl
def Zih (x:Use) (q:Int):Use:=⟨q,x.w,x.f,x.h⟩
theorem Zur {nq nm:Nat} (x:Use) {i k:Nat} (hi:i<nq) (hk:k<nq) (h:Zcb nq nm (Zih x (k:Int))=true):Zcb nq nm (Zih x (i:Int))=true:=by
 unfold Zcb at *;rw[Bool.and_eq_true,Bool.and_eq_true,Bool.and_eq_true] at *;refine⟨⟨⟨?_,h.1.1.2⟩,h.1.2⟩,h.2⟩;unfold inB Zih;rw[Bool.and_eq_true,decide_eq_true_eq,decide_eq_true_eq];show (0:Int)≤(i:Int)∧(i:Int)≤_;omega
theorem Z2l {c:Crw} (hv:Zaq c=true) (hn:c.us.length≤999) (x:Use) {i k:Nat} {p q:Prd} (hi:c.qs[i]?=some q) (hk:c.qs[k]?=some p) (himp:∀ m∈c.ms,hmB p m=true→hmB q m=true):Znp ((Zff c (Zih x (k:Int))).map Int.ofNat) ((Zff c (Zih x (i:Int))).map Int.ofNat)=true:=by
 have hil:=(List.getElem?_eq_some_iff.1 hi).1;have hkl:=(List.getElem?_eq_some_iff.1 hk).1
 cases hvs:Zaq (Zbi c (Zih x (k:Int))) with
 | false =>
  rw[Zy6 hv hn hvs];rfl
 | true =>
  have hvw:Zaq (Zbi c (Zih x (i:Int)))=true:=by
   rw[Zh5 hv hn] at hvs ⊢;exact Zur x hil hkl hvs
  have hU:∀ y,(Zbi c y).us.length=c.us.length+1:=fun y=>by show (c.us++[y]).length=_;simp
  have hoks:=Zaz hvs (by rw[hU];omega);have hokw:=Zaz hvw (by rw[hU];omega)
  have htold:∀ y,Zaq (Zbi c y)=true→Zff c y=Zif (Zbi c y) (Zb2 (Zbi c y)) c.us.length:=fun y hy=>by
   have hpl:Zdk c y=true:=by rw[Zk0 hv,← Zh5 hv hn];exact hy
   unfold Zff;rw[if_pos hpl,Zy5]
  rw[htold _ hvs,htold _ hvw,Zy9];intro m hm;obtain⟨hm1,a,ha,ham⟩:=(Zy8 hoks (by rw[hU];omega)).1 hm;refine (Zy8 hokw (by rw[hU];omega)).2 ⟨hm1,a,Zzx (T:=Zbs (Zbi c (Zih x (k:Int))) (Zb2 (Zbi c (Zih x (k:Int))))) (by show (Zbi c (Zih x (k:Int))).us.length=(Zbi c (Zih x (i:Int))).us.length;rw[hU,hU]) (Nat.le_refl _) (fun v z hv2 hz h=>?_) (fun v hv2=>?_) (fun z y _=>Nat.le_refl _) ha,ham⟩
  ·have hv2:v<(c.us++[Zih x (k:Int)]).length:=hv2
   have hz:z<c.ms.length:=hz
   have hv3:v<(c.us++[Zih x (i:Int)]).length:=by simpa using hv2
   rw[Zmm] at h ⊢;rw[Zy4 _ hv2 hz] at h;rw[Zy4 _ hv3 hz];by_cases e:v<c.us.length
   ·rw[List.getD_eq_getElem?_getD,List.getElem?_append_left e] at h ⊢
    exact h
   ·obtain rfl:v=c.us.length:=by simp at hv2;omega
    rw[List.getD_eq_getElem?_getD,List.getElem?_append_right (Nat.le_refl _),Nat.sub_self] at h ⊢;have h:Zzq c (Zak c) (Zih x (k:Int)) z=true:=h;show Zzq c (Zak c) (Zih x (i:Int)) z=true;unfold Zzq Zks at h ⊢;rw[Bool.and_eq_true,Bool.and_eq_true] at h ⊢;refine⟨⟨?_,h.1.2⟩,h.2⟩;have h1:=h.1.1;have hmz:c.ms[z]?=some c.ms[z]:=List.getElem?_eq_getElem hz;have e1:((Zak c).getD (Zih x (k:Int)).q.toNat []).getD z false=hmB p c.ms[z]:=Zs3 c hk hmz;have e2:((Zak c).getD (Zih x (i:Int)).q.toNat []).getD z false=hmB q c.ms[z]:=Zs3 c hi hmz;rw[e1] at h1;rw[e2];exact himp _ (List.getElem_mem hz) h1
  ·show ((c.us++[Zih x (k:Int)]).getD v ⟨0,0,0,0⟩).w.toNat=((c.us++[Zih x (i:Int)]).getD v ⟨0,0,0,0⟩).w.toNat
   have hv2:v<(c.us++[Zih x (k:Int)]).length:=hv2;by_cases e:v<c.us.length
   ·rw[List.getD_eq_getElem?_getD,List.getD_eq_getElem?_getD,List.getElem?_append_left e,List.getElem?_append_left e]
   ·obtain rfl:v=c.us.length:=by simp at hv2;omega
    rw[List.getD_eq_getElem?_getD,List.getD_eq_getElem?_getD,List.getElem?_append_right (Nat.le_refl _),List.getElem?_append_right (Nat.le_refl _),Nat.sub_self];rfl
end
end Go.Proofs.YtbcgocpihobjnaaGreatDoor
