import Derived.Test.YtbcgocpihobjnaaGreatDoorCM44
import Derived.Test.YtbcgocpihobjnaaGreatDoorCM40
set_option linter.all false
set_option maxHeartbeats 16000000
set_option maxRecDepth 100000
namespace Go.Proofs.YtbcgocpihobjnaaGreatDoor
section
open Go.RowKit Go.Sort Go.Maps
def Zg1 (k:Nat):Type:={l:List Value // l.length=k∧∀ u∈l,u.oneCell'=true}
def Zlg {k:Nat} (x:Zg1 k):List Value:=x.1
theorem Zb7 {k:Nat} (x:Zg1 k):(Zlg x).length=k:=x.2.1
theorem Zqp {k:Nat} (x:Zg1 k):∀ u∈Zlg x,u.oneCell'=true:=x.2.2
def HdR {β:Type} {k:Nat} (P:World→β→List Value→Prop) (w:World) (l:List β) (hs:List (Zg1 k)):Prop:=hs.length=l.length∧∀ (i:Nat) (x:β) (v:Zg1 k),l[i]?=some x→hs[i]?=some v→P w x v.1
section
variable {β:Type} {k:Nat} {P:World→β→List Value→Prop}
theorem HdR.below {w w':World} {l:List β} {hs:List (Zg1 k)} (h:HdR P w l hs) (hP:∀ x cs,P w x cs→P w' x cs):HdR P w' l hs:=⟨h.1,fun i x v h1 h2=>hP _ _ (h.2 i x v h1 h2)⟩
theorem HdR.drop {w:World} {l:List β} {hs:List (Zg1 k)} (h:HdR P w l hs) (u:Nat):HdR P w (l.drop u) (hs.drop u):=⟨by rw[List.length_drop,List.length_drop,h.1],fun i x v h1 h2=>by
 rw[List.getElem?_drop] at h1 h2
 exact h.2 _ x v h1 h2⟩
theorem HdR.take {w:World} {l:List β} {hs:List (Zg1 k)} (h:HdR P w l hs) (u:Nat):HdR P w (l.take u) (hs.take u):=⟨by rw[List.length_take,List.length_take,h.1],fun i x v h1 h2=>by
 rw[List.getElem?_take] at h1 h2
 split at h1
 ·rename_i hi
  rw[if_pos hi] at h2;exact h.2 _ x v h1 h2
 ·cases h1⟩
theorem HdR.append {w:World} {l l':List β} {hs hs':List (Zg1 k)} (h:HdR P w l hs) (h':HdR P w l' hs'):HdR P w (l++l') (hs++hs'):=⟨by rw[List.length_append,List.length_append,h.1,h'.1],fun i x v h1 h2=>by
 by_cases hi:i<l.length
 ·rw[List.getElem?_append_left hi] at h1
  rw[List.getElem?_append_left (by rw[h.1];exact hi)] at h2;exact h.2 _ x v h1 h2
 ·rw[List.getElem?_append_right (by omega)] at h1
  rw[List.getElem?_append_right (by rw[h.1];omega),h.1] at h2
  exact h'.2 _ x v h1 h2⟩
theorem HdR.rot {w:World} {l:List β} {hs:List (Zg1 k)} (h:HdR P w l hs) (u:Nat):HdR P w (Z2n u l) (Z2n u hs):=(h.drop u).append (h.take u)
end
theorem Ze6 {α:Type} {f:α→List Value} {k:Nat} (hf:∀ x,(f x).length=k) {w:World} {g:Nat}:∀ (l:List α) (off:Nat),(∀ i x,l[i]?=some x→Zav w g (off+i*k) (f x))→Zav w g off (l.flatMap f)
 | [],off,_=>fun j u hj=>by cases hj
 | x::l,off,h=>fun j u hj=>by
  rw[List.flatMap_cons] at hj;by_cases hjk:j<(f x).length
  ·rw[List.getElem?_append_left hjk] at hj
   have:=h 0 x rfl j u hj
   rwa [Nat.zero_mul,Nat.add_zero] at this
  ·rw[List.getElem?_append_right (by omega),hf] at hj
   rw[hf] at hjk
   have:=Ze6 hf l (off+k) (fun i y hi=>by
    have:=h (i+1) y hi
    rwa [Nat.succ_mul,show off+(i*k+k)=off+k+i*k by omega] at this) (j-k) u hj
   rwa [show off+k+(j-k)=off+j by omega] at this
theorem Zeb {α:Type} {f:α→List Value} {k:Nat} (hf:∀ x,(f x).length=k) {w:World} {g:Nat}:∀ (l:List α) (off:Nat),Zav w g off (l.flatMap f)→∀ i x,l[i]?=some x→Zav w g (off+i*k) (f x)
 | [],off,_,i,x,hi=>by cases hi
 | y::l,off,h,0,x,hi=>by
  obtain rfl:=Option.some.inj hi;intro j u hj;rw[Nat.zero_mul,Nat.add_zero];refine h j u ?_;rw[List.flatMap_cons,List.getElem?_append_left (List.getElem?_eq_some_iff.1 hj).1];exact hj
 | y::l,off,h,i+1,x,hi=>by
  have:=Zeb hf l (off+k) (fun j u hj=>by
   have:=h (k+j) u (by rw[List.flatMap_cons,List.getElem?_append_right (by rw[hf];omega),hf,Nat.add_sub_cancel_left];exact hj)
   rwa [show off+(k+j)=off+k+j by omega] at this) i x hi
  rwa [Nat.succ_mul,show off+(i*k+k)=off+k+i*k by omega]
theorem Zal.part {α:Type} {f:α→List Value} {k:Nat} (hf:∀ x,(f x).length=k) {w:World} {g off:Nat} {l:List α} (h:Zal f w (some ⟨g,off,none⟩) l) (u:Nat):Zal f w (some ⟨g,off+u*k,none⟩) (l.drop u):=by
 rcases h with h | ⟨g',off',h1,h2,h3⟩
 ·exact .inl (by rw[h];simp)
 ·obtain⟨rfl,rfl⟩:g=g'∧off=off':=by simpa using h1
  refine .inr ⟨g,off+u*k,rfl,h2,Ze6 hf _ _ (fun i x hi=>?_)⟩;rw[List.getElem?_drop] at hi;have:=Zeb hf l off h3 (u+i) x hi
  rwa [Nat.add_mul,← Nat.add_assoc] at this
theorem Zal.first {α:Type} {f:α→List Value} {k:Nat} (hf:∀ x,(f x).length=k) {w:World} {ao:Option Addr} {l:List α} (h:Zal f w ao l) (u:Nat):Zal f w ao (l.take u):=by
 rcases h with h | ⟨g,off,h1,h2,h3⟩
 ·exact .inl (by rw[h];simp)
 ·refine .inr ⟨g,off,h1,h2,Ze6 hf _ _ (fun i x hi=>?_)⟩
  rw[List.getElem?_take] at hi
  split at hi
  ·exact Zeb hf l off h3 i x hi
  ·cases hi
theorem Z1t {α:Type}:∀ (n:Nat) (Q:Nat→α→Prop),(∀ i,i<n→∃ x,Q i x)→∃ l:List α,l.length=n∧∀ i x,l[i]?=some x→Q i x
 | 0,Q,h=>⟨[],rfl,fun i x hi=>by cases hi⟩
 | n+1,Q,h=>by
  obtain⟨l,hl,hq⟩:=Z1t n Q (fun i hi=>h i (by omega));obtain⟨x,hx⟩:=h n (by omega);refine⟨l++[x],by rw[List.length_append,hl];rfl,fun i y hi=>?_⟩;by_cases hin:i<l.length
  ·rw[List.getElem?_append_left hin] at hi;exact hq i y hi
  ·rw[List.getElem?_append_right (by omega)] at hi
   have h0:i-l.length=0:=by
    rcases Nat.eq_zero_or_pos (i-l.length) with h | h
    ·exact h
    ·rw[List.getElem?_eq_none (by show 1≤_;omega)] at hi;cases hi
   rw[h0] at hi;obtain rfl:=Option.some.inj hi
   obtain rfl:i=n:=by omega
   exact hx
theorem Zyv {w:World} {m:Mem} {cs:List Value} (h:Zjw w m cs):cs.length=3∧∀ u∈cs,u.oneCell'=true:=by
 obtain⟨bo,bc,to',tc,rfl,-⟩:=h;exact⟨rfl,by simp[Value.oneCell']⟩
theorem Zvu {w:World} {ms:List Mem} {mo:Option Addr} (h:Zfk w ms mo):∃ hs:List (Zg1 3),Zal Zlg w mo hs∧HdR Zjw w ms hs:=by
 rcases h with rfl | ⟨g,off,h1,h2,h3⟩
 ·exact⟨[],.inl rfl,rfl,fun i x v hx=>by cases hx⟩
 ·obtain⟨hs,hl,hq⟩:=Z1t (α:=Zg1 3) ms.length (fun i v=>∀ m,ms[i]?=some m→Zjw w m v.1∧Zav w g (off+i*3) v.1) (fun i hi=>by
   obtain⟨cs,h4,h5⟩:=h3 i ms[i] (List.getElem?_eq_getElem hi);refine⟨⟨cs,Zyv h4⟩,fun m hm=>?_⟩;rw[List.getElem?_eq_getElem hi] at hm;obtain rfl:=Option.some.inj hm
   exact⟨h4,h5⟩)
  refine⟨hs,.inr ⟨g,off,h1,h2,Ze6 Zb7 hs off (fun i v hi=>?_)⟩,hl,fun i m v hm hv=>(hq i v hv m hm).1⟩
  have hi2:i<ms.length:=by rw[← hl];exact (List.getElem?_eq_some_iff.1 hi).1
  exact (hq i v hi ms[i] (List.getElem?_eq_getElem hi2)).2
theorem Zny {w:World} {ms:List Mem} {mo:Option Addr} {hs:List (Zg1 3)} (h:Zal Zlg w mo hs) (hh:HdR Zjw w ms hs):Zfk w ms mo:=by
 rcases h with rfl | ⟨g,off,h1,h2,h3⟩
 ·exact .inl (List.eq_nil_of_length_eq_zero hh.1.symm)
 ·refine .inr ⟨g,off,h1,h2,fun i m hm=>?_⟩
  have hi:i<hs.length:=by rw[hh.1];exact (List.getElem?_eq_some_iff.1 hm).1
  have hv:=List.getElem?_eq_getElem hi;exact⟨hs[i].1,hh.2 i m _ hm hv,Zeb Zb7 hs off h3 i _ hv⟩
def Z1u (w:World) (r:List Int) (cs:List Value):Prop:=∃ bo bc,cs=[.slice bo r.length bc]∧Zal Za9 w bo r
theorem Z1u.below {w w':World} {r:List Int} {cs:List Value} (h:Z1u w r cs) (hb:Below w.heap.size w w'):Z1u w' r cs:=by
 obtain⟨bo,bc,h1,h2⟩:=h;exact⟨bo,bc,h1,h2.below hb⟩
theorem HdR.mem {w w':World} {ms:List Mem} {hs:List (Zg1 3)} (h:HdR Zjw w ms hs) (hb:Below w.heap.size w w'):HdR Zjw w' ms hs:=h.below (fun x cs h=>h.below hb)
theorem HdR.row {w w':World} {rows:List (List Int)} {hs:List (Zg1 1)} (h:HdR Z1u w rows hs) (hb:Below w.heap.size w w'):HdR Z1u w' rows hs:=h.below (fun x cs h=>h.below hb)
section
variable (g o n cap u:Nat)
end
end
section
open Go.RowKit Go.Sort Go.Maps
def Z0y (w w':World) (c:Crw) (e:Ending):Prop:=(∃ o cap,e = .returned (.slice o (Zas c).length cap)∧Zey w' (Zas c) o∧(Zas c).length≤cap)∧Below w.heap.size w w'
theorem Zvv (w:World) (c:Crw) (cs:List Value) (B:Nat) (ha:ArgC w c cs B) :
  Calls Tryz.prog 24 #[.agg cs.toArray] w fun e w'=>Z0y w w' c e:=by
 have HOP:=ħ (fun W (hW:Below w.heap.size w W)=>Zdh W c cs (ha.below hW).crw B (ha.below hW).tab ha.ok);have HNU:=ha.nu;have HRK:=ħ (fun (h:Zak c=true)=>Zao h (by omega));have HVP:=ħ (fun (h:Zak c=true)=>Zar h);have HAC:=ħ ha;have hnq0:=ha.ok.nq;have hnm0:=ha.ok.nm;have HPA:Hid (Zas c=if Zak c=true then (List.range c.us.length).map (fun u=>(Zfm c (Za1 c) u).map Int.ofNat) else []):=ħ rfl;have HFIN:Hid (∀ w' o cap,Below w.heap.size w w'→Zey w' (Zas c) o→(Zas c).length≤cap→Z0y w w' c (.returned (.slice o (Zas c).length cap))):=ħ (fun w' o cap hb h h2=>⟨⟨o,cap,rfl,h,h2⟩,hb⟩);generalize Zas c=PA at *;obtain⟨qo,qc,mo,mc,uo,uc,rfl,hq0,hm0,hu0,-⟩:=ha.crw;have HMW:=ħ (fun W (hW:Below w.heap.size w W)=>hm0.below hW);have HUW:=ħ (fun W (hW:Below w.heap.size w W)=>hu0.below hW);unfold Zxq at HOP;clear ha hq0 hm0 hu0;generalize hnq:c.qs.length=nq at *;generalize hnm:c.ms.length=nm at *;generalize hnu:c.us.length=nu at *;have HQE:=ħ hnq;have HME:=ħ hnm;have HUE:=ħ hnu;clear hnq hnm hnu;generalize hvc:Zak c=vc at *;have HVC:=ħ hvc;clear hvc;have X1:Hid (Zaf (w.alloc (.cells #[.slice qo nq qc,.slice mo nm mc,.slice uo nu uc] 26)) w.heap.size 26 [.slice qo nq qc,.slice mo nm mc,.slice uo nu uc]):=ħ (heap_alloc_new w _);have B1:=ħ ((Below.refl w.heap.size w).alloc (Nat.le_refl _) (.cells #[.slice qo nq qc,.slice mo nm mc,.slice uo nu uc] 26))
 go_enter Tryz.func24,Tryz.ntmps24
 go_upto_region 1 with (fail)
 generalize w.alloc (.cells #[.slice qo nq qc,.slice mo nm mc,.slice uo nu uc] 26)=w1 at *;have c0:=X1.o.cell 0 _ rfl;have c1:=X1.o.cell 1 _ rfl;have c2:=X1.o.cell 2 _ rfl;have HCL:=ħ (HOP.o w1 B1.o);clear HOP
 go_wp2_with fail
 refine HCL.o.mono ?_;intro e w2 hq;obtain⟨hres,b2⟩:=hq;have B2:=ħ (B1.o.trans (b2.mono B1.o.size));have X2:=ħ (X1.o.step b2);have HSZ:Hid (w.heap.size<w2.heap.size):=ħ X2.o.lt;clear b2 c0 c1 c2 B1 X1 HCL
 cases vc with
 | false =>
  rw[if_neg (by decide)] at hres;subst hres;have HPN:Hid (PA=[]):=ħ (by rw[HPA.o];rfl);clear HPA
  go_wp2_with fail
  go_ret;rw[HPN.o] at HFIN;exact HFIN.o _ none 0 B2.o (.inl rfl) (Nat.le_refl _)
 | true =>
  rw[if_pos rfl] at hres;obtain⟨A,rfl,hR,-⟩:=hres;have HR:=ħ hR;have HOK:=ħ (HRK.o rfl);clear hR HRK;have HPN:Hid (PA=(List.range nu).map (fun u=>(Zfm c (Za1 c) u).map Int.ofNat)):=ħ (by rw[HPA.o,if_pos rfl]);have HPO:=ħ (fun W (hW:Below w2.heap.size w2 W) k (hk:k<nu)=>Zk7 W A c (Zaj c) (Za1 c) k (HR.o.below hW) HOK.o (by rw[HUE.o];exact hk));have c2:=X2.o.cell 2 _ rfl;clear HPA HR
  go_wp2_with fail
  clear c2;have HWZ:=ħ (Below.refl w2.heap.size w2);obtain⟨wz,hwz⟩:∃ y,w2=y:=⟨_,rfl⟩;rw[hwz] at HPO B2 HWZ ⊢;clear hwz HSZ X2;have R2:Hid (RowM IlE 1 wz.heap.size wz wz.heap.size (fun _=>False) none 0 0 (PA.take 0) []):=ħ (by rw[List.take_zero];exact RowM.nil _ _ _)
  go_loopw [16,2] (fun kv ov wr=>∃ (k:Nat) (o:Option Addr) (cap:Nat) (vss:List (List Value)),kv = .int .i64 k∧ov = .slice o k cap∧k≤nu∧Hid (RowM IlE 1 wz.heap.size wr wz.heap.size (fun _=>False) o k cap (PA.take k) vss)∧Hid (Below wz.heap.size wz wr)) (fun k _ _=>(nu-intOf k).toNat)
  case atStart=>exact⟨0,none,0,[],rfl,rfl,by omega,R2,HWZ⟩
  case round =>
   clear R2 HWZ;obtain⟨k,o,cap,vss,rfl,rfl,hk,R3,B3⟩:=hrel;have e2:IntKind.i64.wrap ((k:Int)+1)=((k+1:Nat):Int):=IntWalk.i64_in _ (by omega);by_cases hkn:k<nu
   ·have kk:(k:Int)<nu:=by omega
    have HPC:=ħ (HPO.o wr B3.o k hkn);have HTK:Hid (PA.take (k+1)=PA.take k++[(Zfm c (Za1 c) k).map Int.ofNat]):=ħ (by rw[List.take_add_one,HPN.o,List.getElem?_map,List.getElem?_range hkn];rfl);have HKL:Hid (∀ g,blk o=some g→g<wr.heap.size):=ħ (fun g hg=>(R3.o.own.blk_lt hg).2);generalize Zfm c (Za1 c) k=PK at *
    go_wp2_with fail
    refine HPC.o.mono ?_;rintro e w3 ⟨⟨po,pc,rfl,ho⟩,b3⟩;have E4:Hid (IlE w3 (fun g=>wr.heap.size≤g) (PK.map Int.ofNat) [.slice po PK.length pc]):=ħ (Zul ho _ (fun g hg=>hg));have R4:=ħ (R3.o.step IlE.keeps b3);have B4:=ħ (B3.o.trans (b3.mono B3.o.size));have HB3:=ħ B3.o.size;clear ho b3 HPC R3 B3
    go_upto_region 8 with (at_builtin;refine Zdu 36 33 (.slice none 0 0) 1 24 Tryz.underlying36 Znr rfl (by omega) (by omega) w3 wz.heap.size rfl (.tmp 19) (.tmp 23) rfl o cap k vss.flatten ?q1 R4.o.own B4.o.size 1 1 #[.slice po PK.length pc] 33 ?q2 rfl (by omega) ?q3 ?q4 ?_;(case q1=>rfl);(case q2=>rfl);(case q3=>intro u hu;simp at hu;subst hu;rfl);(case q4=>omega);intro g5 off5 c5 wa o8 gr8 b8 or8;have R8:=ħ (RowM.add IlE.keeps R4.o HKL.o HB3.o (fun g hg=>hg.elim) E4.o rfl o8 gr8 or8);have B8:=ħ (B4.o.trans b8);clear o8 gr8 b8 or8)
    go_wp2_with fail
    go_roundw
    case rel=>exact⟨k+1,_,_,_,by go_num,rfl,by omega,ħ (by rw[HTK.o];exact R8.o),B8⟩
    case measure=>simp only[intOf];omega
   ·have kk:¬ (k:Int)<nu:=by omega
    obtain rfl:nu=k:=by omega
    have HPL:Hid (PA.length=nu):=ħ (by rw[HPN.o,List.length_map,List.length_range]);have HTK:Hid (PA.take nu=PA):=ħ (List.take_of_length_le (by rw[HPL.o];exact Nat.le_refl _))
    go_wp2_with fail
    go_ret;have key:=HFIN.o wr o cap (B2.o.trans (B3.o.mono B2.o.size)) (by have:=R3.o.rowsI;rwa [HTK.o] at this) (by rw[HPL.o];exact R3.o.own.len_le.1);rw[HPL.o] at key;exact key
theorem Z1v {w:World} {c:Crw} {qo mo uo:Option Addr} {qn mn un qc mc uc:Nat} (h:Zgs w c [.slice qo qn qc,.slice mo mn mc,.slice uo un uc]):Zfk w c.ms mo:=by
 obtain⟨qo',qc',mo',mc',uo',uc',he,h1,h2,h3,h4⟩:=h;simp only[List.cons.injEq,Value.slice.injEq,and_true] at he;obtain⟨⟨rfl,rfl,rfl⟩,⟨rfl,rfl,rfl⟩,rfl,rfl,rfl⟩:=he;exact h2
theorem Zr4 (w:World) (c:Crw) (cs:List Value) (B:Nat) (ha:ArgC w c cs B) :
  Calls Tryz.prog 24 #[.agg cs.toArray] w fun e w'=>Below w.heap.size w w'∧∃ o cap,e = .returned (.slice o (Zas c).length cap)∧Zey w' (Zas c) o∧(Zas c).length≤cap:=by
 refine (Zvv w c cs B ha).mono ?_;intro e w' h;unfold Z0y at h;obtain⟨h1,hb⟩:=h;exact⟨hb,h1⟩
end
end Go.Proofs.YtbcgocpihobjnaaGreatDoor
