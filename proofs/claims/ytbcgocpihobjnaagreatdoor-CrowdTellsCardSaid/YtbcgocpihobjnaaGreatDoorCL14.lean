import Derived.Lib.QuoteBits
import Derived.Test.YtbcgocpihobjnaaGreatDoorCL13
import Derived.Test.YtbcgocpihobjnaaGreatDoorCL0
set_option linter.all false
set_option maxHeartbeats 4000000
namespace Go.Proofs.YtbcgocpihobjnaaGreatDoor
section
open Go.RowKit
def oM(a b:Nat):Nat:=a ^^^ (a &&& b)
theorem lz(a b i:Nat):(oM a b).testBit i=(a.testBit i&&!b.testBit i):=by
 unfold oM;rw[Nat.testBit_xor,Nat.testBit_and];cases a.testBit i<;>cases b.testBit i<;>rfl
theorem Vp{a:Nat}(h:a<4096):(BitVec.ofInt 64 (a:Int)).toNat=a:=ofInt_u64 a (by omega)
theorem SL{a b:Nat}(ha:a<4096)(hb:b<4096):bits .and .i64 (a:Int) (b:Int)=((a &&& b:Nat):Int):=by
 show IntKind.i64.wrap ((BitVec.ofInt 64 (a:Int) &&& BitVec.ofInt 64 (b:Int)).toNat:Int)=_;rw[BitVec.toNat_and,Vp ha,Vp hb];exact Lib.wrap_i64_small _ (by have:=Nat.and_le_left (n:=a) (m:=b);omega)
theorem W_{a b:Nat}(ha:a<4096)(hb:b<4096):a ||| b<4096:=Nat.or_lt_two_pow (n:=12) ha hb
theorem SM{a b:Nat}(ha:a<4096)(hb:b<4096):bits .or .i64 (a:Int) (b:Int)=((a ||| b:Nat):Int):=by
 show IntKind.i64.wrap ((BitVec.ofInt 64 (a:Int) ||| BitVec.ofInt 64 (b:Int)).toNat:Int)=_;rw[BitVec.toNat_or,Vp ha,Vp hb];exact Lib.wrap_i64_small _ (by have:=W_ ha hb;omega)
theorem SN(a b:Nat):oM a b<=a:=by
 have:oM a b=a &&& oM a b:=by
  apply Nat.eq_of_testBit_eq;intro i;rw[Nat.testBit_and,lz];cases a.testBit i<;>rfl
 rw[this];exact Nat.and_le_left
theorem X_{a b:Nat}(ha:a<4096)(hb:b<4096):bits .andNot .i64 (a:Int) (b:Int)=((oM a b:Nat):Int):=by
 show IntKind.i64.wrap ((BitVec.ofInt 64 (a:Int) &&& ~~~BitVec.ofInt 64 (b:Int)).toNat:Int)=_;rw[BitVec.toNat_and,BitVec.toNat_not,Vp ha,Vp hb]
 have e:a &&& (2^64-1-b)=oM a b:=by
  apply Nat.eq_of_testBit_eq;intro i;rw[Nat.testBit_and,lz,show 2^64-1-b=2^64-(b+1) from by omega,Nat.testBit_two_pow_sub_succ (by omega)];by_cases hi:i<64
  ·rw[decide_eq_true hi,cH]
  ·have:a.testBit i=false:=Nat.testBit_lt_two_pow (gR ha (dQ (show 4096<=2^64 by decide) (Nat.pow_le_pow_right (by omega) (by omega))))
   rw[this];rfl
 rw[e];exact Lib.wrap_i64_small _ (by have:=SN a b;omega)
theorem Y_{s t:Nat}(h:jS s t=true):s<=t:=by
 unfold jS at h;rw[beq_iff_eq] at h;rw[<- h];exact Nat.and_le_right
theorem SO(a b:Nat):jS (a &&& b) b=true:=by
 rw[Kr];intro i h;rw[Nat.testBit_and,dB] at h;exact h.2
theorem Z_(a:Nat):jS a a=true:=by rw[Kr];exact fun i h=>h
theorem SS:∀ (n part free q:Nat),part<2^n->jS part free=true->jS q free=true->q<part->q<=(part-1) &&& free
 | 0,part,free,q,h,_,_,hl=>by have h:part<1:=h;omega
 | n+1,part,free,q,h,hp,hq,hl=>by
  obtain⟨Ts,Tt⟩:=CM.1 hp;obtain⟨dL,kL⟩:=CM.1 hq;by_cases e:part%2=1
  ·have:jS (part-1) free=true:=CM.2 ⟨fun h=>by omega,by rw[show(part-1)/2=part/2 from by omega];exact Tt⟩
   unfold jS at this;rw[beq_iff_eq] at this;rw[this];omega
  ·have Fx:((part-1) &&& free)/2=(part/2-1) &&& (free/2):=by
    apply Nat.eq_of_testBit_eq;intro i;rw[<- Nat.testBit_succ,Nat.testBit_and,Nat.testBit_and,Nat.testBit_succ,Nat.testBit_succ,show(part-1)/2=part/2-1 from by omega]
   have sM:((part-1) &&& free)%2=free%2:=by
    have h1:((part-1) &&& free).testBit 0=((part-1).testBit 0&&free.testBit 0):=Nat.testBit_and ..;rw[Nat.testBit_zero,Nat.testBit_zero,Nat.testBit_zero,show(part-1)%2=1 from by omega] at h1;rcases Nat.mod_two_eq_zero_or_one free with h2 | h2<;>rcases Nat.mod_two_eq_zero_or_one ((part-1) &&& free) with h3 | h3<;>simp[h2,h3] at h1<;>omega
   have hc:=SS n (part/2) (free/2) (q/2) (by rw[Nat.pow_succ] at h;omega) Tt kL (by omega);rw[<- Fx] at hc
   have:q%2<=((part-1) &&& free)%2:=by
    rw[sM];rcases Nat.mod_two_eq_zero_or_one q with h2 | h2
    ·omega
    ·rw[h2,dL h2];omega
   omega
theorem ST{can s q:Nat}(hq:jS q (oM can s)=true):jS s (s ||| q)=true/\(s ||| q) ^^^ s=q/\jS q can=true:=by
 rw[Kr] at hq
 have qU:∀ i,q.testBit i=true->can.testBit i=true/\s.testBit i=false:=fun i h=>by
  have:=hq i h;rw[lz,dB,Bool.not_eq_true'] at this;exact this
 refine⟨Kr.2 (fun i h=>by rw[Nat.testBit_or,h];rfl),?_,Kr.2 (fun i h=>(qU i h).1)⟩;apply Nat.eq_of_testBit_eq;intro i;rw[Nat.testBit_xor,Nat.testBit_or]
 cases h:q.testBit i with
 | false=>cases s.testBit i<;>rfl
 | true=>rw[(qU i h).2];rfl
theorem DD{can s t:Nat}(h1:jS s t=true)(h2:jS (t ^^^ s) can=true):jS (t ^^^ s) (oM can s)=true/\s ||| (t ^^^ s)=t:=by
 rw[Kr] at h1 h2;refine⟨Kr.2 (fun i h=>?_),?_⟩
 ·rw[lz,h2 i h]
  rw[Nat.testBit_xor] at h
  cases hs:s.testBit i with
  | false=>rfl
  | true=>rw[hs,h1 i hs] at h;cases h
 ·apply Nat.eq_of_testBit_eq
  intro i;rw[Nat.testBit_or,Nat.testBit_xor]
  cases hs:s.testBit i with
  | false=>cases t.testBit i<;>rfl
  | true=>rw[h1 i hs];rfl
theorem SU:∀ (k n j:Nat),n<2^k->oS (k+j) n=oS k n
 | 0,n,j,h=>by
  have h:n<1:=h
  obtain rfl:n=0:=by omega
  clear h;show oS (0+j) 0=0
  induction j with
  | zero=>rfl
  | succ j ih=>show 0%2+oS (0+j) (0/2)=0;rw[show 0/2=0 from rfl,ih]
 | k+1,n,j,h=>by
  rw[Nat.pow_succ] at h;rw[show k+1+j=k+j+1 from by omega];show n%2+oS (k+j) (n/2)=n%2+oS k (n/2);rw[SU k (n/2) j (by omega)]
theorem SV:∀ (k n:Nat),oS k n<=k
 | 0,_=>aO _
 | k+1,n=>by show n%2+oS k (n/2)<=k+1;have:=SV k (n/2);omega
def ma(x:Int):Int:=IntKind.u64.wrap (bits .and .u64 (x/2) 6148914691236517205+bits .and .u64 x 6148914691236517205)
def me(x:Int):Int:=IntKind.u64.wrap (bits .and .u64 (x/4) 3689348814741910323+bits .and .u64 x 3689348814741910323)
def mf(x:Int):Int:=bits .and .u64 (IntKind.u64.wrap (x/16+x)) 1085102592571150095
def mg(x:Int):Int:=IntKind.u64.wrap (x+x/256)
def mh(x:Int):Int:=IntKind.u64.wrap (x+x/65536)
def mp(x:Int):Int:=IntKind.u64.wrap (x+x/4294967296)
def mq(x:Int):Int:=bits .and .i64 (wrap64 x) 127
def Z26(x:Nat):Bool:=decide (mq (mp (mh (mg (mf (me (ma (x:Int)))))))=((oS 12 x:Nat):Int))
theorem Zvi:∀ a:Fin 64,∀ b:Fin 64,Z26 (64*(a:Nat)+(b:Nat))=true:=by decide +kernel
theorem Zze(x:Nat)(hx:x<4096):mq (mp (mh (mg (mf (me (ma (x:Int)))))))=((oS 12 x:Nat):Int):=by
 have:=Zvi ⟨x/64,by omega⟩ ⟨x%64,by omega⟩;rw[show 64*((⟨x/64,by omega⟩:Fin 64):Nat)+((⟨x%64,by omega⟩:Fin 64):Nat)=x from by show 64*(x/64)+x%64=x;omega] at this;exact of_decide_eq_true this
theorem Zs7(x:Nat)(hx:x<4096)(w:World) :
  Calls Tryz.prog 218 #[.int .u64 (x:Int)] w fun e w'=>e = .returned (.int .i64 ((oS 12 x:Nat):Int))/\w=w':=by
 have H:=I (Zze x hx);obtain⟨y1,a1⟩:∃ y,IntKind.u64.wrap (bits .and .u64 ((x:Int)/2) 6148914691236517205+bits .and .u64 (x:Int) 6148914691236517205)=y:=⟨_,rfl⟩;obtain⟨y2,a2⟩:∃ y,IntKind.u64.wrap (bits .and .u64 (y1/4) 3689348814741910323+bits .and .u64 y1 3689348814741910323)=y:=⟨_,rfl⟩;obtain⟨y3,a3⟩:∃ y,bits .and .u64 (IntKind.u64.wrap (y2/16+y2)) 1085102592571150095=y:=⟨_,rfl⟩;obtain⟨y4,a4⟩:=exq (IntKind.u64.wrap (y3+y3/256));obtain⟨y5,a5⟩:=exq (IntKind.u64.wrap (y4+y4/65536));obtain⟨y6,a6⟩:=exq (IntKind.u64.wrap (y5+y5/4294967296));obtain⟨y7,a7⟩:=exq (bits .and .i64 (wrap64 y6) 127)
 have H7:Hid (y7=((oS 12 x:Nat):Int)):=I (by
  rw[<- H.o];show y7=mq (mp (mh (mg (mf (me (ma (x:Int)))))))
  rw[show ma (x:Int)=y1 from a1,show me y1=y2 from a2,show mf y2=y3 from a3,show mg y3=y4 from a4,show mh y4=y5 from a5,show mp y5=y6 from a6,show mq y6=y7 from a7])
 clear H
 go_enter Tryz.func218,Tryz.ntmps218
 go_wp2
 go_ret;exact⟨by rw[<- H7.o];rfl,rfl⟩
theorem Zzf(x:Nat)(hx:x<4096)(w:World) :
  Calls Tryz.prog 190 #[.int .u64 (x:Int)] w fun e w'=>e = .returned (.int .i64 ((oS 12 x:Nat):Int))/\w=w':=by
 have H:=I (Zs7 x hx w);have e1:IntKind.u64.wrap (x:Int)=(x:Int):=IntWalk.u64_in _ (by omega)
 go_enter Tryz.func190,Tryz.ntmps190
 go_wp2_with fail
 refine H.o.mono ?_;rintro e w1 ⟨rfl,rfl⟩
 go_wp2_with fail
 go_ret;exact⟨rfl,rfl⟩
end
section
def oU(L can room:Nat)(now:Nat->Nat)(i t:Nat):Nat:=min lH ((List.range i).map (fun s=>if zS L can room s t=true then now s else 0)).sum
def kR(L can room:Nat)(now:Nat->Nat)(i lo t:Nat):Nat:=if zS L can room i t=true/\lo<=t ^^^ i then min lH (oU L can room now i t+now i) else oU L can room now i t
def eR(N:Nat)(f:Nat->Nat):List Nat:=(List.range N).map f
theorem Vq(N:Nat)(f:Nat->Nat):(eR N f).length=N:=by unfold eR;rw[eB,List.length_range]
theorem Sq{N:Nat}(f:Nat->Nat){t:Nat}(h:t<N):(eR N f)[t]?=some (f t):=by unfold eR;rw[dK,List.getElem?_range h];rfl
theorem Ns{N:Nat}{f g:Nat->Nat}(h:∀ t,t<N->f t=g t):eR N f=eR N g:=by
 unfold eR;exact List.map_congr_left (fun t ht=>h t (List.mem_range.1 ht))
theorem SW{N:Nat}{f g:Nat->Nat}{t0:Nat}(v:Nat)(h0:g t0=v)(h:∀ t,t<N->t≠t0->g t=f t):(eR N f).set t0 v=eR N g:=by
 apply List.ext_getElem?;intro t;by_cases ht:t<N
 ·by_cases e:t=t0
  ·subst e
   rw[List.getElem?_set_self (by rw[Vq];exact ht),Sq g ht,h0]
  ·rw[List.getElem?_set_ne (fun h=>e h.symm),Sq f ht,Sq g ht,h t ht e]
 ·rw[List.getElem?_eq_none (by rw[List.length_set,Vq];omega),List.getElem?_eq_none (by rw[Vq];omega)]
theorem TA(L can room:Nat)(now:Nat->Nat)(i t:Nat):oU L can room now i t<=lH:=Nat.min_le_left _ _
theorem TC(L can room:Nat)(now:Nat->Nat)(i t:Nat):oU L can room now (i+1) t=if zS L can room i t=true then min lH (oU L can room now i t+now i) else oU L can room now i t:=by
 unfold oU;rw[I_];split
 ·omega
 ·rw[Nat.add_zero]
theorem Zvk{L can room:Nat}{now:Nat->Nat}{i:Nat}(h:now i=0)(t:Nat):oU L can room now (i+1) t=oU L can room now i t:=by
 rw[TC,h,Nat.add_zero];split
 ·exact Nat.min_eq_right (TA ..)
 ·rfl
theorem mu{L can room i t:Nat}(h:zS L can room i t=true):jS i t=true/\jS (t ^^^ i) can=true/\oS L (t ^^^ i)<=room:=by
 unfold zS at h;simp only[dB,decide_eq_true_eq] at h;exact⟨h.1.1,h.1.2,h.2⟩
theorem Z1v{L can room i t:Nat}(h1:jS i t=true)(h2:jS (t ^^^ i) can=true)(h3:oS L (t ^^^ i)<=room):zS L can room i t=true:=by
 unfold zS;rw[h1,h2,decide_eq_true h3];rfl
theorem Zs8(L can room:Nat)(now:Nat->Nat)(i t:Nat):kR L can room now i (oM can i+1) t=oU L can room now i t:=by
 unfold kR;rw[if_neg];rintro⟨h1,h2⟩;obtain⟨h3,h4,-⟩:=mu h1;have:=Y_ (DD h3 h4).1;omega
theorem TD(L can room:Nat)(now:Nat->Nat)(i t:Nat):kR L can room now i 0 t=oU L can room now (i+1) t:=by
 unfold kR;rw[TC];by_cases e:zS L can room i t=true
 ·rw[if_pos e,if_pos ⟨e,Nat.zero_le _⟩]
 ·rw[if_neg e,if_neg (fun h=>e h.1)]
theorem Z1w{L can room:Nat}{now:Nat->Nat}{i p:Nat}(hp:jS p (oM can i)=true):kR L can room now i (p+1) (i ||| p)=oU L can room now i (i ||| p):=by
 unfold kR;rw[if_neg];rintro⟨-,h2⟩;rw[(ST hp).2.1] at h2;omega
theorem Zzg{L can room:Nat}{now:Nat->Nat}{i p:Nat}(hp:jS p (oM can i)=true)(hr:oS L p<=room):kR L can room now i p (i ||| p)=min lH (oU L can room now i (i ||| p)+now i)/\∀ t,t≠i ||| p->kR L can room now i p t=kR L can room now i (p+1) t:=by
 obtain⟨h1,h2,h3⟩:=ST hp;refine⟨?_,fun t ht=>?_⟩
 ·unfold kR
  rw[if_pos ⟨Z1v h1 (by rw[h2];exact h3) (by rw[h2];exact hr),by rw[h2];exact aO _⟩]
 ·unfold kR
  by_cases e:zS L can room i t=true/\p<=t ^^^ i
  ·rw[if_pos e,if_pos]
   refine⟨e.1,?_⟩;obtain⟨h4,h5,-⟩:=mu e.1;rcases gQ p (t ^^^ i) with h | h
   ·exact h
   ·have h6:t ^^^ i=p:=by omega
    have h7:=(DD h4 h5).2;rw[h6] at h7;exact absurd h7.symm ht
  ·rw[if_neg e,if_neg (fun h=>e ⟨h.1,by omega⟩)]
theorem Zzh{L can room:Nat}{now:Nat->Nat}{i p:Nat}(hr:¬ oS L p<=room)(t:Nat):kR L can room now i p t=kR L can room now i (p+1) t:=by
 unfold kR;by_cases e:zS L can room i t=true/\p<=t ^^^ i
 ·rw[if_pos e,if_pos]
  refine⟨e.1,?_⟩;obtain⟨-,-,h5⟩:=mu e.1;rcases gQ p (t ^^^ i) with h | h
  ·exact h
  ·have h6:t ^^^ i=p:=by omega
   rw[h6] at h5;exact absurd h5 hr
 ·rw[if_neg e,if_neg (fun h=>e ⟨h.1,by omega⟩)]
theorem TE{L can room:Nat}{now:Nat->Nat}{i p n:Nat}(hn:p<2^n)(hp:jS p (oM can i)=true)(t:Nat):kR L can room now i p t=kR L can room now i (((p-1) &&& oM can i)+1) t\/p=0:=by
 by_cases h0:p=0
 ·exact .inr h0
 left
 have aE:(p-1) &&& oM can i<p:=by have:=Nat.and_le_left (n:=p-1) (m:=oM can i);omega
 unfold kR;by_cases e:zS L can room i t=true
 ·obtain⟨h4,h5,-⟩:=mu e
  have h6:=(DD h4 h5).1;by_cases e2:p<=t ^^^ i
  ·rw[if_pos ⟨e,e2⟩,if_pos ⟨e,by omega⟩]
  ·have:=SS n p (oM can i) (t ^^^ i) hn hp h6 (by omega)
   rw[if_neg (fun h=>e2 h.2),if_neg (fun h=>by have:=h.2;omega)]
 ·rw[if_neg (fun h=>e h.1),if_neg (fun h=>e h.1)]
theorem TF(L:Nat)(can room:Nat->Nat):∀ m t,zT L can room m t<=lH
 | 0,t=>by
  show(if t=0 then 1 else 0)<=lH;have:lH=1152921504606846977:=rfl;split<;>omega
 | m+1,t=>Nat.min_le_left _ _
end
end Go.Proofs.YtbcgocpihobjnaaGreatDoor
