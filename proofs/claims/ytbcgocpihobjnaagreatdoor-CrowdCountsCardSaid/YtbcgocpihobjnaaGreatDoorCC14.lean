import Derived.Lib.QuoteBits
import Derived.Test.YtbcgocpihobjnaaGreatDoorCC13
import Derived.Test.YtbcgocpihobjnaaGreatDoorCC0
set_option linter.all false
set_option maxHeartbeats 4000000
namespace Go.Proofs.YtbcgocpihobjnaaGreatDoor
section
open Go.RowKit
def Zjj(a b:Nat):Nat:=a ^^^ (a &&& b)
theorem Ziv(a b i:Nat):(Zjj a b).testBit i=(a.testBit i&&!b.testBit i):=by
 unfold Zjj;rw[Nat.testBit_xor,Nat.testBit_and];cases a.testBit i<;>cases b.testBit i<;>rfl
theorem Zda{a:Nat}(h:a<4096):(BitVec.ofInt 64 (a:Int)).toNat=a:=ofInt_u64 a (by omega)
theorem Zve{a b:Nat}(ha:a<4096)(hb:b<4096):bits .and .i64 (a:Int) (b:Int)=((a &&& b:Nat):Int):=by
 show IntKind.i64.wrap ((BitVec.ofInt 64 (a:Int) &&& BitVec.ofInt 64 (b:Int)).toNat:Int)=_;rw[BitVec.toNat_and,Zda ha,Zda hb];exact Lib.wrap_i64_small _ (by have:=Nat.and_le_left (n:=a) (m:=b);omega)
theorem Z4c{a b:Nat}(ha:a<4096)(hb:b<4096):a ||| b<4096:=Nat.or_lt_two_pow (n:=12) ha hb
theorem Z1g{a b:Nat}(ha:a<4096)(hb:b<4096):bits .or .i64 (a:Int) (b:Int)=((a ||| b:Nat):Int):=by
 show IntKind.i64.wrap ((BitVec.ofInt 64 (a:Int) ||| BitVec.ofInt 64 (b:Int)).toNat:Int)=_;rw[BitVec.toNat_or,Zda ha,Zda hb];exact Lib.wrap_i64_small _ (by have:=Z4c ha hb;omega)
theorem Zvf(a b:Nat):Zjj a b<=a:=by
 have:Zjj a b=a &&& Zjj a b:=by
  apply Nat.eq_of_testBit_eq;intro i;rw[Nat.testBit_and,Ziv];cases a.testBit i<;>rfl
 rw[this];exact Nat.and_le_left
theorem Z1x{a b:Nat}(ha:a<4096)(hb:b<4096):bits .andNot .i64 (a:Int) (b:Int)=((Zjj a b:Nat):Int):=by
 show IntKind.i64.wrap ((BitVec.ofInt 64 (a:Int) &&& ~~~BitVec.ofInt 64 (b:Int)).toNat:Int)=_;rw[BitVec.toNat_and,BitVec.toNat_not,Zda ha,Zda hb]
 have e:a &&& (2^64-1-b)=Zjj a b:=by
  apply Nat.eq_of_testBit_eq;intro i;rw[Nat.testBit_and,Ziv,show 2^64-1-b=2^64-(b+1) from by omega,Nat.testBit_two_pow_sub_succ (by omega)];by_cases hi:i<64
  ·rw[decide_eq_true hi,đk]
  ·have:a.testBit i=false:=Nat.testBit_lt_two_pow (đm ha (đo (show 4096<=2^64 by decide) (Nat.pow_le_pow_right (by omega) (by omega))))
   rw[this];rfl
 rw[e];exact Lib.wrap_i64_small _ (by have:=Zvf a b;omega)
theorem Z1y{s t:Nat}(h:Zf1 s t=true):s<=t:=by
 unfold Zf1 at h;rw[beq_iff_eq] at h;rw[<- h];exact Nat.and_le_right
theorem Zrd(a b:Nat):Zf1 (a &&& b) b=true:=by
 rw[Zds];intro i h;rw[Nat.testBit_and,đi] at h;exact h.2
theorem Zvg(a:Nat):Zf1 a a=true:=by rw[Zds];exact fun i h=>h
theorem Zn8:∀ (n part free q:Nat),part<2^n->Zf1 part free=true->Zf1 q free=true->q<part->q<=(part-1) &&& free
 | 0,part,free,q,h,_,_,hl=>by have h:part<1:=h;omega
 | n+1,part,free,q,h,hp,hq,hl=>by
  obtain⟨hp0,hp1⟩:=Zfo.1 hp;obtain⟨hq0,hq1⟩:=Zfo.1 hq;by_cases e:part%2=1
  ·have:Zf1 (part-1) free=true:=Zfo.2 ⟨fun h=>by omega,by rw[show(part-1)/2=part/2 from by omega];exact hp1⟩
   unfold Zf1 at this;rw[beq_iff_eq] at this;rw[this];omega
  ·have hx2:((part-1) &&& free)/2=(part/2-1) &&& (free/2):=by
    apply Nat.eq_of_testBit_eq;intro i;rw[<- Nat.testBit_succ,Nat.testBit_and,Nat.testBit_and,Nat.testBit_succ,Nat.testBit_succ,show(part-1)/2=part/2-1 from by omega]
   have hx1:((part-1) &&& free)%2=free%2:=by
    have h1:((part-1) &&& free).testBit 0=((part-1).testBit 0&&free.testBit 0):=Nat.testBit_and ..;rw[Nat.testBit_zero,Nat.testBit_zero,Nat.testBit_zero,show(part-1)%2=1 from by omega] at h1;rcases Nat.mod_two_eq_zero_or_one free with h2 | h2<;>rcases Nat.mod_two_eq_zero_or_one ((part-1) &&& free) with h3 | h3<;>simp[h2,h3] at h1<;>omega
   have hc:=Zn8 n (part/2) (free/2) (q/2) (by rw[Nat.pow_succ] at h;omega) hp1 hq1 (by omega);rw[<- hx2] at hc
   have:q%2<=((part-1) &&& free)%2:=by
    rw[hx1];rcases Nat.mod_two_eq_zero_or_one q with h2 | h2
    ·omega
    ·rw[h2,hq0 h2];omega
   omega
theorem Zvh{can s q:Nat}(hq:Zf1 q (Zjj can s)=true):Zf1 s (s ||| q)=true/\(s ||| q) ^^^ s=q/\Zf1 q can=true:=by
 rw[Zds] at hq
 have hq2:∀ i,q.testBit i=true->can.testBit i=true/\s.testBit i=false:=fun i h=>by
  have:=hq i h;rw[Ziv,đi,Bool.not_eq_true'] at this;exact this
 refine⟨Zds.2 (fun i h=>by rw[Nat.testBit_or,h];rfl),?_,Zds.2 (fun i h=>(hq2 i h).1)⟩;apply Nat.eq_of_testBit_eq;intro i;rw[Nat.testBit_xor,Nat.testBit_or]
 cases h:q.testBit i with
 | false=>cases s.testBit i<;>rfl
 | true=>rw[(hq2 i h).2];rfl
theorem Zpu{can s t:Nat}(h1:Zf1 s t=true)(h2:Zf1 (t ^^^ s) can=true):Zf1 (t ^^^ s) (Zjj can s)=true/\s ||| (t ^^^ s)=t:=by
 rw[Zds] at h1 h2;refine⟨Zds.2 (fun i h=>?_),?_⟩
 ·rw[Ziv,h2 i h]
  rw[Nat.testBit_xor] at h
  cases hs:s.testBit i with
  | false=>rfl
  | true=>rw[hs,h1 i hs] at h;cases h
 ·apply Nat.eq_of_testBit_eq
  intro i;rw[Nat.testBit_or,Nat.testBit_xor]
  cases hs:s.testBit i with
  | false=>cases t.testBit i<;>rfl
  | true=>rw[h1 i hs];rfl
theorem Zre:∀ (k n j:Nat),n<2^k->Zii (k+j) n=Zii k n
 | 0,n,j,h=>by
  have h:n<1:=h
  obtain rfl:n=0:=by omega
  clear h;show Zii (0+j) 0=0
  induction j with
  | zero=>rfl
  | succ j ih=>show 0%2+Zii (0+j) (0/2)=0;rw[show 0/2=0 from rfl,ih]
 | k+1,n,j,h=>by
  rw[Nat.pow_succ] at h;rw[show k+1+j=k+j+1 from by omega];show n%2+Zii (k+j) (n/2)=n%2+Zii k (n/2);rw[Zre k (n/2) j (by omega)]
theorem Zvi:∀ (k n:Nat),Zii k n<=k
 | 0,_=>đd _
 | k+1,n=>by show n%2+Zii k (n/2)<=k+1;have:=Zvi k (n/2);omega
def Zzd(x:Int):Int:=IntKind.u64.wrap (bits .and .u64 (x/2) 6148914691236517205+bits .and .u64 x 6148914691236517205)
def Zze(x:Int):Int:=IntKind.u64.wrap (bits .and .u64 (x/4) 3689348814741910323+bits .and .u64 x 3689348814741910323)
def Zzf(x:Int):Int:=bits .and .u64 (IntKind.u64.wrap (x/16+x)) 1085102592571150095
def Zzg(x:Int):Int:=IntKind.u64.wrap (x+x/256)
def Zzh(x:Int):Int:=IntKind.u64.wrap (x+x/65536)
def Zzi(x:Int):Int:=IntKind.u64.wrap (x+x/4294967296)
def Zzj(x:Int):Int:=bits .and .i64 (wrap64 x) 127
def Z3a(x:Nat):Bool:=decide (Zzj (Zzi (Zzh (Zzg (Zzf (Zze (Zzd (x:Int)))))))=((Zii 12 x:Nat):Int))
theorem Zvj:∀ a:Fin 64,∀ b:Fin 64,Z3a (64*(a:Nat)+(b:Nat))=true:=by decide +kernel
theorem Zzk(x:Nat)(hx:x<4096):Zzj (Zzi (Zzh (Zzg (Zzf (Zze (Zzd (x:Int)))))))=((Zii 12 x:Nat):Int):=by
 have:=Zvj ⟨x/64,by omega⟩ ⟨x%64,by omega⟩;rw[show 64*((⟨x/64,by omega⟩:Fin 64):Nat)+((⟨x%64,by omega⟩:Fin 64):Nat)=x from by show 64*(x/64)+x%64=x;omega] at this;exact of_decide_eq_true this
theorem Zsv(x:Nat)(hx:x<4096)(w:World) :
  Calls Tryz.prog 218 #[.int .u64 (x:Int)] w fun e w'=>e = .returned (.int .i64 ((Zii 12 x:Nat):Int))/\w=w':=by
 have H:=ħ (Zzk x hx);obtain⟨y1,a1⟩:∃ y,IntKind.u64.wrap (bits .and .u64 ((x:Int)/2) 6148914691236517205+bits .and .u64 (x:Int) 6148914691236517205)=y:=⟨_,rfl⟩;obtain⟨y2,a2⟩:∃ y,IntKind.u64.wrap (bits .and .u64 (y1/4) 3689348814741910323+bits .and .u64 y1 3689348814741910323)=y:=⟨_,rfl⟩;obtain⟨y3,a3⟩:∃ y,bits .and .u64 (IntKind.u64.wrap (y2/16+y2)) 1085102592571150095=y:=⟨_,rfl⟩;obtain⟨y4,a4⟩:∃ y,IntKind.u64.wrap (y3+y3/256)=y:=⟨_,rfl⟩;obtain⟨y5,a5⟩:∃ y,IntKind.u64.wrap (y4+y4/65536)=y:=⟨_,rfl⟩;obtain⟨y6,a6⟩:∃ y,IntKind.u64.wrap (y5+y5/4294967296)=y:=⟨_,rfl⟩;obtain⟨y7,a7⟩:∃ y,bits .and .i64 (wrap64 y6) 127=y:=⟨_,rfl⟩
 have H7:Hid (y7=((Zii 12 x:Nat):Int)):=ħ (by
  rw[<- H.o];show y7=Zzj (Zzi (Zzh (Zzg (Zzf (Zze (Zzd (x:Int)))))))
  rw[show Zzd (x:Int)=y1 from a1,show Zze y1=y2 from a2,show Zzf y2=y3 from a3,show Zzg y3=y4 from a4,show Zzh y4=y5 from a5,show Zzi y5=y6 from a6,show Zzj y6=y7 from a7])
 clear H
 go_enter Tryz.func218,Tryz.ntmps218
 go_wp2
 go_ret;exact⟨by rw[<- H7.o];rfl,rfl⟩
theorem Zzl(x:Nat)(hx:x<4096)(w:World) :
  Calls Tryz.prog 190 #[.int .u64 (x:Int)] w fun e w'=>e = .returned (.int .i64 ((Zii 12 x:Nat):Int))/\w=w':=by
 have H:=ħ (Zsv x hx w);have e1:IntKind.u64.wrap (x:Int)=(x:Int):=IntWalk.u64_in _ (by omega)
 go_enter Tryz.func190,Tryz.ntmps190
 go_wp2_with fail
 refine H.o.mono ?_;rintro e w1 ⟨rfl,rfl⟩
 go_wp2_with fail
 go_ret;exact⟨rfl,rfl⟩
end
section
def Zk5(L can room:Nat)(now:Nat->Nat)(i t:Nat):Nat:=min Zat ((List.range i).map (fun s=>if Zgd L can room s t=true then now s else 0)).sum
def Zgm(L can room:Nat)(now:Nat->Nat)(i lo t:Nat):Nat:=if Zgd L can room i t=true/\lo<=t ^^^ i then min Zat (Zk5 L can room now i t+now i) else Zk5 L can room now i t
def Zcx(N:Nat)(f:Nat->Nat):List Nat:=(List.range N).map f
theorem Zdt(N:Nat)(f:Nat->Nat):(Zcx N f).length=N:=by unfold Zcx;rw[đr,List.length_range]
theorem Ze6{N:Nat}(f:Nat->Nat){t:Nat}(h:t<N):(Zcx N f)[t]?=some (f t):=by unfold Zcx;rw[đj,List.getElem?_range h];rfl
theorem Zcv{N:Nat}{f g:Nat->Nat}(h:∀ t,t<N->f t=g t):Zcx N f=Zcx N g:=by
 unfold Zcx;exact List.map_congr_left (fun t ht=>h t (List.mem_range.1 ht))
theorem Zrf{N:Nat}{f g:Nat->Nat}{t0:Nat}(v:Nat)(h0:g t0=v)(h:∀ t,t<N->t≠t0->g t=f t):(Zcx N f).set t0 v=Zcx N g:=by
 apply List.ext_getElem?;intro t;by_cases ht:t<N
 ·by_cases e:t=t0
  ·subst e
   rw[List.getElem?_set_self (by rw[Zdt];exact ht),Ze6 g ht,h0]
  ·rw[List.getElem?_set_ne (fun h=>e h.symm),Ze6 f ht,Ze6 g ht,h t ht e]
 ·rw[List.getElem?_eq_none (by rw[List.length_set,Zdt];omega),List.getElem?_eq_none (by rw[Zdt];omega)]
theorem Zvk(L can room:Nat)(now:Nat->Nat)(i t:Nat):Zk5 L can room now i t<=Zat:=Nat.min_le_left _ _
theorem Zn9(L can room:Nat)(now:Nat->Nat)(i t:Nat):Zk5 L can room now (i+1) t=if Zgd L can room i t=true then min Zat (Zk5 L can room now i t+now i) else Zk5 L can room now i t:=by
 unfold Zk5;rw[Zb3];split
 ·omega
 ·rw[Nat.add_zero]
theorem Zvl{L can room:Nat}{now:Nat->Nat}{i:Nat}(h:now i=0)(t:Nat):Zk5 L can room now (i+1) t=Zk5 L can room now i t:=by
 rw[Zn9,h,Nat.add_zero];split
 ·exact Nat.min_eq_right (Zvk ..)
 ·rfl
theorem Zg2{L can room i t:Nat}(h:Zgd L can room i t=true):Zf1 i t=true/\Zf1 (t ^^^ i) can=true/\Zii L (t ^^^ i)<=room:=by
 unfold Zgd at h;simp only[đi,decide_eq_true_eq] at h;exact⟨h.1.1,h.1.2,h.2⟩
theorem Z1z{L can room i t:Nat}(h1:Zf1 i t=true)(h2:Zf1 (t ^^^ i) can=true)(h3:Zii L (t ^^^ i)<=room):Zgd L can room i t=true:=by
 unfold Zgd;rw[h1,h2,decide_eq_true h3];rfl
theorem Zsw(L can room:Nat)(now:Nat->Nat)(i t:Nat):Zgm L can room now i (Zjj can i+1) t=Zk5 L can room now i t:=by
 unfold Zgm;rw[if_neg];rintro⟨h1,h2⟩;obtain⟨h3,h4,-⟩:=Zg2 h1;have:=Z1y (Zpu h3 h4).1;omega
theorem Zrg(L can room:Nat)(now:Nat->Nat)(i t:Nat):Zgm L can room now i 0 t=Zk5 L can room now (i+1) t:=by
 unfold Zgm;rw[Zn9];by_cases e:Zgd L can room i t=true
 ·rw[if_pos e,if_pos ⟨e,Nat.zero_le _⟩]
 ·rw[if_neg e,if_neg (fun h=>e h.1)]
theorem Z10{L can room:Nat}{now:Nat->Nat}{i p:Nat}(hp:Zf1 p (Zjj can i)=true):Zgm L can room now i (p+1) (i ||| p)=Zk5 L can room now i (i ||| p):=by
 unfold Zgm;rw[if_neg];rintro⟨-,h2⟩;rw[(Zvh hp).2.1] at h2;omega
theorem Zzm{L can room:Nat}{now:Nat->Nat}{i p:Nat}(hp:Zf1 p (Zjj can i)=true)(hr:Zii L p<=room):Zgm L can room now i p (i ||| p)=min Zat (Zk5 L can room now i (i ||| p)+now i)/\∀ t,t≠i ||| p->Zgm L can room now i p t=Zgm L can room now i (p+1) t:=by
 obtain⟨h1,h2,h3⟩:=Zvh hp;refine⟨?_,fun t ht=>?_⟩
 ·unfold Zgm
  rw[if_pos ⟨Z1z h1 (by rw[h2];exact h3) (by rw[h2];exact hr),by rw[h2];exact đd _⟩]
 ·unfold Zgm
  by_cases e:Zgd L can room i t=true/\p<=t ^^^ i
  ·rw[if_pos e,if_pos]
   refine⟨e.1,?_⟩;obtain⟨h4,h5,-⟩:=Zg2 e.1;rcases đw p (t ^^^ i) with h | h
   ·exact h
   ·have h6:t ^^^ i=p:=by omega
    have h7:=(Zpu h4 h5).2;rw[h6] at h7;exact absurd h7.symm ht
  ·rw[if_neg e,if_neg (fun h=>e ⟨h.1,by omega⟩)]
theorem Zzn{L can room:Nat}{now:Nat->Nat}{i p:Nat}(hr:¬ Zii L p<=room)(t:Nat):Zgm L can room now i p t=Zgm L can room now i (p+1) t:=by
 unfold Zgm;by_cases e:Zgd L can room i t=true/\p<=t ^^^ i
 ·rw[if_pos e,if_pos]
  refine⟨e.1,?_⟩;obtain⟨-,-,h5⟩:=Zg2 e.1;rcases đw p (t ^^^ i) with h | h
  ·exact h
  ·have h6:t ^^^ i=p:=by omega
   rw[h6] at h5;exact absurd h5 hr
 ·rw[if_neg e,if_neg (fun h=>e ⟨h.1,by omega⟩)]
theorem Zoa{L can room:Nat}{now:Nat->Nat}{i p n:Nat}(hn:p<2^n)(hp:Zf1 p (Zjj can i)=true)(t:Nat):Zgm L can room now i p t=Zgm L can room now i (((p-1) &&& Zjj can i)+1) t\/p=0:=by
 by_cases h0:p=0
 ·exact .inr h0
 left
 have hlt:(p-1) &&& Zjj can i<p:=by have:=Nat.and_le_left (n:=p-1) (m:=Zjj can i);omega
 unfold Zgm;by_cases e:Zgd L can room i t=true
 ·obtain⟨h4,h5,-⟩:=Zg2 e
  have h6:=(Zpu h4 h5).1;by_cases e2:p<=t ^^^ i
  ·rw[if_pos ⟨e,e2⟩,if_pos ⟨e,by omega⟩]
  ·have:=Zn8 n p (Zjj can i) (t ^^^ i) hn hp h6 (by omega)
   rw[if_neg (fun h=>e2 h.2),if_neg (fun h=>by have:=h.2;omega)]
 ·rw[if_neg (fun h=>e h.1),if_neg (fun h=>e h.1)]
theorem Zrh(L:Nat)(can room:Nat->Nat):∀ m t,Zgt L can room m t<=Zat
 | 0,t=>by
  show(if t=0 then 1 else 0)<=Zat;have:Zat=1152921504606846977:=rfl;split<;>omega
 | m+1,t=>Nat.min_le_left _ _
end
end Go.Proofs.YtbcgocpihobjnaaGreatDoor
