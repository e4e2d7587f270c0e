import Derived.Lib.QuoteBits
import Derived.Test.YtbcgocpihobjnaaGreatDoorCM13
import Derived.Test.YtbcgocpihobjnaaGreatDoorCM0
set_option linter.all false
set_option maxHeartbeats 4000000
namespace Go.Proofs.YtbcgocpihobjnaaGreatDoor
section
open Go.RowKit
def Zib (a b:Nat):Nat:=a ^^^ (a &&& b)
theorem Zho (a b i:Nat):(Zib a b).testBit i=(a.testBit i&&!b.testBit i):=by
 unfold Zib;rw[Nat.testBit_xor,Nat.testBit_and];cases a.testBit i<;>cases b.testBit i<;>rfl
theorem Zcn {a:Nat} (h:a<4096):(BitVec.ofInt 64 (a:Int)).toNat=a:=ofInt_u64 a (by omega)
theorem Zsz {a b:Nat} (ha:a<4096) (hb:b<4096):bits .and .i64 (a:Int) (b:Int)=((a &&& b:Nat):Int):=by
 show IntKind.i64.wrap ((BitVec.ofInt 64 (a:Int) &&& BitVec.ofInt 64 (b:Int)).toNat:Int)=_;rw[BitVec.toNat_and,Zcn ha,Zcn hb];exact Lib.wrap_i64_small _ (by have:=Nat.and_le_left (n:=a) (m:=b);omega)
theorem Z14 {a b:Nat} (ha:a<4096) (hb:b<4096):a ||| b<4096:=Nat.or_lt_two_pow (n:=12) ha hb
theorem Zy4 {a b:Nat} (ha:a<4096) (hb:b<4096):bits .or .i64 (a:Int) (b:Int)=((a ||| b:Nat):Int):=by
 show IntKind.i64.wrap ((BitVec.ofInt 64 (a:Int) ||| BitVec.ofInt 64 (b:Int)).toNat:Int)=_;rw[BitVec.toNat_or,Zcn ha,Zcn hb];exact Lib.wrap_i64_small _ (by have:=Z14 ha hb;omega)
theorem Zs0 (a b:Nat):Zib a b≤a:=by
 have:Zib a b=a &&& Zib a b:=by
  apply Nat.eq_of_testBit_eq;intro i;rw[Nat.testBit_and,Zho];cases a.testBit i<;>rfl
 rw[this];exact Nat.and_le_left
theorem Zzr {a b:Nat} (ha:a<4096) (hb:b<4096):bits .andNot .i64 (a:Int) (b:Int)=((Zib a b:Nat):Int):=by
 show IntKind.i64.wrap ((BitVec.ofInt 64 (a:Int) &&& ~~~BitVec.ofInt 64 (b:Int)).toNat:Int)=_;rw[BitVec.toNat_and,BitVec.toNat_not,Zcn ha,Zcn hb]
 have e:a &&& (2^64-1-b)=Zib a b:=by
  apply Nat.eq_of_testBit_eq;intro i;rw[Nat.testBit_and,Zho,show 2^64-1-b=2^64-(b+1) from by omega,Nat.testBit_two_pow_sub_succ (by omega)];by_cases hi:i<64
  ·rw[decide_eq_true hi,Bool.true_and]
  ·have:a.testBit i=false:=Nat.testBit_lt_two_pow (Nat.lt_of_lt_of_le ha (Nat.le_trans (show 4096≤2^64 by decide) (Nat.pow_le_pow_right (by omega) (by omega))))
   rw[this];rfl
 rw[e];exact Lib.wrap_i64_small _ (by have:=Zs0 a b;omega)
theorem Zzs {s t:Nat} (h:Ze7 s t=true):s≤t:=by
 unfold Ze7 at h;rw[beq_iff_eq] at h;rw[← h];exact Nat.and_le_right
theorem Zpp (a b:Nat):Ze7 (a &&& b) b=true:=by
 rw[Zc4];intro i h;rw[Nat.testBit_and,Bool.and_eq_true] at h;exact h.2
theorem Zs1 (a:Nat):Ze7 a a=true:=by rw[Zc4];exact fun i h=>h
theorem Zmy:∀ (n part free q:Nat),part<2^n→Ze7 part free=true→Ze7 q free=true→q<part→q≤(part-1) &&& free
 | 0,part,free,q,h,_,_,hl=>by have h:part<1:=h;omega
 | n+1,part,free,q,h,hp,hq,hl=>by
  obtain⟨hp0,hp1⟩:=Zer.1 hp;obtain⟨hq0,hq1⟩:=Zer.1 hq;by_cases e:part%2=1
  ·have:Ze7 (part-1) free=true:=Zer.2 ⟨fun h=>by omega,by rw[show (part-1)/2=part/2 from by omega];exact hp1⟩
   unfold Ze7 at this;rw[beq_iff_eq] at this;rw[this];omega
  ·have hx2:((part-1) &&& free)/2=(part/2-1) &&& (free/2):=by
    apply Nat.eq_of_testBit_eq;intro i;rw[← Nat.testBit_succ,Nat.testBit_and,Nat.testBit_and,Nat.testBit_succ,Nat.testBit_succ,show (part-1)/2=part/2-1 from by omega]
   have hx1:((part-1) &&& free)%2=free%2:=by
    have h1:((part-1) &&& free).testBit 0=((part-1).testBit 0&&free.testBit 0):=Nat.testBit_and ..;rw[Nat.testBit_zero,Nat.testBit_zero,Nat.testBit_zero,show (part-1)%2=1 from by omega] at h1;rcases Nat.mod_two_eq_zero_or_one free with h2 | h2<;>rcases Nat.mod_two_eq_zero_or_one ((part-1) &&& free) with h3 | h3<;>simp[h2,h3] at h1<;>omega
   have hc:=Zmy n (part/2) (free/2) (q/2) (by rw[Nat.pow_succ] at h;omega) hp1 hq1 (by omega);rw[← hx2] at hc
   have:q%2≤((part-1) &&& free)%2:=by
    rw[hx1];rcases Nat.mod_two_eq_zero_or_one q with h2 | h2
    ·omega
    ·rw[h2,hq0 h2];omega
   omega
theorem Zs2 {can s q:Nat} (hq:Ze7 q (Zib can s)=true):Ze7 s (s ||| q)=true∧(s ||| q) ^^^ s=q∧Ze7 q can=true:=by
 rw[Zc4] at hq
 have hq2:∀ i,q.testBit i=true→can.testBit i=true∧s.testBit i=false:=fun i h=>by
  have:=hq i h;rw[Zho,Bool.and_eq_true,Bool.not_eq_true'] at this;exact this
 refine⟨Zc4.2 (fun i h=>by rw[Nat.testBit_or,h];rfl),?_,Zc4.2 (fun i h=>(hq2 i h).1)⟩;apply Nat.eq_of_testBit_eq;intro i;rw[Nat.testBit_xor,Nat.testBit_or]
 cases h:q.testBit i with
 | false=>cases s.testBit i<;>rfl
 | true=>rw[(hq2 i h).2];rfl
theorem Zoi {can s t:Nat} (h1:Ze7 s t=true) (h2:Ze7 (t ^^^ s) can=true):Ze7 (t ^^^ s) (Zib can s)=true∧s ||| (t ^^^ s)=t:=by
 rw[Zc4] at h1 h2;refine⟨Zc4.2 (fun i h=>?_),?_⟩
 ·rw[Zho,h2 i h]
  rw[Nat.testBit_xor] at h
  cases hs:s.testBit i with
  | false=>rfl
  | true=>rw[hs,h1 i hs] at h;cases h
 ·apply Nat.eq_of_testBit_eq
  intro i;rw[Nat.testBit_or,Nat.testBit_xor]
  cases hs:s.testBit i with
  | false=>cases t.testBit i<;>rfl
  | true=>rw[h1 i hs];rfl
theorem Zpq:∀ (k n j:Nat),n<2^k→Zhb (k+j) n=Zhb k n
 | 0,n,j,h=>by
  have h:n<1:=h
  obtain rfl:n=0:=by omega
  clear h;show Zhb (0+j) 0=0
  induction j with
  | zero=>rfl
  | succ j ih=>show 0%2+Zhb (0+j) (0/2)=0;rw[show 0/2=0 from rfl,ih]
 | k+1,n,j,h=>by
  rw[Nat.pow_succ] at h;rw[show k+1+j=k+j+1 from by omega];show n%2+Zhb (k+j) (n/2)=n%2+Zhb k (n/2);rw[Zpq k (n/2) j (by omega)]
theorem Zs3:∀ (k n:Nat),Zhb k n≤k
 | 0,_=>Nat.le_refl _
 | k+1,n=>by show n%2+Zhb k (n/2)≤k+1;have:=Zs3 k (n/2);omega
def Zws (x:Int):Int:=IntKind.u64.wrap (bits .and .u64 (x/2) 6148914691236517205+bits .and .u64 x 6148914691236517205)
def Zwt (x:Int):Int:=IntKind.u64.wrap (bits .and .u64 (x/4) 3689348814741910323+bits .and .u64 x 3689348814741910323)
def Zwu (x:Int):Int:=bits .and .u64 (IntKind.u64.wrap (x/16+x)) 1085102592571150095
def Zwv (x:Int):Int:=IntKind.u64.wrap (x+x/256)
def Zww (x:Int):Int:=IntKind.u64.wrap (x+x/65536)
def Zwx (x:Int):Int:=IntKind.u64.wrap (x+x/4294967296)
def Zwy (x:Int):Int:=bits .and .i64 (wrap64 x) 127
def Z09 (x:Nat):Bool:=decide (Zwy (Zwx (Zww (Zwv (Zwu (Zwt (Zws (x:Int)))))))=((Zhb 12 x:Nat):Int))
theorem Zs4:∀ a:Fin 64,∀ b:Fin 64,Z09 (64*(a:Nat)+(b:Nat))=true:=by decide +kernel
theorem Zwz (x:Nat) (hx:x<4096):Zwy (Zwx (Zww (Zwv (Zwu (Zwt (Zws (x:Int)))))))=((Zhb 12 x:Nat):Int):=by
 have:=Zs4 ⟨x/64,by omega⟩ ⟨x%64,by omega⟩;rw[show 64*((⟨x/64,by omega⟩:Fin 64):Nat)+((⟨x%64,by omega⟩:Fin 64):Nat)=x from by show 64*(x/64)+x%64=x;omega] at this;exact of_decide_eq_true this
theorem Zqx (x:Nat) (hx:x<4096) (w:World) :
  Calls Tryz.prog 218 #[.int .u64 (x:Int)] w fun e w'=>e = .returned (.int .i64 ((Zhb 12 x:Nat):Int))∧w=w':=by
 have H:=ħ (Zwz x hx);obtain⟨y1,a1⟩:∃ y,IntKind.u64.wrap (bits .and .u64 ((x:Int)/2) 6148914691236517205+bits .and .u64 (x:Int) 6148914691236517205)=y:=⟨_,rfl⟩;obtain⟨y2,a2⟩:∃ y,IntKind.u64.wrap (bits .and .u64 (y1/4) 3689348814741910323+bits .and .u64 y1 3689348814741910323)=y:=⟨_,rfl⟩;obtain⟨y3,a3⟩:∃ y,bits .and .u64 (IntKind.u64.wrap (y2/16+y2)) 1085102592571150095=y:=⟨_,rfl⟩;obtain⟨y4,a4⟩:∃ y,IntKind.u64.wrap (y3+y3/256)=y:=⟨_,rfl⟩;obtain⟨y5,a5⟩:∃ y,IntKind.u64.wrap (y4+y4/65536)=y:=⟨_,rfl⟩;obtain⟨y6,a6⟩:∃ y,IntKind.u64.wrap (y5+y5/4294967296)=y:=⟨_,rfl⟩;obtain⟨y7,a7⟩:∃ y,bits .and .i64 (wrap64 y6) 127=y:=⟨_,rfl⟩
 have H7:Hid (y7=((Zhb 12 x:Nat):Int)):=ħ (by
  rw[← H.o];show y7=Zwy (Zwx (Zww (Zwv (Zwu (Zwt (Zws (x:Int)))))))
  rw[show Zws (x:Int)=y1 from a1,show Zwt y1=y2 from a2,show Zwu y2=y3 from a3,show Zwv y3=y4 from a4,show Zww y4=y5 from a5,show Zwx y5=y6 from a6,show Zwy y6=y7 from a7])
 clear H
 go_enter Tryz.func218,Tryz.ntmps218
 go_wp2
 go_ret;exact⟨by rw[← H7.o];rfl,rfl⟩
theorem Zw0 (x:Nat) (hx:x<4096) (w:World) :
  Calls Tryz.prog 190 #[.int .u64 (x:Int)] w fun e w'=>e = .returned (.int .i64 ((Zhb 12 x:Nat):Int))∧w=w':=by
 have H:=ħ (Zqx x hx w);have e1:IntKind.u64.wrap (x:Int)=(x:Int):=IntWalk.u64_in _ (by omega)
 go_enter Tryz.func190,Tryz.ntmps190
 go_wp2_with fail
 refine H.o.mono ?_;rintro e w1 ⟨rfl,rfl⟩
 go_wp2_with fail
 go_ret;exact⟨rfl,rfl⟩
end
section
def Zi1 (L can room:Nat) (now:Nat→Nat) (i t:Nat):Nat:=min Zbi ((List.range i).map (fun s=>if Zfg L can room s t=true then now s else 0)).sum
def Zfn (L can room:Nat) (now:Nat→Nat) (i lo t:Nat):Nat:=if Zfg L can room i t=true∧lo≤t ^^^ i then min Zbi (Zi1 L can room now i t+now i) else Zi1 L can room now i t
def Zcw (N:Nat) (f:Nat→Nat):List Nat:=(List.range N).map f
theorem Ze3 (N:Nat) (f:Nat→Nat):(Zcw N f).length=N:=by unfold Zcw;rw[List.length_map,List.length_range]
theorem Zfj {N:Nat} (f:Nat→Nat) {t:Nat} (h:t<N):(Zcw N f)[t]?=some (f t):=by unfold Zcw;rw[List.getElem?_map,List.getElem?_range h];rfl
theorem Zce {N:Nat} {f g:Nat→Nat} (h:∀ t,t<N→f t=g t):Zcw N f=Zcw N g:=by
 unfold Zcw;exact List.map_congr_left (fun t ht=>h t (List.mem_range.1 ht))
theorem Zpr {N:Nat} {f g:Nat→Nat} {t0:Nat} (v:Nat) (h0:g t0=v) (h:∀ t,t<N→t≠t0→g t=f t):(Zcw N f).set t0 v=Zcw N g:=by
 apply List.ext_getElem?;intro t;by_cases ht:t<N
 ·by_cases e:t=t0
  ·subst e
   rw[List.getElem?_set_self (by rw[Ze3];exact ht),Zfj g ht,h0]
  ·rw[List.getElem?_set_ne (fun h=>e h.symm),Zfj f ht,Zfj g ht,h t ht e]
 ·rw[List.getElem?_eq_none (by rw[List.length_set,Ze3];omega),List.getElem?_eq_none (by rw[Ze3];omega)]
theorem Zs5 (L can room:Nat) (now:Nat→Nat) (i t:Nat):Zi1 L can room now i t≤Zbi:=Nat.min_le_left _ _
theorem Zmz (L can room:Nat) (now:Nat→Nat) (i t:Nat):Zi1 L can room now (i+1) t=if Zfg L can room i t=true then min Zbi (Zi1 L can room now i t+now i) else Zi1 L can room now i t:=by
 unfold Zi1;rw[Zb3];split
 ·omega
 ·rw[Nat.add_zero]
theorem Zs6 {L can room:Nat} {now:Nat→Nat} {i:Nat} (h:now i=0) (t:Nat):Zi1 L can room now (i+1) t=Zi1 L can room now i t:=by
 rw[Zmz,h,Nat.add_zero];split
 ·exact Nat.min_eq_right (Zs5 ..)
 ·rfl
theorem Zf1 {L can room i t:Nat} (h:Zfg L can room i t=true):Ze7 i t=true∧Ze7 (t ^^^ i) can=true∧Zhb L (t ^^^ i)≤room:=by
 unfold Zfg at h;simp only[Bool.and_eq_true,decide_eq_true_eq] at h;exact⟨h.1.1,h.1.2,h.2⟩
theorem Zzt {L can room i t:Nat} (h1:Ze7 i t=true) (h2:Ze7 (t ^^^ i) can=true) (h3:Zhb L (t ^^^ i)≤room):Zfg L can room i t=true:=by
 unfold Zfg;rw[h1,h2,decide_eq_true h3];rfl
theorem Zqy (L can room:Nat) (now:Nat→Nat) (i t:Nat):Zfn L can room now i (Zib can i+1) t=Zi1 L can room now i t:=by
 unfold Zfn;rw[if_neg];rintro⟨h1,h2⟩;obtain⟨h3,h4,-⟩:=Zf1 h1;have:=Zzs (Zoi h3 h4).1;omega
theorem Zps (L can room:Nat) (now:Nat→Nat) (i t:Nat):Zfn L can room now i 0 t=Zi1 L can room now (i+1) t:=by
 unfold Zfn;rw[Zmz];by_cases e:Zfg L can room i t=true
 ·rw[if_pos e,if_pos ⟨e,Nat.zero_le _⟩]
 ·rw[if_neg e,if_neg (fun h=>e h.1)]
theorem Zzu {L can room:Nat} {now:Nat→Nat} {i p:Nat} (hp:Ze7 p (Zib can i)=true):Zfn L can room now i (p+1) (i ||| p)=Zi1 L can room now i (i ||| p):=by
 unfold Zfn;rw[if_neg];rintro⟨-,h2⟩;rw[(Zs2 hp).2.1] at h2;omega
theorem Zw1 {L can room:Nat} {now:Nat→Nat} {i p:Nat} (hp:Ze7 p (Zib can i)=true) (hr:Zhb L p≤room):Zfn L can room now i p (i ||| p)=min Zbi (Zi1 L can room now i (i ||| p)+now i)∧∀ t,t≠i ||| p→Zfn L can room now i p t=Zfn L can room now i (p+1) t:=by
 obtain⟨h1,h2,h3⟩:=Zs2 hp;refine⟨?_,fun t ht=>?_⟩
 ·unfold Zfn
  rw[if_pos ⟨Zzt h1 (by rw[h2];exact h3) (by rw[h2];exact hr),by rw[h2];exact Nat.le_refl _⟩]
 ·unfold Zfn
  by_cases e:Zfg L can room i t=true∧p≤t ^^^ i
  ·rw[if_pos e,if_pos]
   refine⟨e.1,?_⟩;obtain⟨h4,h5,-⟩:=Zf1 e.1;rcases Nat.lt_or_ge p (t ^^^ i) with h | h
   ·exact h
   ·have h6:t ^^^ i=p:=by omega
    have h7:=(Zoi h4 h5).2;rw[h6] at h7;exact absurd h7.symm ht
  ·rw[if_neg e,if_neg (fun h=>e ⟨h.1,by omega⟩)]
theorem Zw2 {L can room:Nat} {now:Nat→Nat} {i p:Nat} (hr:¬ Zhb L p≤room) (t:Nat):Zfn L can room now i p t=Zfn L can room now i (p+1) t:=by
 unfold Zfn;by_cases e:Zfg L can room i t=true∧p≤t ^^^ i
 ·rw[if_pos e,if_pos]
  refine⟨e.1,?_⟩;obtain⟨-,-,h5⟩:=Zf1 e.1;rcases Nat.lt_or_ge p (t ^^^ i) with h | h
  ·exact h
  ·have h6:t ^^^ i=p:=by omega
   rw[h6] at h5;exact absurd h5 hr
 ·rw[if_neg e,if_neg (fun h=>e ⟨h.1,by omega⟩)]
theorem Zm0 {L can room:Nat} {now:Nat→Nat} {i p n:Nat} (hn:p<2^n) (hp:Ze7 p (Zib can i)=true) (t:Nat):Zfn L can room now i p t=Zfn L can room now i (((p-1) &&& Zib can i)+1) t∨p=0:=by
 by_cases h0:p=0
 ·exact .inr h0
 left
 have hlt:(p-1) &&& Zib can i<p:=by have:=Nat.and_le_left (n:=p-1) (m:=Zib can i);omega
 unfold Zfn;by_cases e:Zfg L can room i t=true
 ·obtain⟨h4,h5,-⟩:=Zf1 e
  have h6:=(Zoi h4 h5).1;by_cases e2:p≤t ^^^ i
  ·rw[if_pos ⟨e,e2⟩,if_pos ⟨e,by omega⟩]
  ·have:=Zmy n p (Zib can i) (t ^^^ i) hn hp h6 (by omega)
   rw[if_neg (fun h=>e2 h.2),if_neg (fun h=>by have:=h.2;omega)]
 ·rw[if_neg (fun h=>e h.1),if_neg (fun h=>e h.1)]
theorem Zpt (L:Nat) (can room:Nat→Nat):∀ m t,Zfs L can room m t≤Zbi
 | 0,t=>by
  show (if t=0 then 1 else 0)≤Zbi;have:Zbi=1152921504606846977:=rfl;split<;>omega
 | m+1,t=>Nat.min_le_left _ _
end
end Go.Proofs.YtbcgocpihobjnaaGreatDoor
