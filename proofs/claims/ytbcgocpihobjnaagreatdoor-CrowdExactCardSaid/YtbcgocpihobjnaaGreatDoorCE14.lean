import Derived.Lib.QuoteBits
import Derived.Test.YtbcgocpihobjnaaGreatDoorCE13
import Derived.Test.YtbcgocpihobjnaaGreatDoorCE0
set_option linter.all false
set_option maxHeartbeats 4000000
namespace Go.Proofs.YtbcgocpihobjnaaGreatDoor
section
open Go.RowKit
def Zih (a b:Nat):Nat:=a ^^^ (a &&& b)
theorem Zhy (a b i:Nat):(Zih a b).testBit i=(a.testBit i&&!b.testBit i):=by
 unfold Zih;rw[Nat.testBit_xor,Nat.testBit_and];cases a.testBit i<;>cases b.testBit i<;>rfl
theorem Zcw {a:Nat} (h:a<4096):(BitVec.ofInt 64 (a:Int)).toNat=a:=ofInt_u64 a (by omega)
theorem Zty {a b:Nat} (ha:a<4096) (hb:b<4096):bits .and .i64 (a:Int) (b:Int)=((a &&& b:Nat):Int):=by
 show IntKind.i64.wrap ((BitVec.ofInt 64 (a:Int) &&& BitVec.ofInt 64 (b:Int)).toNat:Int)=_;rw[BitVec.toNat_and,Zcw ha,Zcw hb];exact Lib.wrap_i64_small _ (by have:=Nat.and_le_left (n:=a) (m:=b);omega)
theorem Z23 {a b:Nat} (ha:a<4096) (hb:b<4096):a ||| b<4096:=Nat.or_lt_two_pow (n:=12) ha hb
theorem Zz6 {a b:Nat} (ha:a<4096) (hb:b<4096):bits .or .i64 (a:Int) (b:Int)=((a ||| b:Nat):Int):=by
 show IntKind.i64.wrap ((BitVec.ofInt 64 (a:Int) ||| BitVec.ofInt 64 (b:Int)).toNat:Int)=_;rw[BitVec.toNat_or,Zcw ha,Zcw hb];exact Lib.wrap_i64_small _ (by have:=Z23 ha hb;omega)
theorem Ztz (a b:Nat):Zih a b≤a:=by
 have:Zih a b=a &&& Zih a b:=by
  apply Nat.eq_of_testBit_eq;intro i;rw[Nat.testBit_and,Zhy];cases a.testBit i<;>rfl
 rw[this];exact Nat.and_le_left
theorem Z0n {a b:Nat} (ha:a<4096) (hb:b<4096):bits .andNot .i64 (a:Int) (b:Int)=((Zih a b:Nat):Int):=by
 show IntKind.i64.wrap ((BitVec.ofInt 64 (a:Int) &&& ~~~BitVec.ofInt 64 (b:Int)).toNat:Int)=_;rw[BitVec.toNat_and,BitVec.toNat_not,Zcw ha,Zcw hb]
 have e:a &&& (2^64-1-b)=Zih a b:=by
  apply Nat.eq_of_testBit_eq;intro i;rw[Nat.testBit_and,Zhy,show 2^64-1-b=2^64-(b+1) from by omega,Nat.testBit_two_pow_sub_succ (by omega)];by_cases hi:i<64
  ·rw[decide_eq_true hi,Bool.true_and]
  ·have:a.testBit i=false:=Nat.testBit_lt_two_pow (Nat.lt_of_lt_of_le ha (Nat.le_trans (show 4096≤2^64 by decide) (Nat.pow_le_pow_right (by omega) (by omega))))
   rw[this];rfl
 rw[e];exact Lib.wrap_i64_small _ (by have:=Ztz a b;omega)
theorem Z0o {s t:Nat} (h:Zfd s t=true):s≤t:=by
 unfold Zfd at h;rw[beq_iff_eq] at h;rw[← h];exact Nat.and_le_right
theorem Zqk (a b:Nat):Zfd (a &&& b) b=true:=by
 rw[Zde];intro i h;rw[Nat.testBit_and,Bool.and_eq_true] at h;exact h.2
theorem Zt0 (a:Nat):Zfd a a=true:=by rw[Zde];exact fun i h=>h
theorem Znt:∀ (n part free q:Nat),part<2^n→Zfd part free=true→Zfd q free=true→q<part→q≤(part-1) &&& free
 | 0,part,free,q,h,_,_,hl=>by have h:part<1:=h;omega
 | n+1,part,free,q,h,hp,hq,hl=>by
  obtain⟨hp0,hp1⟩:=Zey.1 hp;obtain⟨hq0,hq1⟩:=Zey.1 hq;by_cases e:part%2=1
  ·have:Zfd (part-1) free=true:=Zey.2 ⟨fun h=>by omega,by rw[show (part-1)/2=part/2 from by omega];exact hp1⟩
   unfold Zfd at this;rw[beq_iff_eq] at this;rw[this];omega
  ·have hx2:((part-1) &&& free)/2=(part/2-1) &&& (free/2):=by
    apply Nat.eq_of_testBit_eq;intro i;rw[← Nat.testBit_succ,Nat.testBit_and,Nat.testBit_and,Nat.testBit_succ,Nat.testBit_succ,show (part-1)/2=part/2-1 from by omega]
   have hx1:((part-1) &&& free)%2=free%2:=by
    have h1:((part-1) &&& free).testBit 0=((part-1).testBit 0&&free.testBit 0):=Nat.testBit_and ..;rw[Nat.testBit_zero,Nat.testBit_zero,Nat.testBit_zero,show (part-1)%2=1 from by omega] at h1;rcases Nat.mod_two_eq_zero_or_one free with h2 | h2<;>rcases Nat.mod_two_eq_zero_or_one ((part-1) &&& free) with h3 | h3<;>simp[h2,h3] at h1<;>omega
   have hc:=Znt n (part/2) (free/2) (q/2) (by rw[Nat.pow_succ] at h;omega) hp1 hq1 (by omega);rw[← hx2] at hc
   have:q%2≤((part-1) &&& free)%2:=by
    rw[hx1];rcases Nat.mod_two_eq_zero_or_one q with h2 | h2
    ·omega
    ·rw[h2,hq0 h2];omega
   omega
theorem Zt1 {can s q:Nat} (hq:Zfd q (Zih can s)=true):Zfd s (s ||| q)=true∧(s ||| q) ^^^ s=q∧Zfd q can=true:=by
 rw[Zde] at hq
 have hq2:∀ i,q.testBit i=true→can.testBit i=true∧s.testBit i=false:=fun i h=>by
  have:=hq i h;rw[Zhy,Bool.and_eq_true,Bool.not_eq_true'] at this;exact this
 refine⟨Zde.2 (fun i h=>by rw[Nat.testBit_or,h];rfl),?_,Zde.2 (fun i h=>(hq2 i h).1)⟩;apply Nat.eq_of_testBit_eq;intro i;rw[Nat.testBit_xor,Nat.testBit_or]
 cases h:q.testBit i with
 | false=>cases s.testBit i<;>rfl
 | true=>rw[(hq2 i h).2];rfl
theorem Zpb {can s t:Nat} (h1:Zfd s t=true) (h2:Zfd (t ^^^ s) can=true):Zfd (t ^^^ s) (Zih can s)=true∧s ||| (t ^^^ s)=t:=by
 rw[Zde] at h1 h2;refine⟨Zde.2 (fun i h=>?_),?_⟩
 ·rw[Zhy,h2 i h]
  rw[Nat.testBit_xor] at h
  cases hs:s.testBit i with
  | false=>rfl
  | true=>rw[hs,h1 i hs] at h;cases h
 ·apply Nat.eq_of_testBit_eq
  intro i;rw[Nat.testBit_or,Nat.testBit_xor]
  cases hs:s.testBit i with
  | false=>cases t.testBit i<;>rfl
  | true=>rw[h1 i hs];rfl
theorem Zql:∀ (k n j:Nat),n<2^k→Zhn (k+j) n=Zhn k n
 | 0,n,j,h=>by
  have h:n<1:=h
  obtain rfl:n=0:=by omega
  clear h;show Zhn (0+j) 0=0
  induction j with
  | zero=>rfl
  | succ j ih=>show 0%2+Zhn (0+j) (0/2)=0;rw[show 0/2=0 from rfl,ih]
 | k+1,n,j,h=>by
  rw[Nat.pow_succ] at h;rw[show k+1+j=k+j+1 from by omega];show n%2+Zhn (k+j) (n/2)=n%2+Zhn k (n/2);rw[Zql k (n/2) j (by omega)]
theorem Zt2:∀ (k n:Nat),Zhn k n≤k
 | 0,_=>Nat.le_refl _
 | k+1,n=>by show n%2+Zhn k (n/2)≤k+1;have:=Zt2 k (n/2);omega
def Zxs (x:Int):Int:=IntKind.u64.wrap (bits .and .u64 (x/2) 6148914691236517205+bits .and .u64 x 6148914691236517205)
def Zxt (x:Int):Int:=IntKind.u64.wrap (bits .and .u64 (x/4) 3689348814741910323+bits .and .u64 x 3689348814741910323)
def Zxu (x:Int):Int:=bits .and .u64 (IntKind.u64.wrap (x/16+x)) 1085102592571150095
def Zxv (x:Int):Int:=IntKind.u64.wrap (x+x/256)
def Zxw (x:Int):Int:=IntKind.u64.wrap (x+x/65536)
def Zxx (x:Int):Int:=IntKind.u64.wrap (x+x/4294967296)
def Zxy (x:Int):Int:=bits .and .i64 (wrap64 x) 127
def Z2a (x:Nat):Bool:=decide (Zxy (Zxx (Zxw (Zxv (Zxu (Zxt (Zxs (x:Int)))))))=((Zhn 12 x:Nat):Int))
theorem Zt3:∀ a:Fin 64,∀ b:Fin 64,Z2a (64*(a:Nat)+(b:Nat))=true:=by decide +kernel
theorem Zxz (x:Nat) (hx:x<4096):Zxy (Zxx (Zxw (Zxv (Zxu (Zxt (Zxs (x:Int)))))))=((Zhn 12 x:Nat):Int):=by
 have:=Zt3 ⟨x/64,by omega⟩ ⟨x%64,by omega⟩;rw[show 64*((⟨x/64,by omega⟩:Fin 64):Nat)+((⟨x%64,by omega⟩:Fin 64):Nat)=x from by show 64*(x/64)+x%64=x;omega] at this;exact of_decide_eq_true this
theorem Zru (x:Nat) (hx:x<4096) (w:World) :
  Calls Tryz.prog 218 #[.int .u64 (x:Int)] w fun e w'=>e = .returned (.int .i64 ((Zhn 12 x:Nat):Int))∧w=w':=by
 have H:=ħ (Zxz x hx);obtain⟨y1,a1⟩:∃ y,IntKind.u64.wrap (bits .and .u64 ((x:Int)/2) 6148914691236517205+bits .and .u64 (x:Int) 6148914691236517205)=y:=⟨_,rfl⟩;obtain⟨y2,a2⟩:∃ y,IntKind.u64.wrap (bits .and .u64 (y1/4) 3689348814741910323+bits .and .u64 y1 3689348814741910323)=y:=⟨_,rfl⟩;obtain⟨y3,a3⟩:∃ y,bits .and .u64 (IntKind.u64.wrap (y2/16+y2)) 1085102592571150095=y:=⟨_,rfl⟩;obtain⟨y4,a4⟩:∃ y,IntKind.u64.wrap (y3+y3/256)=y:=⟨_,rfl⟩;obtain⟨y5,a5⟩:∃ y,IntKind.u64.wrap (y4+y4/65536)=y:=⟨_,rfl⟩;obtain⟨y6,a6⟩:∃ y,IntKind.u64.wrap (y5+y5/4294967296)=y:=⟨_,rfl⟩;obtain⟨y7,a7⟩:∃ y,bits .and .i64 (wrap64 y6) 127=y:=⟨_,rfl⟩
 have H7:Hid (y7=((Zhn 12 x:Nat):Int)):=ħ (by
  rw[← H.o];show y7=Zxy (Zxx (Zxw (Zxv (Zxu (Zxt (Zxs (x:Int)))))))
  rw[show Zxs (x:Int)=y1 from a1,show Zxt y1=y2 from a2,show Zxu y2=y3 from a3,show Zxv y3=y4 from a4,show Zxw y4=y5 from a5,show Zxx y5=y6 from a6,show Zxy y6=y7 from a7])
 clear H
 go_enter Tryz.func218,Tryz.ntmps218
 go_wp2
 go_ret;exact⟨by rw[← H7.o];rfl,rfl⟩
theorem Zx0 (x:Nat) (hx:x<4096) (w:World) :
  Calls Tryz.prog 190 #[.int .u64 (x:Int)] w fun e w'=>e = .returned (.int .i64 ((Zhn 12 x:Nat):Int))∧w=w':=by
 have H:=ħ (Zru x hx w);have e1:IntKind.u64.wrap (x:Int)=(x:Int):=IntWalk.u64_in _ (by omega)
 go_enter Tryz.func190,Tryz.ntmps190
 go_wp2_with fail
 refine H.o.mono ?_;rintro e w1 ⟨rfl,rfl⟩
 go_wp2_with fail
 go_ret;exact⟨rfl,rfl⟩
end
section
def Zjf (L can room:Nat) (now:Nat→Nat) (i t:Nat):Nat:=min Zbi ((List.range i).map (fun s=>if Zfm L can room s t=true then now s else 0)).sum
def Zfs (L can room:Nat) (now:Nat→Nat) (i lo t:Nat):Nat:=if Zfm L can room i t=true∧lo≤t ^^^ i then min Zbi (Zjf L can room now i t+now i) else Zjf L can room now i t
def Zb4 (N:Nat) (f:Nat→Nat):List Nat:=(List.range N).map f
theorem Zfb (N:Nat) (f:Nat→Nat):(Zb4 N f).length=N:=by unfold Zb4;rw[List.length_map,List.length_range]
theorem Zdn {N:Nat} (f:Nat→Nat) {t:Nat} (h:t<N):(Zb4 N f)[t]?=some (f t):=by unfold Zb4;rw[List.getElem?_map,List.getElem?_range h];rfl
theorem Zci {N:Nat} {f g:Nat→Nat} (h:∀ t,t<N→f t=g t):Zb4 N f=Zb4 N g:=by
 unfold Zb4;exact List.map_congr_left (fun t ht=>h t (List.mem_range.1 ht))
theorem Zhz {N:Nat} {f g:Nat→Nat} {t0:Nat} (v:Nat) (h0:g t0=v) (h:∀ t,t<N→t≠t0→g t=f t):(Zb4 N f).set t0 v=Zb4 N g:=by
 apply List.ext_getElem?;intro t;by_cases ht:t<N
 ·by_cases e:t=t0
  ·subst e
   rw[List.getElem?_set_self (by rw[Zfb];exact ht),Zdn g ht,h0]
  ·rw[List.getElem?_set_ne (fun h=>e h.symm),Zdn f ht,Zdn g ht,h t ht e]
 ·rw[List.getElem?_eq_none (by rw[List.length_set,Zfb];omega),List.getElem?_eq_none (by rw[Zfb];omega)]
theorem Zt4 (L can room:Nat) (now:Nat→Nat) (i t:Nat):Zjf L can room now i t≤Zbi:=Nat.min_le_left _ _
theorem Znu (L can room:Nat) (now:Nat→Nat) (i t:Nat):Zjf L can room now (i+1) t=if Zfm L can room i t=true then min Zbi (Zjf L can room now i t+now i) else Zjf L can room now i t:=by
 unfold Zjf;rw[Zb9];split
 ·omega
 ·rw[Nat.add_zero]
theorem Zt5 {L can room:Nat} {now:Nat→Nat} {i:Nat} (h:now i=0) (t:Nat):Zjf L can room now (i+1) t=Zjf L can room now i t:=by
 rw[Znu,h,Nat.add_zero];split
 ·exact Nat.min_eq_right (Zt4 ..)
 ·rfl
theorem Zf8 {L can room i t:Nat} (h:Zfm L can room i t=true):Zfd i t=true∧Zfd (t ^^^ i) can=true∧Zhn L (t ^^^ i)≤room:=by
 unfold Zfm at h;simp only[Bool.and_eq_true,decide_eq_true_eq] at h;exact⟨h.1.1,h.1.2,h.2⟩
theorem Z0p {L can room i t:Nat} (h1:Zfd i t=true) (h2:Zfd (t ^^^ i) can=true) (h3:Zhn L (t ^^^ i)≤room):Zfm L can room i t=true:=by
 unfold Zfm;rw[h1,h2,decide_eq_true h3];rfl
theorem Zrv (L can room:Nat) (now:Nat→Nat) (i t:Nat):Zfs L can room now i (Zih can i+1) t=Zjf L can room now i t:=by
 unfold Zfs;rw[if_neg];rintro⟨h1,h2⟩;obtain⟨h3,h4,-⟩:=Zf8 h1;have:=Z0o (Zpb h3 h4).1;omega
theorem Zqm (L can room:Nat) (now:Nat→Nat) (i t:Nat):Zfs L can room now i 0 t=Zjf L can room now (i+1) t:=by
 unfold Zfs;rw[Znu];by_cases e:Zfm L can room i t=true
 ·rw[if_pos e,if_pos ⟨e,Nat.zero_le _⟩]
 ·rw[if_neg e,if_neg (fun h=>e h.1)]
theorem Z0q {L can room:Nat} {now:Nat→Nat} {i p:Nat} (hp:Zfd p (Zih can i)=true):Zfs L can room now i (p+1) (i ||| p)=Zjf L can room now i (i ||| p):=by
 unfold Zfs;rw[if_neg];rintro⟨-,h2⟩;rw[(Zt1 hp).2.1] at h2;omega
theorem Zx1 {L can room:Nat} {now:Nat→Nat} {i p:Nat} (hp:Zfd p (Zih can i)=true) (hr:Zhn L p≤room):Zfs L can room now i p (i ||| p)=min Zbi (Zjf L can room now i (i ||| p)+now i)∧∀ t,t≠i ||| p→Zfs L can room now i p t=Zfs L can room now i (p+1) t:=by
 obtain⟨h1,h2,h3⟩:=Zt1 hp;refine⟨?_,fun t ht=>?_⟩
 ·unfold Zfs
  rw[if_pos ⟨Z0p h1 (by rw[h2];exact h3) (by rw[h2];exact hr),by rw[h2];exact Nat.le_refl _⟩]
 ·unfold Zfs
  by_cases e:Zfm L can room i t=true∧p≤t ^^^ i
  ·rw[if_pos e,if_pos]
   refine⟨e.1,?_⟩;obtain⟨h4,h5,-⟩:=Zf8 e.1;rcases Nat.lt_or_ge p (t ^^^ i) with h | h
   ·exact h
   ·have h6:t ^^^ i=p:=by omega
    have h7:=(Zpb h4 h5).2;rw[h6] at h7;exact absurd h7.symm ht
  ·rw[if_neg e,if_neg (fun h=>e ⟨h.1,by omega⟩)]
theorem Zx2 {L can room:Nat} {now:Nat→Nat} {i p:Nat} (hr:¬ Zhn L p≤room) (t:Nat):Zfs L can room now i p t=Zfs L can room now i (p+1) t:=by
 unfold Zfs;by_cases e:Zfm L can room i t=true∧p≤t ^^^ i
 ·rw[if_pos e,if_pos]
  refine⟨e.1,?_⟩;obtain⟨-,-,h5⟩:=Zf8 e.1;rcases Nat.lt_or_ge p (t ^^^ i) with h | h
  ·exact h
  ·have h6:t ^^^ i=p:=by omega
   rw[h6] at h5;exact absurd h5 hr
 ·rw[if_neg e,if_neg (fun h=>e ⟨h.1,by omega⟩)]
theorem Znv {L can room:Nat} {now:Nat→Nat} {i p n:Nat} (hn:p<2^n) (hp:Zfd p (Zih can i)=true) (t:Nat):Zfs L can room now i p t=Zfs L can room now i (((p-1) &&& Zih can i)+1) t∨p=0:=by
 by_cases h0:p=0
 ·exact .inr h0
 left
 have hlt:(p-1) &&& Zih can i<p:=by have:=Nat.and_le_left (n:=p-1) (m:=Zih can i);omega
 unfold Zfs;by_cases e:Zfm L can room i t=true
 ·obtain⟨h4,h5,-⟩:=Zf8 e
  have h6:=(Zpb h4 h5).1;by_cases e2:p≤t ^^^ i
  ·rw[if_pos ⟨e,e2⟩,if_pos ⟨e,by omega⟩]
  ·have:=Znt n p (Zih can i) (t ^^^ i) hn hp h6 (by omega)
   rw[if_neg (fun h=>e2 h.2),if_neg (fun h=>by have:=h.2;omega)]
 ·rw[if_neg (fun h=>e h.1),if_neg (fun h=>e h.1)]
theorem Zqn (L:Nat) (can room:Nat→Nat):∀ m t,Zfz L can room m t≤Zbi
 | 0,t=>by
  show (if t=0 then 1 else 0)≤Zbi;have:Zbi=1152921504606846977:=rfl;split<;>omega
 | m+1,t=>Nat.min_le_left _ _
end
end Go.Proofs.YtbcgocpihobjnaaGreatDoor
