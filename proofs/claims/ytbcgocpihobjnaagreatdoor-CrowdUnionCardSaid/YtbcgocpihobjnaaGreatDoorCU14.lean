import Derived.Lib.QuoteBits
import Derived.Test.YtbcgocpihobjnaaGreatDoorCU13
import Derived.Test.YtbcgocpihobjnaaGreatDoorCU0
set_option linter.all false
set_option maxHeartbeats 4000000
namespace Go.Proofs.YtbcgocpihobjnaaGreatDoor
section
open Go.RowKit
def Zg8 (a b:Nat):Nat:=a ^^^ (a &&& b)
theorem Zgs (a b i:Nat):(Zg8 a b).testBit i=(a.testBit i&&!b.testBit i):=by
 unfold Zg8;rw[Nat.testBit_xor,Nat.testBit_and];cases a.testBit i<;>cases b.testBit i<;>rfl
theorem Zcg {a:Nat} (h:a<4096):(BitVec.ofInt 64 (a:Int)).toNat=a:=ofInt_u64 a (by omega)
theorem Zmk {a b:Nat} (ha:a<4096) (hb:b<4096):bits .and .i64 (a:Int) (b:Int)=((a &&& b:Nat):Int):=by
 show IntKind.i64.wrap ((BitVec.ofInt 64 (a:Int) &&& BitVec.ofInt 64 (b:Int)).toNat:Int)=_;rw[BitVec.toNat_and,Zcg ha,Zcg hb];exact Lib.wrap_i64_small _ (by have:=Nat.and_le_left (n:=a) (m:=b);omega)
theorem Zym {a b:Nat} (ha:a<4096) (hb:b<4096):a ||| b<4096:=Nat.or_lt_two_pow (n:=12) ha hb
theorem Zvw {a b:Nat} (ha:a<4096) (hb:b<4096):bits .or .i64 (a:Int) (b:Int)=((a ||| b:Nat):Int):=by
 show IntKind.i64.wrap ((BitVec.ofInt 64 (a:Int) ||| BitVec.ofInt 64 (b:Int)).toNat:Int)=_;rw[BitVec.toNat_or,Zcg ha,Zcg hb];exact Lib.wrap_i64_small _ (by have:=Zym ha hb;omega)
theorem Zqh (a b:Nat):Zg8 a b≤a:=by
 have:Zg8 a b=a &&& Zg8 a b:=by
  apply Nat.eq_of_testBit_eq;intro i;rw[Nat.testBit_and,Zgs];cases a.testBit i<;>rfl
 rw[this];exact Nat.and_le_left
theorem Zwb {a b:Nat} (ha:a<4096) (hb:b<4096):bits .andNot .i64 (a:Int) (b:Int)=((Zg8 a b:Nat):Int):=by
 show IntKind.i64.wrap ((BitVec.ofInt 64 (a:Int) &&& ~~~BitVec.ofInt 64 (b:Int)).toNat:Int)=_;rw[BitVec.toNat_and,BitVec.toNat_not,Zcg ha,Zcg hb]
 have e:a &&& (2^64-1-b)=Zg8 a b:=by
  apply Nat.eq_of_testBit_eq;intro i;rw[Nat.testBit_and,Zgs,show 2^64-1-b=2^64-(b+1) from by omega,Nat.testBit_two_pow_sub_succ (by omega)];by_cases hi:i<64
  ·rw[decide_eq_true hi,Bool.true_and]
  ·have:a.testBit i=false:=Nat.testBit_lt_two_pow (Nat.lt_of_lt_of_le ha (Nat.le_trans (show 4096≤2^64 by decide) (Nat.pow_le_pow_right (by omega) (by omega))))
   rw[this];rfl
 rw[e];exact Lib.wrap_i64_small _ (by have:=Zqh a b;omega)
theorem Zwc {s t:Nat} (h:Zeo s t=true):s≤t:=by
 unfold Zeo at h;rw[beq_iff_eq] at h;rw[← h];exact Nat.and_le_right
theorem Zno (a b:Nat):Zeo (a &&& b) b=true:=by
 rw[Zct];intro i h;rw[Nat.testBit_and,Bool.and_eq_true] at h;exact h.2
theorem Zqi (a:Nat):Zeo a a=true:=by rw[Zct];exact fun i h=>h
theorem Zlb:∀ (n part free q:Nat),part<2^n→Zeo part free=true→Zeo q free=true→q<part→q≤(part-1) &&& free
 | 0,part,free,q,h,_,_,hl=>by have h:part<1:=h;omega
 | n+1,part,free,q,h,hp,hq,hl=>by
  obtain⟨hp0,hp1⟩:=Zg0.1 hp;obtain⟨hq0,hq1⟩:=Zg0.1 hq;by_cases e:part%2=1
  ·have:Zeo (part-1) free=true:=Zg0.2 ⟨fun h=>by omega,by rw[show (part-1)/2=part/2 from by omega];exact hp1⟩
   unfold Zeo at this;rw[beq_iff_eq] at this;rw[this];omega
  ·have hx2:((part-1) &&& free)/2=(part/2-1) &&& (free/2):=by
    apply Nat.eq_of_testBit_eq;intro i;rw[← Nat.testBit_succ,Nat.testBit_and,Nat.testBit_and,Nat.testBit_succ,Nat.testBit_succ,show (part-1)/2=part/2-1 from by omega]
   have hx1:((part-1) &&& free)%2=free%2:=by
    have h1:((part-1) &&& free).testBit 0=((part-1).testBit 0&&free.testBit 0):=Nat.testBit_and ..;rw[Nat.testBit_zero,Nat.testBit_zero,Nat.testBit_zero,show (part-1)%2=1 from by omega] at h1;rcases Nat.mod_two_eq_zero_or_one free with h2 | h2<;>rcases Nat.mod_two_eq_zero_or_one ((part-1) &&& free) with h3 | h3<;>simp[h2,h3] at h1<;>omega
   have hc:=Zlb n (part/2) (free/2) (q/2) (by rw[Nat.pow_succ] at h;omega) hp1 hq1 (by omega);rw[← hx2] at hc
   have:q%2≤((part-1) &&& free)%2:=by
    rw[hx1];rcases Nat.mod_two_eq_zero_or_one q with h2 | h2
    ·omega
    ·rw[h2,hq0 h2];omega
   omega
theorem Zqj {can s q:Nat} (hq:Zeo q (Zg8 can s)=true):Zeo s (s ||| q)=true∧(s ||| q) ^^^ s=q∧Zeo q can=true:=by
 rw[Zct] at hq
 have hq2:∀ i,q.testBit i=true→can.testBit i=true∧s.testBit i=false:=fun i h=>by
  have:=hq i h;rw[Zgs,Bool.and_eq_true,Bool.not_eq_true'] at this;exact this
 refine⟨Zct.2 (fun i h=>by rw[Nat.testBit_or,h];rfl),?_,Zct.2 (fun i h=>(hq2 i h).1)⟩;apply Nat.eq_of_testBit_eq;intro i;rw[Nat.testBit_xor,Nat.testBit_or]
 cases h:q.testBit i with
 | false=>cases s.testBit i<;>rfl
 | true=>rw[(hq2 i h).2];rfl
theorem Zml {can s t:Nat} (h1:Zeo s t=true) (h2:Zeo (t ^^^ s) can=true):Zeo (t ^^^ s) (Zg8 can s)=true∧s ||| (t ^^^ s)=t:=by
 rw[Zct] at h1 h2;refine⟨Zct.2 (fun i h=>?_),?_⟩
 ·rw[Zgs,h2 i h]
  rw[Nat.testBit_xor] at h
  cases hs:s.testBit i with
  | false=>rfl
  | true=>rw[hs,h1 i hs] at h;cases h
 ·apply Nat.eq_of_testBit_eq
  intro i;rw[Nat.testBit_or,Nat.testBit_xor]
  cases hs:s.testBit i with
  | false=>cases t.testBit i<;>rfl
  | true=>rw[h1 i hs];rfl
theorem Znp:∀ (k n j:Nat),n<2^k→Zhy (k+j) n=Zhy k n
 | 0,n,j,h=>by
  have h:n<1:=h
  obtain rfl:n=0:=by omega
  clear h;show Zhy (0+j) 0=0
  induction j with
  | zero=>rfl
  | succ j ih=>show 0%2+Zhy (0+j) (0/2)=0;rw[show 0/2=0 from rfl,ih]
 | k+1,n,j,h=>by
  rw[Nat.pow_succ] at h;rw[show k+1+j=k+j+1 from by omega];show n%2+Zhy (k+j) (n/2)=n%2+Zhy k (n/2);rw[Znp k (n/2) j (by omega)]
theorem Zqk:∀ (k n:Nat),Zhy k n≤k
 | 0,_=>Nat.le_refl _
 | k+1,n=>by show n%2+Zhy k (n/2)≤k+1;have:=Zqk k (n/2);omega
def Ztr (x:Int):Int:=IntKind.u64.wrap (bits .and .u64 (x/2) 6148914691236517205+bits .and .u64 x 6148914691236517205)
def Zts (x:Int):Int:=IntKind.u64.wrap (bits .and .u64 (x/4) 3689348814741910323+bits .and .u64 x 3689348814741910323)
def Ztt (x:Int):Int:=bits .and .u64 (IntKind.u64.wrap (x/16+x)) 1085102592571150095
def Ztu (x:Int):Int:=IntKind.u64.wrap (x+x/256)
def Ztv (x:Int):Int:=IntKind.u64.wrap (x+x/65536)
def Ztw (x:Int):Int:=IntKind.u64.wrap (x+x/4294967296)
def Ztx (x:Int):Int:=bits .and .i64 (wrap64 x) 127
def Zxu (x:Nat):Bool:=decide (Ztx (Ztw (Ztv (Ztu (Ztt (Zts (Ztr (x:Int)))))))=((Zhy 12 x:Nat):Int))
theorem Zql:∀ a:Fin 64,∀ b:Fin 64,Zxu (64*(a:Nat)+(b:Nat))=true:=by decide +kernel
theorem Zty (x:Nat) (hx:x<4096):Ztx (Ztw (Ztv (Ztu (Ztt (Zts (Ztr (x:Int)))))))=((Zhy 12 x:Nat):Int):=by
 have:=Zql ⟨x/64,by omega⟩ ⟨x%64,by omega⟩;rw[show 64*((⟨x/64,by omega⟩:Fin 64):Nat)+((⟨x%64,by omega⟩:Fin 64):Nat)=x from by show 64*(x/64)+x%64=x;omega] at this;exact of_decide_eq_true this
theorem Zot (x:Nat) (hx:x<4096) (w:World) :
  Calls Tryz.prog 218 #[.int .u64 (x:Int)] w fun e w'=>e = .returned (.int .i64 ((Zhy 12 x:Nat):Int))∧w=w':=by
 have H:=ħ (Zty x hx);obtain⟨y1,a1⟩:∃ y,IntKind.u64.wrap (bits .and .u64 ((x:Int)/2) 6148914691236517205+bits .and .u64 (x:Int) 6148914691236517205)=y:=⟨_,rfl⟩;obtain⟨y2,a2⟩:∃ y,IntKind.u64.wrap (bits .and .u64 (y1/4) 3689348814741910323+bits .and .u64 y1 3689348814741910323)=y:=⟨_,rfl⟩;obtain⟨y3,a3⟩:∃ y,bits .and .u64 (IntKind.u64.wrap (y2/16+y2)) 1085102592571150095=y:=⟨_,rfl⟩;obtain⟨y4,a4⟩:∃ y,IntKind.u64.wrap (y3+y3/256)=y:=⟨_,rfl⟩;obtain⟨y5,a5⟩:∃ y,IntKind.u64.wrap (y4+y4/65536)=y:=⟨_,rfl⟩;obtain⟨y6,a6⟩:∃ y,IntKind.u64.wrap (y5+y5/4294967296)=y:=⟨_,rfl⟩;obtain⟨y7,a7⟩:∃ y,bits .and .i64 (wrap64 y6) 127=y:=⟨_,rfl⟩
 have H7:Hid (y7=((Zhy 12 x:Nat):Int)):=ħ (by
  rw[← H.o];show y7=Ztx (Ztw (Ztv (Ztu (Ztt (Zts (Ztr (x:Int)))))))
  rw[show Ztr (x:Int)=y1 from a1,show Zts y1=y2 from a2,show Ztt y2=y3 from a3,show Ztu y3=y4 from a4,show Ztv y4=y5 from a5,show Ztw y5=y6 from a6,show Ztx y6=y7 from a7])
 clear H
 go_enter Tryz.func218,Tryz.ntmps218
 go_wp2
 go_ret;exact⟨by rw[← H7.o];rfl,rfl⟩
theorem Ztz (x:Nat) (hx:x<4096) (w:World) :
  Calls Tryz.prog 190 #[.int .u64 (x:Int)] w fun e w'=>e = .returned (.int .i64 ((Zhy 12 x:Nat):Int))∧w=w':=by
 have H:=ħ (Zot x hx w);have e1:IntKind.u64.wrap (x:Int)=(x:Int):=IntWalk.u64_in _ (by omega)
 go_enter Tryz.func190,Tryz.ntmps190
 go_wp2_with fail
 refine H.o.mono ?_;rintro e w1 ⟨rfl,rfl⟩
 go_wp2_with fail
 go_ret;exact⟨rfl,rfl⟩
end
section
def Zhz (L can room:Nat) (now:Nat→Nat) (i t:Nat):Nat:=min Zb4 ((List.range i).map (fun s=>if Zp0 L can room s t=true then now s else 0)).sum
def Zex (L can room:Nat) (now:Nat→Nat) (i lo t:Nat):Nat:=if Zp0 L can room i t=true∧lo≤t ^^^ i then min Zb4 (Zhz L can room now i t+now i) else Zhz L can room now i t
def Zcn (N:Nat) (f:Nat→Nat):List Nat:=(List.range N).map f
theorem Zej (N:Nat) (f:Nat→Nat):(Zcn N f).length=N:=by unfold Zcn;rw[List.length_map,List.length_range]
theorem Zeu {N:Nat} (f:Nat→Nat) {t:Nat} (h:t<N):(Zcn N f)[t]?=some (f t):=by unfold Zcn;rw[List.getElem?_map,List.getElem?_range h];rfl
theorem Zb2 {N:Nat} {f g:Nat→Nat} (h:∀ t,t<N→f t=g t):Zcn N f=Zcn N g:=by
 unfold Zcn;exact List.map_congr_left (fun t ht=>h t (List.mem_range.1 ht))
theorem Znq {N:Nat} {f g:Nat→Nat} {t0:Nat} (v:Nat) (h0:g t0=v) (h:∀ t,t<N→t≠t0→g t=f t):(Zcn N f).set t0 v=Zcn N g:=by
 apply List.ext_getElem?;intro t;by_cases ht:t<N
 ·by_cases e:t=t0
  ·subst e
   rw[List.getElem?_set_self (by rw[Zej];exact ht),Zeu g ht,h0]
  ·rw[List.getElem?_set_ne (fun h=>e h.symm),Zeu f ht,Zeu g ht,h t ht e]
 ·rw[List.getElem?_eq_none (by rw[List.length_set,Zej];omega),List.getElem?_eq_none (by rw[Zej];omega)]
theorem Zqm (L can room:Nat) (now:Nat→Nat) (i t:Nat):Zhz L can room now i t≤Zb4:=Nat.min_le_left _ _
theorem Zlc (L can room:Nat) (now:Nat→Nat) (i t:Nat):Zhz L can room now (i+1) t=if Zp0 L can room i t=true then min Zb4 (Zhz L can room now i t+now i) else Zhz L can room now i t:=by
 unfold Zhz;rw[Zh1];split
 ·omega
 ·rw[Nat.add_zero]
theorem Zqn {L can room:Nat} {now:Nat→Nat} {i:Nat} (h:now i=0) (t:Nat):Zhz L can room now (i+1) t=Zhz L can room now i t:=by
 rw[Zlc,h,Nat.add_zero];split
 ·exact Nat.min_eq_right (Zqm ..)
 ·rfl
theorem Ze6 {L can room i t:Nat} (h:Zp0 L can room i t=true):Zeo i t=true∧Zeo (t ^^^ i) can=true∧Zhy L (t ^^^ i)≤room:=by
 unfold Zp0 at h;simp only[Bool.and_eq_true,decide_eq_true_eq] at h;exact⟨h.1.1,h.1.2,h.2⟩
theorem Zwd {L can room i t:Nat} (h1:Zeo i t=true) (h2:Zeo (t ^^^ i) can=true) (h3:Zhy L (t ^^^ i)≤room):Zp0 L can room i t=true:=by
 unfold Zp0;rw[h1,h2,decide_eq_true h3];rfl
theorem Zou (L can room:Nat) (now:Nat→Nat) (i t:Nat):Zex L can room now i (Zg8 can i+1) t=Zhz L can room now i t:=by
 unfold Zex;rw[if_neg];rintro⟨h1,h2⟩;obtain⟨h3,h4,-⟩:=Ze6 h1;have:=Zwc (Zml h3 h4).1;omega
theorem Znr (L can room:Nat) (now:Nat→Nat) (i t:Nat):Zex L can room now i 0 t=Zhz L can room now (i+1) t:=by
 unfold Zex;rw[Zlc];by_cases e:Zp0 L can room i t=true
 ·rw[if_pos e,if_pos ⟨e,Nat.zero_le _⟩]
 ·rw[if_neg e,if_neg (fun h=>e h.1)]
theorem Zwe {L can room:Nat} {now:Nat→Nat} {i p:Nat} (hp:Zeo p (Zg8 can i)=true):Zex L can room now i (p+1) (i ||| p)=Zhz L can room now i (i ||| p):=by
 unfold Zex;rw[if_neg];rintro⟨-,h2⟩;rw[(Zqj hp).2.1] at h2;omega
theorem Zt0 {L can room:Nat} {now:Nat→Nat} {i p:Nat} (hp:Zeo p (Zg8 can i)=true) (hr:Zhy L p≤room):Zex L can room now i p (i ||| p)=min Zb4 (Zhz L can room now i (i ||| p)+now i)∧∀ t,t≠i ||| p→Zex L can room now i p t=Zex L can room now i (p+1) t:=by
 obtain⟨h1,h2,h3⟩:=Zqj hp;refine⟨?_,fun t ht=>?_⟩
 ·unfold Zex
  rw[if_pos ⟨Zwd h1 (by rw[h2];exact h3) (by rw[h2];exact hr),by rw[h2];exact Nat.le_refl _⟩]
 ·unfold Zex
  by_cases e:Zp0 L can room i t=true∧p≤t ^^^ i
  ·rw[if_pos e,if_pos]
   refine⟨e.1,?_⟩;obtain⟨h4,h5,-⟩:=Ze6 e.1;rcases Nat.lt_or_ge p (t ^^^ i) with h | h
   ·exact h
   ·have h6:t ^^^ i=p:=by omega
    have h7:=(Zml h4 h5).2;rw[h6] at h7;exact absurd h7.symm ht
  ·rw[if_neg e,if_neg (fun h=>e ⟨h.1,by omega⟩)]
theorem Zt1 {L can room:Nat} {now:Nat→Nat} {i p:Nat} (hr:¬ Zhy L p≤room) (t:Nat):Zex L can room now i p t=Zex L can room now i (p+1) t:=by
 unfold Zex;by_cases e:Zp0 L can room i t=true∧p≤t ^^^ i
 ·rw[if_pos e,if_pos]
  refine⟨e.1,?_⟩;obtain⟨-,-,h5⟩:=Ze6 e.1;rcases Nat.lt_or_ge p (t ^^^ i) with h | h
  ·exact h
  ·have h6:t ^^^ i=p:=by omega
   rw[h6] at h5;exact absurd h5 hr
 ·rw[if_neg e,if_neg (fun h=>e ⟨h.1,by omega⟩)]
theorem Zld {L can room:Nat} {now:Nat→Nat} {i p n:Nat} (hn:p<2^n) (hp:Zeo p (Zg8 can i)=true) (t:Nat):Zex L can room now i p t=Zex L can room now i (((p-1) &&& Zg8 can i)+1) t∨p=0:=by
 by_cases h0:p=0
 ·exact .inr h0
 left
 have hlt:(p-1) &&& Zg8 can i<p:=by have:=Nat.and_le_left (n:=p-1) (m:=Zg8 can i);omega
 unfold Zex;by_cases e:Zp0 L can room i t=true
 ·obtain⟨h4,h5,-⟩:=Ze6 e
  have h6:=(Zml h4 h5).1;by_cases e2:p≤t ^^^ i
  ·rw[if_pos ⟨e,e2⟩,if_pos ⟨e,by omega⟩]
  ·have:=Zlb n p (Zg8 can i) (t ^^^ i) hn hp h6 (by omega)
   rw[if_neg (fun h=>e2 h.2),if_neg (fun h=>by have:=h.2;omega)]
 ·rw[if_neg (fun h=>e h.1),if_neg (fun h=>e h.1)]
theorem Zns (L:Nat) (can room:Nat→Nat):∀ m t,Zgh L can room m t≤Zb4
 | 0,t=>by
  show (if t=0 then 1 else 0)≤Zb4;have:Zb4=1152921504606846977:=rfl;split<;>omega
 | m+1,t=>Nat.min_le_left _ _
end
end Go.Proofs.YtbcgocpihobjnaaGreatDoor
