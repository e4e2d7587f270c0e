import Derived.Lib.QuoteBits
import Derived.Test.YtbcgocpihobjnaaGreatDoorCX13
import Derived.Test.YtbcgocpihobjnaaGreatDoorCX0
set_option linter.all false
set_option maxHeartbeats 4000000
namespace Go.Proofs.YtbcgocpihobjnaaGreatDoor
section
open Go.RowKit
def Ziu (a b:Nat):Nat:=a ^^^ (a &&& b)
theorem Zie (a b i:Nat):(Ziu a b).testBit i=(a.testBit i&&!b.testBit i):=by
 unfold Ziu;rw[Nat.testBit_xor,Nat.testBit_and];cases a.testBit i<;>cases b.testBit i<;>rfl
theorem Zco {a:Nat} (h:a<4096):(BitVec.ofInt 64 (a:Int)).toNat=a:=ofInt_u64 a (by omega)
theorem Zky {a b:Nat} (ha:a<4096) (hb:b<4096):bits .and .i64 (a:Int) (b:Int)=((a &&& b:Nat):Int):=by
 show IntKind.i64.wrap ((BitVec.ofInt 64 (a:Int) &&& BitVec.ofInt 64 (b:Int)).toNat:Int)=_;rw[BitVec.toNat_and,Zco ha,Zco hb];exact Lib.wrap_i64_small _ (by have:=Nat.and_le_left (n:=a) (m:=b);omega)
theorem Z0s {a b:Nat} (ha:a<4096) (hb:b<4096):a ||| b<4096:=Nat.or_lt_two_pow (n:=12) ha hb
theorem Zx0 {a b:Nat} (ha:a<4096) (hb:b<4096):bits .or .i64 (a:Int) (b:Int)=((a ||| b:Nat):Int):=by
 show IntKind.i64.wrap ((BitVec.ofInt 64 (a:Int) ||| BitVec.ofInt 64 (b:Int)).toNat:Int)=_;rw[BitVec.toNat_or,Zco ha,Zco hb];exact Lib.wrap_i64_small _ (by have:=Z0s ha hb;omega)
theorem Zr7 (a b:Nat):Ziu a b≤a:=by
 have:Ziu a b=a &&& Ziu a b:=by
  apply Nat.eq_of_testBit_eq;intro i;rw[Nat.testBit_and,Zie];cases a.testBit i<;>rfl
 rw[this];exact Nat.and_le_left
theorem Zyh {a b:Nat} (ha:a<4096) (hb:b<4096):bits .andNot .i64 (a:Int) (b:Int)=((Ziu a b:Nat):Int):=by
 show IntKind.i64.wrap ((BitVec.ofInt 64 (a:Int) &&& ~~~BitVec.ofInt 64 (b:Int)).toNat:Int)=_;rw[BitVec.toNat_and,BitVec.toNat_not,Zco ha,Zco hb]
 have e:a &&& (2^64-1-b)=Ziu a b:=by
  apply Nat.eq_of_testBit_eq;intro i;rw[Nat.testBit_and,Zie,show 2^64-1-b=2^64-(b+1) from by omega,Nat.testBit_two_pow_sub_succ (by omega)];by_cases hi:i<64
  ·rw[decide_eq_true hi,Bool.true_and]
  ·have:a.testBit i=false:=Nat.testBit_lt_two_pow (Nat.lt_of_lt_of_le ha (Nat.le_trans (show 4096≤2^64 by decide) (Nat.pow_le_pow_right (by omega) (by omega))))
   rw[this];rfl
 rw[e];exact Lib.wrap_i64_small _ (by have:=Zr7 a b;omega)
theorem Zyi {s t:Nat} (h:Zfb s t=true):s≤t:=by
 unfold Zfb at h;rw[beq_iff_eq] at h;rw[← h];exact Nat.and_le_right
theorem Zo6 (a b:Nat):Zfb (a &&& b) b=true:=by
 rw[Zc3];intro i h;rw[Nat.testBit_and,Bool.and_eq_true] at h;exact h.2
theorem Zr8 (a:Nat):Zfb a a=true:=by rw[Zc3];exact fun i h=>h
theorem Zmk:∀ (n part free q:Nat),part<2^n→Zfb part free=true→Zfb q free=true→q<part→q≤(part-1) &&& free
 | 0,part,free,q,h,_,_,hl=>by have h:part<1:=h;omega
 | n+1,part,free,q,h,hp,hq,hl=>by
  obtain⟨hp0,hp1⟩:=Zin.1 hp;obtain⟨hq0,hq1⟩:=Zin.1 hq;by_cases e:part%2=1
  ·have:Zfb (part-1) free=true:=Zin.2 ⟨fun h=>by omega,by rw[show (part-1)/2=part/2 from by omega];exact hp1⟩
   unfold Zfb at this;rw[beq_iff_eq] at this;rw[this];omega
  ·have hx2:((part-1) &&& free)/2=(part/2-1) &&& (free/2):=by
    apply Nat.eq_of_testBit_eq;intro i;rw[← Nat.testBit_succ,Nat.testBit_and,Nat.testBit_and,Nat.testBit_succ,Nat.testBit_succ,show (part-1)/2=part/2-1 from by omega]
   have hx1:((part-1) &&& free)%2=free%2:=by
    have h1:((part-1) &&& free).testBit 0=((part-1).testBit 0&&free.testBit 0):=Nat.testBit_and ..;rw[Nat.testBit_zero,Nat.testBit_zero,Nat.testBit_zero,show (part-1)%2=1 from by omega] at h1;rcases Nat.mod_two_eq_zero_or_one free with h2 | h2<;>rcases Nat.mod_two_eq_zero_or_one ((part-1) &&& free) with h3 | h3<;>simp[h2,h3] at h1<;>omega
   have hc:=Zmk n (part/2) (free/2) (q/2) (by rw[Nat.pow_succ] at h;omega) hp1 hq1 (by omega);rw[← hx2] at hc
   have:q%2≤((part-1) &&& free)%2:=by
    rw[hx1];rcases Nat.mod_two_eq_zero_or_one q with h2 | h2
    ·omega
    ·rw[h2,hq0 h2];omega
   omega
theorem Zr9 {can s q:Nat} (hq:Zfb q (Ziu can s)=true):Zfb s (s ||| q)=true∧(s ||| q) ^^^ s=q∧Zfb q can=true:=by
 rw[Zc3] at hq
 have hq2:∀ i,q.testBit i=true→can.testBit i=true∧s.testBit i=false:=fun i h=>by
  have:=hq i h;rw[Zie,Bool.and_eq_true,Bool.not_eq_true'] at this;exact this
 refine⟨Zc3.2 (fun i h=>by rw[Nat.testBit_or,h];rfl),?_,Zc3.2 (fun i h=>(hq2 i h).1)⟩;apply Nat.eq_of_testBit_eq;intro i;rw[Nat.testBit_xor,Nat.testBit_or]
 cases h:q.testBit i with
 | false=>cases s.testBit i<;>rfl
 | true=>rw[(hq2 i h).2];rfl
theorem Znz {can s t:Nat} (h1:Zfb s t=true) (h2:Zfb (t ^^^ s) can=true):Zfb (t ^^^ s) (Ziu can s)=true∧s ||| (t ^^^ s)=t:=by
 rw[Zc3] at h1 h2;refine⟨Zc3.2 (fun i h=>?_),?_⟩
 ·rw[Zie,h2 i h]
  rw[Nat.testBit_xor] at h
  cases hs:s.testBit i with
  | false=>rfl
  | true=>rw[hs,h1 i hs] at h;cases h
 ·apply Nat.eq_of_testBit_eq
  intro i;rw[Nat.testBit_or,Nat.testBit_xor]
  cases hs:s.testBit i with
  | false=>cases t.testBit i<;>rfl
  | true=>rw[h1 i hs];rfl
theorem Zo7:∀ (k n j:Nat),n<2^k→Zjk (k+j) n=Zjk k n
 | 0,n,j,h=>by
  have h:n<1:=h
  obtain rfl:n=0:=by omega
  clear h;show Zjk (0+j) 0=0
  induction j with
  | zero=>rfl
  | succ j ih=>show 0%2+Zjk (0+j) (0/2)=0;rw[show 0/2=0 from rfl,ih]
 | k+1,n,j,h=>by
  rw[Nat.pow_succ] at h;rw[show k+1+j=k+j+1 from by omega];show n%2+Zjk (k+j) (n/2)=n%2+Zjk k (n/2);rw[Zo7 k (n/2) j (by omega)]
theorem Zsa:∀ (k n:Nat),Zjk k n≤k
 | 0,_=>Nat.le_refl _
 | k+1,n=>by show n%2+Zjk k (n/2)≤k+1;have:=Zsa k (n/2);omega
def Zvw (x:Int):Int:=IntKind.u64.wrap (bits .and .u64 (x/2) 6148914691236517205+bits .and .u64 x 6148914691236517205)
def Zvx (x:Int):Int:=IntKind.u64.wrap (bits .and .u64 (x/4) 3689348814741910323+bits .and .u64 x 3689348814741910323)
def Zvy (x:Int):Int:=bits .and .u64 (IntKind.u64.wrap (x/16+x)) 1085102592571150095
def Zvz (x:Int):Int:=IntKind.u64.wrap (x+x/256)
def Zv0 (x:Int):Int:=IntKind.u64.wrap (x+x/65536)
def Zv1 (x:Int):Int:=IntKind.u64.wrap (x+x/4294967296)
def Zv2 (x:Int):Int:=bits .and .i64 (wrap64 x) 127
def Zz1 (x:Nat):Bool:=decide (Zv2 (Zv1 (Zv0 (Zvz (Zvy (Zvx (Zvw (x:Int)))))))=((Zjk 12 x:Nat):Int))
theorem Zsb:∀ a:Fin 64,∀ b:Fin 64,Zz1 (64*(a:Nat)+(b:Nat))=true:=by decide +kernel
theorem Zv3 (x:Nat) (hx:x<4096):Zv2 (Zv1 (Zv0 (Zvz (Zvy (Zvx (Zvw (x:Int)))))))=((Zjk 12 x:Nat):Int):=by
 have:=Zsb ⟨x/64,by omega⟩ ⟨x%64,by omega⟩;rw[show 64*((⟨x/64,by omega⟩:Fin 64):Nat)+((⟨x%64,by omega⟩:Fin 64):Nat)=x from by show 64*(x/64)+x%64=x;omega] at this;exact of_decide_eq_true this
theorem Zqb (x:Nat) (hx:x<4096) (w:World) :
  Calls Tryz.prog 218 #[.int .u64 (x:Int)] w fun e w'=>e = .returned (.int .i64 ((Zjk 12 x:Nat):Int))∧w=w':=by
 have H:=ħ (Zv3 x hx);obtain⟨y1,a1⟩:∃ y,IntKind.u64.wrap (bits .and .u64 ((x:Int)/2) 6148914691236517205+bits .and .u64 (x:Int) 6148914691236517205)=y:=⟨_,rfl⟩;obtain⟨y2,a2⟩:∃ y,IntKind.u64.wrap (bits .and .u64 (y1/4) 3689348814741910323+bits .and .u64 y1 3689348814741910323)=y:=⟨_,rfl⟩;obtain⟨y3,a3⟩:∃ y,bits .and .u64 (IntKind.u64.wrap (y2/16+y2)) 1085102592571150095=y:=⟨_,rfl⟩;obtain⟨y4,a4⟩:∃ y,IntKind.u64.wrap (y3+y3/256)=y:=⟨_,rfl⟩;obtain⟨y5,a5⟩:∃ y,IntKind.u64.wrap (y4+y4/65536)=y:=⟨_,rfl⟩;obtain⟨y6,a6⟩:∃ y,IntKind.u64.wrap (y5+y5/4294967296)=y:=⟨_,rfl⟩;obtain⟨y7,a7⟩:∃ y,bits .and .i64 (wrap64 y6) 127=y:=⟨_,rfl⟩
 have H7:Hid (y7=((Zjk 12 x:Nat):Int)):=ħ (by
  rw[← H.o];show y7=Zv2 (Zv1 (Zv0 (Zvz (Zvy (Zvx (Zvw (x:Int)))))))
  rw[show Zvw (x:Int)=y1 from a1,show Zvx y1=y2 from a2,show Zvy y2=y3 from a3,show Zvz y3=y4 from a4,show Zv0 y4=y5 from a5,show Zv1 y5=y6 from a6,show Zv2 y6=y7 from a7])
 clear H
 go_enter Tryz.func218,Tryz.ntmps218
 go_wp2
 go_ret;exact⟨by rw[← H7.o];rfl,rfl⟩
theorem Zv4 (x:Nat) (hx:x<4096) (w:World) :
  Calls Tryz.prog 190 #[.int .u64 (x:Int)] w fun e w'=>e = .returned (.int .i64 ((Zjk 12 x:Nat):Int))∧w=w':=by
 have H:=ħ (Zqb x hx w);have e1:IntKind.u64.wrap (x:Int)=(x:Int):=IntWalk.u64_in _ (by omega)
 go_enter Tryz.func190,Tryz.ntmps190
 go_wp2_with fail
 refine H.o.mono ?_;rintro e w1 ⟨rfl,rfl⟩
 go_wp2_with fail
 go_ret;exact⟨rfl,rfl⟩
end
section
def Zjl (L can room:Nat) (now:Nat→Nat) (i t:Nat):Nat:=min Zcd ((List.range i).map (fun s=>if Zrn L can room s t=true then now s else 0)).sum
def Zfm (L can room:Nat) (now:Nat→Nat) (i lo t:Nat):Nat:=if Zrn L can room i t=true∧lo≤t ^^^ i then min Zcd (Zjl L can room now i t+now i) else Zjl L can room now i t
def Zcw (N:Nat) (f:Nat→Nat):List Nat:=(List.range N).map f
theorem Zez (N:Nat) (f:Nat→Nat):(Zcw N f).length=N:=by unfold Zcw;rw[List.length_map,List.length_range]
theorem Zfg {N:Nat} (f:Nat→Nat) {t:Nat} (h:t<N):(Zcw N f)[t]?=some (f t):=by unfold Zcw;rw[List.getElem?_map,List.getElem?_range h];rfl
theorem Zca {N:Nat} {f g:Nat→Nat} (h:∀ t,t<N→f t=g t):Zcw N f=Zcw N g:=by
 unfold Zcw;exact List.map_congr_left (fun t ht=>h t (List.mem_range.1 ht))
theorem Zo8 {N:Nat} {f g:Nat→Nat} {t0:Nat} (v:Nat) (h0:g t0=v) (h:∀ t,t<N→t≠t0→g t=f t):(Zcw N f).set t0 v=Zcw N g:=by
 apply List.ext_getElem?;intro t;by_cases ht:t<N
 ·by_cases e:t=t0
  ·subst e
   rw[List.getElem?_set_self (by rw[Zez];exact ht),Zfg g ht,h0]
  ·rw[List.getElem?_set_ne (fun h=>e h.symm),Zfg f ht,Zfg g ht,h t ht e]
 ·rw[List.getElem?_eq_none (by rw[List.length_set,Zez];omega),List.getElem?_eq_none (by rw[Zez];omega)]
theorem Zsc (L can room:Nat) (now:Nat→Nat) (i t:Nat):Zjl L can room now i t≤Zcd:=Nat.min_le_left _ _
theorem Zml (L can room:Nat) (now:Nat→Nat) (i t:Nat):Zjl L can room now (i+1) t=if Zrn L can room i t=true then min Zcd (Zjl L can room now i t+now i) else Zjl L can room now i t:=by
 unfold Zjl;rw[Zjm];split
 ·omega
 ·rw[Nat.add_zero]
theorem Zsd {L can room:Nat} {now:Nat→Nat} {i:Nat} (h:now i=0) (t:Nat):Zjl L can room now (i+1) t=Zjl L can room now i t:=by
 rw[Zml,h,Nat.add_zero];split
 ·exact Nat.min_eq_right (Zsc ..)
 ·rfl
theorem Zfy {L can room i t:Nat} (h:Zrn L can room i t=true):Zfb i t=true∧Zfb (t ^^^ i) can=true∧Zjk L (t ^^^ i)≤room:=by
 unfold Zrn at h;simp only[Bool.and_eq_true,decide_eq_true_eq] at h;exact⟨h.1.1,h.1.2,h.2⟩
theorem Zyj {L can room i t:Nat} (h1:Zfb i t=true) (h2:Zfb (t ^^^ i) can=true) (h3:Zjk L (t ^^^ i)≤room):Zrn L can room i t=true:=by
 unfold Zrn;rw[h1,h2,decide_eq_true h3];rfl
theorem Zqc (L can room:Nat) (now:Nat→Nat) (i t:Nat):Zfm L can room now i (Ziu can i+1) t=Zjl L can room now i t:=by
 unfold Zfm;rw[if_neg];rintro⟨h1,h2⟩;obtain⟨h3,h4,-⟩:=Zfy h1;have:=Zyi (Znz h3 h4).1;omega
theorem Zo9 (L can room:Nat) (now:Nat→Nat) (i t:Nat):Zfm L can room now i 0 t=Zjl L can room now (i+1) t:=by
 unfold Zfm;rw[Zml];by_cases e:Zrn L can room i t=true
 ·rw[if_pos e,if_pos ⟨e,Nat.zero_le _⟩]
 ·rw[if_neg e,if_neg (fun h=>e h.1)]
theorem Zyk {L can room:Nat} {now:Nat→Nat} {i p:Nat} (hp:Zfb p (Ziu can i)=true):Zfm L can room now i (p+1) (i ||| p)=Zjl L can room now i (i ||| p):=by
 unfold Zfm;rw[if_neg];rintro⟨-,h2⟩;rw[(Zr9 hp).2.1] at h2;omega
theorem Zv5 {L can room:Nat} {now:Nat→Nat} {i p:Nat} (hp:Zfb p (Ziu can i)=true) (hr:Zjk L p≤room):Zfm L can room now i p (i ||| p)=min Zcd (Zjl L can room now i (i ||| p)+now i)∧∀ t,t≠i ||| p→Zfm L can room now i p t=Zfm L can room now i (p+1) t:=by
 obtain⟨h1,h2,h3⟩:=Zr9 hp;refine⟨?_,fun t ht=>?_⟩
 ·unfold Zfm
  rw[if_pos ⟨Zyj h1 (by rw[h2];exact h3) (by rw[h2];exact hr),by rw[h2];exact Nat.le_refl _⟩]
 ·unfold Zfm
  by_cases e:Zrn L can room i t=true∧p≤t ^^^ i
  ·rw[if_pos e,if_pos]
   refine⟨e.1,?_⟩;obtain⟨h4,h5,-⟩:=Zfy e.1;rcases Nat.lt_or_ge p (t ^^^ i) with h | h
   ·exact h
   ·have h6:t ^^^ i=p:=by omega
    have h7:=(Znz h4 h5).2;rw[h6] at h7;exact absurd h7.symm ht
  ·rw[if_neg e,if_neg (fun h=>e ⟨h.1,by omega⟩)]
theorem Zv6 {L can room:Nat} {now:Nat→Nat} {i p:Nat} (hr:¬ Zjk L p≤room) (t:Nat):Zfm L can room now i p t=Zfm L can room now i (p+1) t:=by
 unfold Zfm;by_cases e:Zrn L can room i t=true∧p≤t ^^^ i
 ·rw[if_pos e,if_pos]
  refine⟨e.1,?_⟩;obtain⟨-,-,h5⟩:=Zfy e.1;rcases Nat.lt_or_ge p (t ^^^ i) with h | h
  ·exact h
  ·have h6:t ^^^ i=p:=by omega
   rw[h6] at h5;exact absurd h5 hr
 ·rw[if_neg e,if_neg (fun h=>e ⟨h.1,by omega⟩)]
theorem Zmm {L can room:Nat} {now:Nat→Nat} {i p n:Nat} (hn:p<2^n) (hp:Zfb p (Ziu can i)=true) (t:Nat):Zfm L can room now i p t=Zfm L can room now i (((p-1) &&& Ziu can i)+1) t∨p=0:=by
 by_cases h0:p=0
 ·exact .inr h0
 left
 have hlt:(p-1) &&& Ziu can i<p:=by have:=Nat.and_le_left (n:=p-1) (m:=Ziu can i);omega
 unfold Zfm;by_cases e:Zrn L can room i t=true
 ·obtain⟨h4,h5,-⟩:=Zfy e
  have h6:=(Znz h4 h5).1;by_cases e2:p≤t ^^^ i
  ·rw[if_pos ⟨e,e2⟩,if_pos ⟨e,by omega⟩]
  ·have:=Zmk n p (Ziu can i) (t ^^^ i) hn hp h6 (by omega)
   rw[if_neg (fun h=>e2 h.2),if_neg (fun h=>by have:=h.2;omega)]
 ·rw[if_neg (fun h=>e h.1),if_neg (fun h=>e h.1)]
theorem Zpa (L:Nat) (can room:Nat→Nat):∀ m t,Zhy L can room m t≤Zcd
 | 0,t=>by
  show (if t=0 then 1 else 0)≤Zcd;have:Zcd=1152921504606846977:=rfl;split<;>omega
 | m+1,t=>Nat.min_le_left _ _
end
end Go.Proofs.YtbcgocpihobjnaaGreatDoor
