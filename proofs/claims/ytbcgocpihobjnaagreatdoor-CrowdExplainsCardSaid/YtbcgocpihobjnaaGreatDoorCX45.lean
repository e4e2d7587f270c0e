import Derived.Test.YtbcgocpihobjnaaGreatDoorCX44
import Derived.Test.YtbcgocpihobjnaaGreatDoorCX11
set_option linter.all false
set_option maxHeartbeats 32000000
set_option maxRecDepth 100000
namespace Go.Proofs.YtbcgocpihobjnaaGreatDoor
section
open Go.RowKit Go.Sort Go.Maps
theorem Zls {s L:Nat}:∀ k,s/2^L=0→nbU (L+k) s=nbU L s
 | 0,_=>rfl
 | k+1,h=>by
  show nbU (L+k+1) s=_;rw[Zln,Zls k h]
  have:Zgc s (L+k)=false:=by
   unfold Zgc;rw[Nat.pow_add,← Nat.div_div_eq_div_mul,h,Nat.zero_div];rfl
  rw[this];rfl
theorem Zu8 (w:World) (s L:Nat) (hs:s<2^L) (hL:L≤60) :
  Calls Tryz.prog 34 #[.int .i64 (s:Int)] w fun e w'=>e = .returned (.int .i64 ((nbU L s:Nat):Int))∧w=w':=by
 have hs2:s<2^60:=Nat.lt_of_lt_of_le hs (Nat.pow_le_pow_right (by omega) hL);have hs3:s<1152921504606846976:=hs2
 have HEND:Hid (∀ j,s/2^j=0→nbU j s=nbU L s):=ħ (fun j hj=>by
  rcases Nat.lt_or_ge j L with h | h
  ·obtain⟨d,rfl⟩:∃ d,L=j+d:=⟨L-j,by omega⟩
   exact (Zls d hj).symm
  ·obtain⟨d,rfl⟩:∃ d,j=L+d:=⟨j-L,by omega⟩
   exact Zls d (Nat.div_eq_of_lt hs))
 have HST:Hid (∀ j,nbU (j+1) s=nbU j s+s/2^j%2):=ħ (fun j=>by
  rw[Zln];unfold Zgc
  rcases Nat.mod_two_eq_zero_or_one (s/2^j) with h | h<;>rw[h]<;>rfl)
 have HDV:Hid (∀ j,s/2^j/2=s/2^(j+1)):=ħ (fun j=>by rw[Nat.div_div_eq_div_mul,Nat.pow_succ]);have HLE:Hid (∀ j,s/2^j≤s):=ħ (fun j=>Nat.div_le_self _ _);have HNB:Hid (∀ j,nbU j s≤j):=ħ (fun j=>Zp2 j s)
 have h0:s/2^0=s:=by rw[Nat.pow_zero,Nat.div_one]
 have HZ:Hid (∀ j,s/2^j≠0→j<60):=ħ (fun j hj=>by
  rcases Nat.lt_or_ge j 60 with h | h
  ·exact h
  ·exact absurd (Nat.div_eq_of_lt (Nat.lt_of_lt_of_le hs2 (Nat.pow_le_pow_right (by omega) h))) hj)
 go_enter Tryz.func34,Tryz.ntmps34
 go_upto_region 2 with (fail)
 go_loopw [0,3] (fun sv nv wr=>∃ (j:Nat),sv = .int .i64 ((s/2^j:Nat):Int)∧nv = .int .i64 ((nbU j s:Nat):Int)∧wr=w) (fun sv _ _=>(intOf sv).toNat)
 case atStart=>exact⟨0,by rw[h0],rfl,rfl⟩
 case round =>
  obtain⟨j,rfl,rfl,rfl⟩:=hrel;have hle:=HLE.o j;have hnb:=HNB.o j;have hdv:=HDV.o j;have hst:=HST.o j;have hen:=HEND.o j;have hz:=HZ.o j;clear h0;obtain⟨q,hq⟩:∃ q,s/2^j=q:=⟨_,rfl⟩;obtain⟨n,hn⟩:∃ n,nbU j s=n:=⟨_,rfl⟩;rw[hq] at hle hdv hst hen hz ⊢;rw[hn] at hnb hst hen ⊢;have HDQ:=ħ hdv;have HSQ:=ħ hst;have HEQ:=ħ hen;clear hq hn hdv hst hen;by_cases hq0:0<q
  ·have qq:(0:Int)<((q:Nat):Int):=by omega
   have hj60:=hz (by omega);have hm1:((q:Int)%2)=((q%2:Nat):Int):=rfl;have hm2:Int.tmod (q:Int) 2=((q%2:Nat):Int):=rfl;have hd1:((q:Int)/2)=((q/2:Nat):Int):=rfl;have hd2:Int.tdiv (q:Int) 2=((q/2:Nat):Int):=rfl;have ew1:IntKind.i64.wrap ((q%2:Nat):Int)=((q%2:Nat):Int):=IntWalk.i64_in _ (by omega);have ew2:IntKind.i64.wrap ((q/2:Nat):Int)=((q/2:Nat):Int):=IntWalk.i64_in _ (by omega)
   have ew3:IntKind.i64.wrap (((n:Nat):Int)+((q%2:Nat):Int))=((n+q%2:Nat):Int):=by
    rw[← Int.natCast_add];exact IntWalk.i64_in _ (by omega)
   obtain⟨r,hr⟩:∃ r,q%2=r:=⟨_,rfl⟩;obtain⟨d,hd⟩:∃ d,q/2=d:=⟨_,rfl⟩;have HDD:Hid (d<q):=ħ (by omega);rw[hr] at hm1 hm2 ew1 ew3 HSQ;rw[hd] at hd1 hd2 ew2 HDQ;clear hr hd hz
   go_wp2_with fail
   go_roundw
   case rel=>exact⟨j+1,by rw[← HDQ.o],by rw[HSQ.o,Int.natCast_add],(by trivial)⟩
   case measure=>have:=HDD.o;simp only[intOf];omega
  ·have qq:¬ (0:Int)<((q:Nat):Int):=by omega
   have HF:=ħ (HEQ.o (by omega))
   go_wp2_with fail
   go_ret;exact⟨by rw[HF.o];rfl,rfl⟩
theorem Zu9 (l:List Int) (x:Int):ivs l++[.int .i64 x]=ivs (l++[x]):=by unfold ivs;rw[List.map_append];rfl
def Znn (us:List Use) (l:List Nat) (s ix:Nat):List Use:=((List.range ix).filter (Zgc s)).map (fun i=>us.getD (l.getD i 0) ⟨0,0,0,0⟩)
theorem Zva (us:List Use) (l:List Nat) (s ix:Nat):Znn us l s (ix+1)=if Zgc s ix=true then Znn us l s ix++[us.getD (l.getD ix 0) ⟨0,0,0,0⟩] else Znn us l s ix:=by
 unfold Znn;rw[List.range_succ,List.filter_append];by_cases h:Zgc s ix=true
 ·rw[if_pos h];simp[h]
 ·rw[if_neg h];simp[h]
theorem Zxt (us:List Use) (l:List Nat) (s ix:Nat):(Znn us l s ix).length=nbU ix s:=by unfold Znn nbU;rw[List.length_map]
theorem Zxu (us:List Use) (l:List Nat) (s:Nat):Znn us l s l.length=(Zea l s).map (fun u=>us.getD u ⟨0,0,0,0⟩):=by
 unfold Znn Zea;rw[List.map_map];rfl
def Zc8 (l:List Nat) (s:Nat) (own:List Int):Nat→List Int
 | 0=>[]
 | i+1=>if Zgc s i=true then Zc8 l s own i++(own.filter (fun q=>q==((l.getD i 0:Nat):Int))).map (fun _=>((nbU i s:Nat):Int)) else Zc8 l s own i
theorem Zji (l:List Nat) (s:Nat) (own:List Int):∀ i,(Zc8 l s own i).length≤i*own.length
 | 0=>Nat.zero_le _
 | i+1=>by
  have ih:=Zji l s own i;have h1:(own.filter (fun q=>q==((l.getD i 0:Nat):Int))).length≤own.length:=List.length_filter_le _ _;rw[Nat.succ_mul];unfold Zc8;split
  ·rw[List.length_append,List.length_map];omega
  ·omega
theorem Zno (l:List Nat) (s:Nat) (own:List Int) (q:Int):∀ ix,q∈Zc8 l s own ix↔∃ i,i<ix∧Zgc s i=true∧((l.getD i 0:Nat):Int)∈own∧q=((nbU i s:Nat):Int)
 | 0=>⟨fun h=>(by cases h),fun ⟨i,h,_⟩=>absurd h (Nat.not_lt_zero i)⟩
 | ix+1=>by
  have ih:=Zno l s own q ix;unfold Zc8;by_cases hb:Zgc s ix=true
  ·rw[if_pos hb,List.mem_append,ih,List.mem_map]
   constructor
   ·rintro (⟨i,h1,h2⟩ | ⟨x,h1,h2⟩)
    ·exact⟨i,by omega,h2⟩
    ·obtain⟨h3,h4⟩:=List.mem_filter.1 h1
     rw[beq_iff_eq] at h4;exact⟨ix,by omega,hb,by rw[← h4];exact h3,h2.symm⟩
   ·rintro⟨i,h1,h2,h3,h4⟩
    rcases Nat.lt_or_ge i ix with h5 | h5
    ·exact .inl ⟨i,h5,h2,h3,h4⟩
    ·obtain rfl:i=ix:=by omega
     exact .inr ⟨_,List.mem_filter.2 ⟨h3,by simp⟩,h4.symm⟩
  ·rw[if_neg hb,ih]
   constructor
   ·rintro⟨i,h1,h2⟩;exact⟨i,by omega,h2⟩
   ·rintro⟨i,h1,h2,h3⟩
    rcases Nat.lt_or_ge i ix with h5 | h5
    ·exact⟨i,h5,h2,h3⟩
    ·obtain rfl:i=ix:=by omega
     exact absurd h2 hb
theorem Zrh (l:List Nat) (s:Nat) (own:List Int) (q:Int):q∈Zc8 l s own l.length↔q∈(Zdl (Zea l s) own).map Int.ofNat:=by
 rw[Zno]
 have hat:∀ i,i<l.length→Zgc s i=true→((List.range l.length).filter (Zgc s))[nbU i s]?=some i:=fun i h1 h2=>by
  have:=Zuz (Zgc s) h1 h2
  rwa [List.countP_eq_length_filter] at this
 have hsel:∀ k i,((List.range l.length).filter (Zgc s))[k]?=some i→k<(Zea l s).length∧(Zea l s).getD k 0=l.getD i 0:=fun k i h=>by
  have hk:=(List.getElem?_eq_some_iff.1 h).1;unfold Zea;refine⟨by rw[List.length_map];exact hk,?_⟩;rw[List.getD_eq_getElem?_getD,List.getElem?_map,h];rfl
 constructor
 ·rintro⟨i,h1,h2,h3,rfl⟩
  obtain⟨h4,h5⟩:=hsel _ _ (hat i h1 h2);exact Zp3 h4 (by rw[h5];exact h3)
 ·intro h
  obtain⟨u,rfl,hu,hm⟩:=Zlp h
  have hu2:u<((List.range l.length).filter (Zgc s)).length:=by unfold Zea at hu;rwa [List.length_map] at hu
  have hu3:=List.getElem?_eq_getElem hu2;obtain⟨h4,h5⟩:=hsel u _ hu3;have hmem:=List.getElem_mem hu2;obtain⟨h6,h7⟩:=List.mem_filter.1 hmem;have h6:=List.mem_range.1 h6;refine⟨_,h6,h7,by rw[← h5];exact hm,?_⟩;have h8:=hat _ h6 h7;have hnd:((List.range l.length).filter (Zgc s)).Nodup:=List.nodup_range.sublist List.filter_sublist;have h9:=(List.getElem?_eq_some_iff.1 h8);obtain⟨h10,h11⟩:=h9
  have:u=nbU (((List.range l.length).filter (Zgc s))[u]) s:=by
   have e1:=List.Nodup.idxOf_getElem hnd u hu2;have e2:=List.Nodup.idxOf_getElem hnd _ h10;rw[h11] at e2;exact e1.symm.trans e2
  rw[← this]
theorem Zxv (own:List Int) (x:Int) {k:Nat} {q:Int} (h:own[k]?=some q):(own.take (k+1)).filter (fun q=>q==x)=if (q==x)=true then (own.take k).filter (fun q=>q==x)++[q] else (own.take k).filter (fun q=>q==x):=by
 rw[List.take_add_one,h,List.filter_append];by_cases e:(q==x)=true
 ·rw[if_pos e];simp[e]
 ·rw[if_neg e];simp[e]
def Z1g (us:List Use) (l:List Nat) (s:Nat) (M:List Int) (w1 wr:World) (ob ix nm mcap:Nat) (mi:Option Addr) (qo:Option Addr) (qn qc:Nat) (mo:Option Addr) (mn mc:Nat):Prop:=∃ n cap so,n≤ix∧nbU ix s=n∧Zaf wr ob 26 [.slice qo qn qc,.slice mo mn mc,.slice so n cap]∧OwnK wr (ob+1) 4 n cap ((Znn us l s ix).flatMap Zbx) so∧OwnK wr (ob+1) 1 nm mcap (ivs M) mi∧M.length=nm∧Sep so mi∧ob+1≤wr.heap.size∧Below w1.heap.size w1 wr
theorem Z08 (t:Array Value) (h:t.size=64):∃ f:Nat→Value,t=#[f 0,f 1,f 2,f 3,f 4,f 5,f 6,f 7,f 8,f 9,f 10,f 11,f 12,f 13,f 14,f 15,f 16,f 17,f 18,f 19,f 20,f 21,f 22,f 23,f 24,f 25,f 26,f 27,f 28,f 29,f 30,f 31,f 32,f 33,f 34,f 35,f 36,f 37,f 38,f 39,f 40,f 41,f 42,f 43,f 44,f 45,f 46,f 47,f 48,f 49,f 50,f 51,f 52,f 53,f 54,f 55,f 56,f 57,f 58,f 59,f 60,f 61,f 62,f 63]:=by
 obtain⟨l⟩:=t;have hl:l.length=64:=h
 have e:l=(List.range 64).map (fun i=>l.getD i undef):=by
  apply List.ext_getElem
  ·simp[hl]
  ·intro i h1 h2
   simp[List.getD,h1]
 exact⟨fun i=>l.getD i undef,congrArg List.toArray e⟩
theorem Znp (i:Nat) (h:Zkx 11 i):i=0∨i=1∨i=2∨i=3∨i=4∨i=5∨i=6∨i=7∨i=8∨i=9∨i=10∨i=12:=by unfold Zkx at h;omega
def Zyb (CB OB ix gl ol ln lc li gu ou un uc n cap:Nat) (so:Option Addr) (u0 u1 u2 u3:Int) (i:Nat) (W:World) (v:Value):Prop:=match i with
 | 0=>v = .pointer (some ⟨OB,2,none⟩)
 | 1=>v = .slice so n cap
 | 2=>v = .pointer (some ⟨CB,2,none⟩)
 | 3=>v = .slice (some ⟨gu,ou,none⟩) un uc
 | 4=>v = .slice (some ⟨gl,ol,none⟩) ln lc
 | 5=>v = .int .i64 (ix:Nat)
 | 6=>v = .pointer (some ⟨gl,ol+ix,none⟩)
 | 7=>v = .int .i64 (li:Nat)
 | 8=>v = .pointer (some ⟨gu,ou+li*4,none⟩)
 | 9=>v = .agg #[.int .i64 u0,.int .i64 u1,.int .i64 u2,.int .i64 u3]
 | 10=>∃ V,v = .slice (some ⟨V,0,none⟩) 1 1∧Zaf W V 39 [.int .i64 u0,.int .i64 u1,.int .i64 u2,.int .i64 u3]
 | 11=>True
 | 12=>v = .pointer (some ⟨OB,2,none⟩)
 | _=>True
theorem Zvb (CB OB ix gl ol ln lc li gu ou un uc n cap:Nat) (so:Option Addr) (u0 u1 u2 u3:Int):∀ i w w' v,Zyb CB OB ix gl ol ln lc li gu ou un uc n cap so u0 u1 u2 u3 i w v→Below w.heap.size w w'→Zyb CB OB ix gl ol ln lc li gu ou un uc n cap so u0 u1 u2 u3 i w' v:=by
 intro i w w' v h hb
 match i with
 | 0=>exact h
 | 1=>exact h
 | 2=>exact h
 | 3=>exact h
 | 4=>exact h
 | 5=>exact h
 | 6=>exact h
 | 7=>exact h
 | 8=>exact h
 | 9=>exact h
 | 10=>obtain⟨V,h1,h2⟩:=h;exact⟨V,h1,h2.step hb⟩
 | 11=>trivial
 | 12=>exact h
 | k+13=>trivial
def Z09 (w':World) (cs:List Value) (us:List Use) (l:List Nat) (s ln:Nat) (own:List Int) (e:Ending):Prop:=∃ so cap mo' mcap,e = .returned (.tuple #[.agg (cs.set 2 (.slice so (Zea l s).length cap)).toArray,.slice mo' (Zc8 l s own ln).length mcap])∧Zak Zbx w' so ((Zea l s).map (fun u=>us.getD u ⟨0,0,0,0⟩))∧(Zea l s).length≤cap∧Zak Zbd w' mo' (Zc8 l s own ln)
theorem Zvc (w:World) (c:Crw) (cs:List Value) (l:List Nat) (lo:Option Addr) (lc s:Nat) (own:List Int) (oo:Option Addr) (oc:Nat) (hcw:Zgs w c cs) (hn:c.us.length≤999) (hl:Zak Zbd w lo (l.map Int.ofNat)) (hll:l.length≤11) (hlt:∀ i∈l,i<c.us.length) (hs:s<4096) (hown:Zak Zbd w oo own) (hol:own.length≤1000) :
  Calls Tryz.prog 35 #[.agg cs.toArray,.slice lo l.length lc,.int .i64 (s:Int),.slice oo own.length oc] w fun e w'=>Z09 w' cs c.us l s l.length own e∧Below w.heap.size w w':=by
 have HUF0:=ħ (fun W (hW:Below w.heap.size w W)=>hcw.below hW);have HLW:=ħ (fun W (hW:Below w.heap.size w W)=>hl.below hW);have HNW:=ħ (fun W (hW:Below w.heap.size w W)=>hown.below hW);obtain⟨qo,qc,mo,mc,uo,uc,rfl,-⟩:=hcw;obtain⟨us,hus⟩:∃ l,c.us=l:=⟨_,rfl⟩;have HUG:=ħ (fun W (hW:Below w.heap.size w W)=>(Zya (HUF0.o W hW)).1);rw[hus] at HUG hn hlt ⊢;obtain⟨un,hun⟩:∃ n,us.length=n:=⟨_,rfl⟩;have HUL:Hid (us.length=un):=ħ hun;rw[hun] at hn hlt ⊢;clear hun;generalize c.qs.length=qn at *;generalize c.ms.length=mn at *;clear hus hl hown;have HGT:=ħ (fun k (hk:k<us.length)=>(⟨_,List.getElem?_eq_getElem hk⟩:∃ x,us[k]?=some x));rw[HUL.o] at HGT;have HLT:=ħ hlt;have HSP:=ħ (Zva us l s);have HSL:=ħ (Zxt us l s);have HSA:=ħ (Zxu us l s);have HSG:Hid ((Zea l s).length=nbU l.length s):=ħ (Zlq l s);have HNB:=ħ (fun i=>Zp2 i s);have HPM:Hid (∀ i,Zc8 l s own (i+1)=if Zgc s i=true then Zc8 l s own i++(own.filter (fun q=>q==((l.getD i 0:Nat):Int))).map (fun _=>((nbU i s:Nat):Int)) else Zc8 l s own i):=ħ (fun i=>rfl);have HPL:=ħ (Zji l s own);have HGL:=ħ (fun k (hk:k<l.length)=>(⟨List.getElem?_eq_getElem hk,by rw[List.getD_eq_getElem?_getD,List.getElem?_eq_getElem hk];rfl⟩:l[k]?=some l[k]∧l.getD k 0=l[k]))
 have HLM:Hid (∀ k,k<l.length→(l.map Int.ofNat)[k]?=some (((l.getD k 0:Nat):Int))∧l.getD k 0<un):=ħ (fun k hk=>by
  obtain⟨h1,h2⟩:=HGL.o k hk;rw[List.getElem?_map,h1,h2]
  exact⟨rfl,HLT.o _ (List.getElem_mem hk)⟩)
 have HOG:=ħ (fun k (hk:k<own.length)=>(⟨_,List.getElem?_eq_getElem hk⟩:∃ x,own[k]?=some x));have HOT:=ħ (fun x k q (h:own[k]?=some q)=>Zxv own x h);have HOA:Hid (own.take own.length=own):=ħ List.take_length;clear HGL HLT hlt;obtain⟨ln,hln⟩:∃ n,l.length=n:=⟨_,rfl⟩;obtain⟨on,hon⟩:∃ n,own.length=n:=⟨_,rfl⟩;rw[hln] at HSA HSG HLM hll ⊢;rw[hon] at HOG HOA hol HPL ⊢;clear hln hon;have X1:=ħ (Zaf.new w 26 [.slice qo qn qc,.slice mo mn mc,.slice uo un uc]);have Z1:=ħ (Zaf.new (w.alloc (.cells #[.slice qo qn qc,.slice mo mn mc,.slice uo un uc] 26)) 26 [.slice none 0 0,.slice none 0 0,.slice none 0 0]);have b1:=(Below.refl w.heap.size w).alloc (Nat.le_refl _) (.cells #[.slice qo qn qc,.slice mo mn mc,.slice uo un uc] 26);have b3:=b1.alloc b1.size (.cells #[.slice none 0 0,.slice none 0 0,.slice none 0 0] 26)
 have e1:(w.alloc (.cells #[.slice qo qn qc,.slice mo mn mc,.slice uo un uc] 26)).heap.size=w.heap.size+1:=by rw[World.size_alloc]
 have Z1:Hid (Zaf ((w.alloc (.cells #[.slice qo qn qc,.slice mo mn mc,.slice uo un uc] 26)).alloc (.cells #[.slice none 0 0,.slice none 0 0,.slice none 0 0] 26)) (w.heap.size+1) 26 [.slice none 0 0,.slice none 0 0,.slice none 0 0]):=ħ (by
  have:=Z1.o
  rw[e1] at this;exact this)
 have X1:Hid (Zaf ((w.alloc (.cells #[.slice qo qn qc,.slice mo mn mc,.slice uo un uc] 26)).alloc (.cells #[.slice none 0 0,.slice none 0 0,.slice none 0 0] 26)) w.heap.size 26 [.slice qo qn qc,.slice mo mn mc,.slice uo un uc]):=ħ (X1.o.step ((Below.refl _ _).alloc (Nat.le_refl _) (.cells #[.slice none 0 0,.slice none 0 0,.slice none 0 0] 26)));have B1:=ħ b3;clear b1 b3 e1
 go_enter Tryz.func35,Tryz.ntmps35
 go_upto_region 1 with (fail)
 generalize (w.alloc (.cells #[.slice qo qn qc,.slice mo mn mc,.slice uo un uc] 26)).alloc (.cells #[.slice none 0 0,.slice none 0 0,.slice none 0 0] 26)=w1 at *;have L1:=ħ (Below.refl w1.heap.size w1);have O1:Hid (Zaf (w1.alloc (.cells #[.slice none 0 0,.slice none 0 0,.slice none 0 0] 26)) w1.heap.size 26 [.slice none 0 0,.slice none 0 0,.slice none 0 0]):=ħ (heap_alloc_new w1 _);have BO:=ħ ((Below.refl w1.heap.size w1).alloc (Nat.le_refl _) (.cells #[.slice none 0 0,.slice none 0 0,.slice none 0 0] 26))
 go_upto_region 2 with (first | (refine wpList_load_row rfl 26 (.tmp 4) rfl (w.heap.size) ?xl9 26 #[.slice qo qn qc,.slice mo mn mc,.slice uo un uc] (0,0) _ X1.o Tryz.underlying26 rfl (Zbr _ _ _) ?_;(case xl9=>rfl)) | (refine Zaq rfl 26 (.tmp 10) (.tmp 14) rfl w1.heap.size #[.slice qo qn qc,.slice mo mn mc,.slice uo un uc] (by rfl) (by rfl) 26 _ O1.o (Zbr _ _ _) rfl (by simp[Value.oneCell']) ?_;intro w9 s9 u9;have S9:=ħ s9;have U9:=ħ u9;clear s9 u9))
 have A9:=ħ (U9.o.below BO.o (Nat.le_refl _));have S9:Hid (Zaf w9 w1.heap.size 26 [.slice qo qn qc,.slice mo mn mc,.slice uo un uc]):=ħ S9.o;have X9:=ħ (X1.o.step A9.o);have L9:=ħ (L1.o.trans (A9.o.mono L1.o.size));have Z9:Hid (w1.heap.size<w9.heap.size):=ħ S9.o.lt;clear O1 BO U9;obtain⟨ob,hob⟩:∃ n,w1.heap.size=n:=⟨_,rfl⟩;have HOB:=ħ hob;rw[hob] at S9 Z9 ⊢;have s2:=S9.o.cell 2 _ rfl;have f2:=S9.o.warm 2;have SA:Hid (Zaf (w9.setCell ⟨ob,2,none⟩ (.slice none 0 0)) ob 26 [.slice qo qn qc,.slice mo mn mc,.slice none 0 0]):=ħ (S9.o.set 2 _);have LA:=ħ (A9.o.setCell (p:=⟨ob,2,none⟩) (by show w1.heap.size≤ob;rw[HOB.o];exact Nat.le_refl _) (.slice none 0 0));have KA:Hid (ob+1≤(w9.setCell ⟨ob,2,none⟩ (.slice none 0 0)).heap.size):=ħ SA.o.lt;have HX1:=ħ X1.o.lt;have HZ1:=ħ Z1.o.lt;have HXW:=ħ (fun W (hW:Below w1.heap.size w1 W)=>X1.o.step hW);have HZW:=ħ (fun W (hW:Below w1.heap.size w1 W)=>Z1.o.step hW);have HBW:=ħ (fun W (hW:Below w1.heap.size w1 W)=>B1.o.trans (hW.mono B1.o.size));have HOW:Hid (ob<ob+1):=ħ (Nat.lt_succ_self _);have HWW:Hid (w1.heap.size≤ob+1):=ħ (by rw[HOB.o];omega);have HOO:Hid (w1.heap.size≤ob):=ħ (by rw[HOB.o];exact Nat.le_refl _);have HOE:=HOB;clear hob HOB
 go_upto_region 3 with (fail)
 clear s2 f2 S9 L9 X9 A9 L1 Z9 X1 Z1 B1;generalize w9.setCell ⟨ob,2,none⟩ (.slice none 0 0)=wa at *;have be:=(Below.refl wa.heap.size wa).alloc (Nat.le_refl _) (.cells #[] 3);have SB:=ħ (SA.o.step be);have LB:=ħ (LA.o.trans (be.mono LA.o.size));have MB:=ħ ((OwnK.made wa 3 1).lower KA.o);have KB:Hid (ob+1≤(wa.alloc (.cells #[] 3)).heap.size):=ħ (Nat.le_trans KA.o be.size);clear be SA LA KA
 go_upto_region 5 with (fail)
 generalize wa.heap.size=m0 at *;generalize wa.alloc (.cells #[] 3)=wb at *
 go_loopw [11,12] (fun mv iv wr=>∃ (ix nm mcap:Nat) (mi:Option Addr),mv = .slice mi nm mcap∧iv = .int .i64 ix∧ix≤ln∧nm≤ix*on∧Hid (Z1g us l s (Zc8 l s own ix) w1 wr ob ix nm mcap mi qo qn qc mo mn mc)) (fun _ i _=>(ln-intOf i).toNat)
 case atStart=>exact⟨0,0,0,_,rfl,rfl,by omega,Nat.zero_le _,ħ ⟨0,0,none,Nat.le_refl _,rfl,SB.o,.nil rfl rfl rfl,MB.o,rfl,Sep.none _,KB.o,LB.o⟩⟩
 case round =>
  clear SB LB MB KB;obtain⟨ix,nm,mcap,mi,rfl,rfl,hi,hnm,HRR⟩:=hrel;have e2:IntKind.i64.wrap ((ix:Int)+1)=((ix+1:Nat):Int):=IntWalk.i64_in _ (by omega);by_cases hin:ix<ln
  ·have ii:(ix:Int)<ln:=by omega
   have hsp:=HSP.o ix;have hpm:=HPM.o ix;obtain⟨hlm,hlu⟩:=HLM.o ix hin;obtain⟨sh,hsh⟩:∃ x,s/2^ix=x:=⟨_,rfl⟩
   have eshr:((s:Nat):Int)/2^ix=((sh:Nat):Int):=by rw[← hsh];norm_cast
   have hshl:sh≤s:=by rw[← hsh];exact Nat.div_le_self _ _
   have ebi:bits .and .i64 ((sh:Nat):Int) 1=((sh%2:Nat):Int):=by
    have:=Zky (a:=sh) (b:=1) (by omega) (by omega);rw[Nat.and_one_is_mod] at this;exact this
   have hbit:Zgc s ix=(sh%2==1):=by unfold Zgc;rw[hsh]
   have hbs:=Zln s ix;rw[hbit] at hsp hpm hbs;clear hbit hsh;obtain⟨li,hli⟩:∃ x,l.getD ix 0=x:=⟨_,rfl⟩;rw[hli] at hsp hpm hlm hlu;rcases Nat.mod_two_eq_zero_or_one sh with hb | hb
   ·rw[hb] at ebi hsp hpm hbs
    have HSN:Hid (Znn us l s (ix+1)=Znn us l s ix):=ħ (by rw[hsp];rfl);have HPN:Hid (Zc8 l s own (ix+1)=Zc8 l s own ix):=ħ (by rw[hpm];rfl);have HBN:Hid (nbU (ix+1) s=nbU ix s):=ħ (by rw[hbs];rfl);have ebi:bits .and .i64 ((sh:Nat):Int) 1=0:=ebi;have HNN:Hid (nm≤(ix+1)*on):=ħ (by rw[Nat.succ_mul];omega);clear hsp hpm hbs hli hlm hnm
    go_wp2_with fail
    clear eshr ebi;go_roundw
    case rel=>exact⟨ix+1,nm,mcap,mi,rfl,by go_num,by omega,HNN.o,ħ (by
     obtain⟨n,cap,so,h1,h2,h3,h4,h5,h6⟩:=HRR.o
     exact⟨n,cap,so,by omega,by rw[HBN.o];exact h2,h3,by rw[HSN.o];exact h4,by rw[HPN.o];exact h5,by rw[HPN.o];exact h6.1,h6.2⟩)⟩
    case measure=>simp only[intOf];omega
   ·rw[hb] at ebi hsp hpm hbs
    have HSN:Hid (Znn us l s (ix+1)=Znn us l s ix++[us.getD li ⟨0,0,0,0⟩]):=ħ (by rw[hsp];rfl);have HPN:Hid (Zc8 l s own (ix+1)=Zc8 l s own ix++(own.filter (fun q=>q==((li:Nat):Int))).map (fun _=>((nbU ix s:Nat):Int))):=ħ (by rw[hpm];rfl);have HBN:Hid (nbU (ix+1) s=nbU ix s+1):=ħ (by rw[hbs];rfl);have ebi:bits .and .i64 ((sh:Nat):Int) 1=1:=ebi;have HNM:=ħ hnm;have HON:Hid ((ix+1)*on=ix*on+on):=ħ (Nat.succ_mul ix on);have HIB:Hid (ix*on≤11000):=ħ (Nat.le_trans (Nat.mul_le_mul (show ix≤11 by omega) hol) (by decide));have HLN:=ħ hli;clear hsp hpm hbs hli hnm;obtain⟨MP,hMP⟩:∃ x,Zc8 l s own ix=x:=⟨_,rfl⟩;rw[hMP] at HRR HPN;obtain⟨nb,hnb⟩:∃ x,nbU ix s=x:=⟨_,rfl⟩;rw[hnb] at HPN;have HNBE:=ħ hnb;clear hMP hnb
    go_upto_region 9 with (fail)
    clear eshr ebi;generalize wr=wo at *
    go_loopw [11,13] (fun mv kv wr=>∃ (k nk mcap:Nat) (mi:Option Addr),mv = .slice mi nk mcap∧kv = .int .i64 k∧k≤on∧nk≤nm+k∧Hid (Z1g us l s (MP++((own.take k).filter (fun q=>q==((li:Nat):Int))).map (fun _=>((nb:Nat):Int))) w1 wr ob ix nk mcap mi qo qn qc mo mn mc)) (fun _ k _=>(on-intOf k).toNat)
    case atStart=>exact⟨0,nm,mcap,mi,rfl,rfl,by omega,by omega,ħ (by rw[List.take_zero,List.filter_nil,List.map_nil,List.append_nil];exact HRR.o)⟩
    case round =>
     clear HRR;obtain⟨k,nk,mcap,mi,rfl,rfl,hk,hnk,HRR⟩:=hrel;have e3:IntKind.i64.wrap ((k:Int)+1)=((k+1:Nat):Int):=IntWalk.i64_in _ (by omega);obtain⟨n,cap,so,hnx,hN,hS,hO,hM,hMl,hSep,hK,hL⟩:=HRR.o
     have hnn:nb=n:=by rw[← HNBE.o];exact hN
     subst hnn;have SR:=ħ hS;have OR:=ħ hO;have MR:=ħ hM;have ML:=ħ hMl;have SP:=ħ hSep;have KR:=ħ hK;have LR:=ħ hL;have hLR:=HBW.o wr hL;have HLR:=ħ hLR;clear hN hS hO hM hMl hSep hK hL hLR HRR;by_cases hkn:k<on
     ·have kk:(k:Int)<on:=by omega
      obtain⟨q,hq⟩:=HOG.o k hkn;have hot:=HOT.o ((li:Nat):Int) k q hq;obtain⟨gw,ow,how,hgw,w0⟩:=(HNW.o wr HLR.o).int k q hq;obtain⟨gl,ol,hol2,hgl,l0⟩:=(HLW.o wr HLR.o).int ix _ hlm;have HOWN:=ħ how;have HOL:=ħ hol2;subst how;subst hol2;obtain⟨eb,heb⟩:∃ b,(q==((li:Nat):Int))=b:=⟨_,rfl⟩;rw[heb] at hot;have HOTE:=ħ hot;clear hq hot hgw hgl
      cases eb with
      | false =>
       go_upto_region 11 with (fail)
       go_quiet (fail)
       have B3:=ħ (below_drewN (Below.refl wr.heap.size wr) nq);clear w0 l0;generalize wr.drewN nq=wd at *
       go_wp2_with fail
       go_roundw
       case rel=>exact⟨k+1,nk,mcap,mi,rfl,by go_num,by omega,by omega,ħ (by
        rw[HOTE.o,if_neg (by decide)]
        exact⟨nb,cap,so,hnx,HNBE.o,SR.o.step B3.o,OR.o.below B3.o,MR.o.below B3.o,ML.o,SP.o,Nat.le_trans KR.o B3.o.size,LR.o.trans (B3.o.mono LR.o.size)⟩)⟩
       case measure=>simp only[intOf];omega
      | true =>
       go_upto_region 11 with (fail)
       go_quiet (fail)
       have B3:=ħ (below_drewN (Below.refl wr.heap.size wr) nq);have SD:=ħ (SR.o.step B3.o);have OD:=ħ (OR.o.below B3.o);have MD:=ħ (MR.o.below B3.o);have KD:Hid (ob+1≤(wr.drewN nq).heap.size):=ħ (Nat.le_trans KR.o B3.o.size);have LD:=ħ (LR.o.trans (B3.o.mono LR.o.size));clear w0 l0 B3 SR OR MR KR LR HLR;generalize wr.drewN nq=wd at *;have cc:=SD.o.cell 2 _ rfl;have hib:=HIB.o;have hnm2:=HNM.o
       go_upto_region 10 with (at_builtin;refine Zdm 33 3 (.int .i64 0) 1 8 Tryz.underlying33 Zbl rfl (by omega) (by omega) wd (ob+1) rfl (.tmp 43) (.tmp 47) rfl mi mcap nk (ivs (MP++((own.take k).filter (fun q=>q==((li:Nat):Int))).map (fun _=>((nb:Nat):Int)))) ?q1 MD.o KD.o 1 1 #[.int .i64 ((nb:Nat):Int)] 3 ?q2 rfl (by omega) ?q3 ?q4 ?_;(case q1=>rfl);(case q2=>rfl);(case q3=>simp[Value.oneCell']);(case q4=>omega);intro g4 off4 c4 wm o8 gr8 b8 or8;have MJ:=ħ o8;have on':=Zay gr8;have BC:=ħ (LD.o.trans (b8.mono HWW.o));have hor:=ħ or8;have HB8:=ħ b8;clear o8 gr8 b8 or8)
       have HBM:Hid (∀ x,blk mi=some x→ob+1≤x∧x<wd.heap.size):=ħ (fun x hx=>MD.o.blk_lt hx);have HBS:Hid (∀ x,blk so=some x→x<wd.heap.size):=ħ (fun x hx=>(OD.o.blk_lt hx).2);have SM:=ħ (SD.o.below HB8.o HOW.o);have OM:=ħ (OD.o.of_block (fun g e hl=>on'.block g hl (fun e2=>SP.o g e e2)) on'.size);have KM:Hid (ob+1≤wm.heap.size):=ħ (Nat.le_trans KD.o on'.size);have SPM:Hid (Sep so (some ⟨g4,off4,none⟩)):=ħ ((Sep.new hor.o SP.o.symm (fun x hx=>HBS.o x hx)).symm);clear on' SD OD MD KD LD cc HB8 SP hor HBM HBS hib hnm2
       go_wp2_with fail
       go_roundw
       case rel=>exact⟨k+1,nk+1,c4,_,rfl,by go_num,by omega,by omega,ħ (by
        rw[HOTE.o,if_pos (by trivial),List.map_append,← List.append_assoc]
        exact⟨nb,cap,so,hnx,HNBE.o,SM.o,OM.o,by rw[List.map_singleton,← Zu9];exact MJ.o,by rw[List.length_append,ML.o];rfl,SPM.o,KM.o,BC.o⟩)⟩
       case measure=>simp only[intOf];omega
     ·have kk:¬ (k:Int)<on:=by omega
      obtain rfl:on=k:=by omega
      have HMM:Hid (MP++((own.take on).filter (fun q=>q==((li:Nat):Int))).map (fun _=>((nb:Nat):Int))=Zc8 l s own (ix+1)):=ħ (by rw[HPN.o,HOA.o]);rw[HMM.o] at MR ML;have XR:=ħ (HXW.o wr LR.o);obtain⟨x,hx⟩:=HGT.o li hlu;obtain⟨gl,ol,hol2,hgl,l0⟩:=(HLW.o wr HLR.o).int ix _ hlm;obtain⟨gu,ou,huo,hgu,hcu⟩:=(HUG.o wr HLR.o).at Za7 li x hx;have HXE:Hid (us.getD li ⟨0,0,0,0⟩=x):=ħ (by rw[List.getD_eq_getElem?_getD,hx];rfl);have HUC:=ħ (fun W (hW:Below wr.heap.size wr W)=>(⟨(hW.cell (p:=⟨gu,ou+li*4,none⟩) hgu).trans (hcu 0 _ rfl),(hW.cell (p:=⟨gu,ou+li*4+1,none⟩) hgu).trans (hcu 1 _ rfl),(hW.cell (p:=⟨gu,ou+li*4+2,none⟩) hgu).trans (hcu 2 _ rfl),(hW.cell (p:=⟨gu,ou+li*4+3,none⟩) hgu).trans (hcu 3 _ rfl)⟩:W.cell? ⟨gu,ou+li*4,none⟩=some (.int .i64 x.q)∧W.cell? ⟨gu,ou+li*4+1,none⟩=some (.int .i64 x.w)∧W.cell? ⟨gu,ou+li*4+2,none⟩=some (.int .i64 x.f)∧W.cell? ⟨gu,ou+li*4+3,none⟩=some (.int .i64 x.h)));have HLI:=ħ (fun W (hW:Below wr.heap.size wr W)=>(hW.cell (p:=⟨gl,ol+ix,none⟩) hgl).trans l0);have HUO:=ħ huo;have HLU:Hid ((li:Int)<un):=ħ (by omega);have HII:=ħ ii;have HOL:=ħ hol2;subst hol2;obtain⟨u0,u1,u2,u3⟩:=x;have HCB:=ħ (fun W (hW:Below wr.heap.size wr W)=>XR.o.step hW);have HOB:=ħ (fun W (hW:Below wr.heap.size wr W)=>SR.o.step hW);have HNN:Hid (nk≤(ix+1)*on):=ħ (by rw[HON.o];have:=HNM.o;omega);clear hx huo hgu hcu hgl l0 HMM XR HLR
      go_upto_region 13 with (fail)
      clear kk;refine Zjo 11 (Zyb (w.heap.size) ob ix gl ol ln lc li gu ou un uc nb cap so u0 u1 u2 u3) (by kernel_rfl) rfl (Zvb (w.heap.size) ob ix gl ol ln lc li gu ou un uc nb cap so u0 u1 u2 u3) (Zvr (by kernel_rfl)) (Zyg (by kernel_rfl)) (Zbm (by kernel_rfl)) (Zo2 (by kernel_rfl)) (Zo2 (by kernel_rfl)) ?hs ?hA ?hB
      case hs =>
       intro i o hin hi listed a' w' H hsn hl2;have hl3:=Zau hl2;have hb:=ħ H.below;have s1:=hsn 1 (Zfv (by kernel_rfl));have s4:=hsn 4 (Zfv (by kernel_rfl));have s10:=hsn 10 (Zfv (by kernel_rfl));have s12:=hsn 12 (Zfv (by kernel_rfl));have hdn:=H.done;have hdf:=H.defers;have hts:=H.tsize;clear hl2 H hsn;obtain⟨t',df⟩:=a';obtain⟨f',rfl⟩:=Z08 t' hts;have hdf':df=[]:=hdf;subst hdf';have gs1:f' 1 = .slice (some ⟨gl,ol,none⟩) ln lc:=s1;have gs4:f' 4 = .pointer (some ⟨w.heap.size,0,none⟩):=s4;have gs10:f' 10 = .pointer (some ⟨ob,0,none⟩):=s10;have gs12:f' 12 = .int .i64 (ix:Nat):=s12;clear s1 s4 s10 s12;clear hdf hts;have hcases:=Znp i hin;clear hin;rcases hcases with rfl | rfl | rfl | rfl | rfl | rfl | rfl | rfl | rfl | rfl | rfl | rfl
       ·obtain rfl:=Option.some.inj hi
        clear hdn hl3;rw[gs10];clear gs1 gs4 gs10 gs12;refine Zab rfl ?_
        go_wp2_with fail
        exact Zaa ⟨_,rfl,Below.refl _ _,rfl⟩
       ·obtain rfl:=Option.some.inj hi
        have dv0:f' 49 = .pointer (some ⟨ob,2,none⟩):=hdn 0 _ 49 rfl (hl3 0 (by rfl)) rfl;clear hdn hl3;rw[dv0];clear dv0 gs1 gs4 gs10 gs12;have cc:=(HOB.o w' hb.o).cell 2 _ rfl;refine Zab rfl ?_
        go_wp2_with fail
        exact Zaa ⟨_,rfl,Below.refl _ _,rfl⟩
       ·obtain rfl:=Option.some.inj hi
        clear hdn hl3;rw[gs4];clear gs1 gs4 gs10 gs12;refine Zab rfl ?_
        go_wp2_with fail
        exact Zaa ⟨_,rfl,Below.refl _ _,rfl⟩
       ·obtain rfl:=Option.some.inj hi
        have dv2:f' 51 = .pointer (some ⟨w.heap.size,2,none⟩):=hdn 2 _ 51 rfl (hl3 2 (by rfl)) rfl;clear hdn hl3;rw[dv2];clear dv2 gs1 gs4 gs10 gs12;have cc:=(HCB.o w' hb.o).cell 2 _ rfl;rw[HUO.o] at cc;refine Zab rfl ?_
        go_wp2_with fail
        exact Zaa ⟨_,rfl,Below.refl _ _,rfl⟩
       ·obtain rfl:=Option.some.inj hi
        clear hdn hl3;rw[gs1];clear gs1 gs4 gs10 gs12;refine Zab rfl ?_
        go_wp2_with fail
        exact Zaa ⟨_,rfl,Below.refl _ _,rfl⟩
       ·obtain rfl:=Option.some.inj hi
        clear hdn hl3;rw[gs12];clear gs1 gs4 gs10 gs12;refine Zab rfl ?_
        go_wp2_with fail
        exact Zaa ⟨_,rfl,Below.refl _ _,rfl⟩
       ·obtain rfl:=Option.some.inj hi
        have dv4:f' 53 = .slice (some ⟨gl,ol,none⟩) ln lc:=hdn 4 _ 53 rfl (hl3 4 (by rfl)) rfl;have dv5:f' 54 = .int .i64 (ix:Nat):=hdn 5 _ 54 rfl (hl3 5 (by rfl)) rfl;clear hdn hl3;rw[dv4,dv5];clear dv4 dv5 gs1 gs4 gs10 gs12;have ii:=HII.o;refine Zab rfl ?_
        go_wp2_with fail
        exact Zaa ⟨_,rfl,Below.refl _ _,rfl⟩
       ·obtain rfl:=Option.some.inj hi
        have dv6:f' 55 = .pointer (some ⟨gl,ol+ix,none⟩):=hdn 6 _ 55 rfl (hl3 6 (by rfl)) rfl;clear hdn hl3;rw[dv6];clear dv6 gs1 gs4 gs10 gs12;have rr:=HLI.o w' hb.o;refine Zab rfl ?_
        go_wp2_with fail
        exact Zaa ⟨_,rfl,Below.refl _ _,rfl⟩
       ·obtain rfl:=Option.some.inj hi
        have dv3:f' 52 = .slice (some ⟨gu,ou,none⟩) un uc:=hdn 3 _ 52 rfl (hl3 3 (by rfl)) rfl;have dv7:f' 56 = .int .i64 (li:Nat):=hdn 7 _ 56 rfl (hl3 7 (by rfl)) rfl;clear hdn hl3;rw[dv3,dv7];clear dv3 dv7 gs1 gs4 gs10 gs12;have ll:=HLU.o;refine Zab rfl ?_
        go_wp2_with fail
        exact Zaa ⟨_,rfl,Below.refl _ _,rfl⟩
       ·obtain rfl:=Option.some.inj hi
        have dv8:f' 57 = .pointer (some ⟨gu,ou+li*4,none⟩):=hdn 8 _ 57 rfl (hl3 8 (by rfl)) rfl;clear hdn hl3;rw[dv8];clear dv8 gs1 gs4 gs10 gs12;have y0:=(HUC.o w' hb.o).1;have y1:=(HUC.o w' hb.o).2.1;have y2:=(HUC.o w' hb.o).2.2.1;have y3:=(HUC.o w' hb.o).2.2.2;refine Zab rfl ?_
        go_wp2_with fail
        exact Zaa ⟨_,rfl,Below.refl _ _,rfl⟩
       ·obtain rfl:=Option.some.inj hi
        have dv9:f' 58 = .agg #[.int .i64 u0,.int .i64 u1,.int .i64 u2,.int .i64 u3]:=hdn 9 _ 58 rfl (hl3 9 (by rfl)) rfl;clear hdn hl3;rw[dv9];clear dv9 gs1 gs4 gs10 gs12;have bx:=(Below.refl w'.heap.size w').alloc (Nat.le_refl _) (.cells #[.int .i64 u0,.int .i64 u1,.int .i64 u2,.int .i64 u3] 39);have HV:Hid (Zaf (w'.alloc (.cells #[.int .i64 u0,.int .i64 u1,.int .i64 u2,.int .i64 u3] 39)) w'.heap.size 39 [.int .i64 u0,.int .i64 u1,.int .i64 u2,.int .i64 u3]):=ħ (heap_alloc_new _ _);have BX:=ħ bx;clear bx;refine Zab rfl ?_
        go_wp2_with fail
        exact Zaa ⟨_,rfl,BX.o,w'.heap.size,rfl,HV.o⟩
       ·obtain rfl:=Option.some.inj hi
        clear hdn hl3;rw[gs10];clear gs1 gs4 gs10 gs12;refine Zab rfl ?_
        go_wp2_with fail
        exact Zaa ⟨_,rfl,Below.refl _ _,rfl⟩
      case hA =>
       intro listed a' w4 H hsn hall hstr;have hd1:Zyb (w.heap.size) ob ix gl ol ln lc li gu ou un uc nb cap so u0 u1 u2 u3 1 w4 (a'.tmps.getD 50 undef):=H.done 1 _ 50 rfl (hall 1 (by decide)) rfl;have hd10:Zyb (w.heap.size) ob ix gl ol ln lc li gu ou un uc nb cap so u0 u1 u2 u3 10 w4 (a'.tmps.getD 59 undef):=H.done 10 _ 59 rfl (hall 10 (by decide)) rfl;have hd12:Zyb (w.heap.size) ob ix gl ol ln lc li gu ou un uc nb cap so u0 u1 u2 u3 12 w4 (a'.tmps.getD 61 undef):=H.done 12 _ 61 rfl hstr rfl;have hb4:=ħ H.below;have hact:=H.actX hsn [49,50,51,52,53,54,55,56,57,58,59,61] (Zr3 (by kernel_rfl));clear H hall hsn hstr;simp only[List.foldl_cons,List.foldl_nil] at hact;generalize a'.tmps.getD 49 undef=z49 at *;generalize a'.tmps.getD 50 undef=z50 at *;generalize a'.tmps.getD 51 undef=z51 at *;generalize a'.tmps.getD 52 undef=z52 at *;generalize a'.tmps.getD 53 undef=z53 at *;generalize a'.tmps.getD 54 undef=z54 at *;generalize a'.tmps.getD 55 undef=z55 at *;generalize a'.tmps.getD 56 undef=z56 at *;generalize a'.tmps.getD 57 undef=z57 at *;generalize a'.tmps.getD 58 undef=z58 at *;generalize a'.tmps.getD 59 undef=z59 at *;generalize a'.tmps.getD 61 undef=z61 at *;subst hact;have e1:z50 = .slice so nb cap:=hd1;subst e1;clear hd1;obtain⟨V,e10,hV⟩:=hd10;subst e10;have e12:z61 = .pointer (some ⟨ob,2,none⟩):=hd12;subst e12;clear hd12;simp only[Act.put,List.setIfInBounds_toArray,List.set_cons_succ,List.set_cons_zero];have HV:=ħ hV;have S4:=ħ (SR.o.step hb4.o);have O4:=ħ (OR.o.below hb4.o);have M4:=ħ (MR.o.below hb4.o);have L4:=ħ (LR.o.trans (hb4.o.mono LR.o.size));have K4:Hid (ob+1≤w4.heap.size):=ħ (Nat.le_trans KR.o hb4.o.size);have HBM:Hid (∀ x,blk mi=some x→ob+1≤x∧x<w4.heap.size):=ħ (fun x hx=>M4.o.blk_lt hx);clear hV hb4 HOB HCB HUC SR OR LR MR KR HLI;refine (Zab rfl ?_);refine Zz6 24 39 (.agg #[.int .i64 0,.int .i64 0,.int .i64 0,.int .i64 0]) 4 32 Tryz.underlying24 Zet rfl (by omega) (by omega) w4 (ob+1) rfl (.tmp 50) (.tmp 59) rfl so cap nb ((Znn us l s ix).flatMap Zbx) ?r1A O4.o K4.o V 0 1 1 [.int .i64 u0,.int .i64 u1,.int .i64 u2,.int .i64 u3] ?r2A rfl (by omega) ?r5A ?r3A (by omega) ?_
       case r1A=>rfl
       case r2A=>rfl
       case r5A=>exact fun j u hj=>by rw[Nat.zero_add];exact HV.o.cell j u hj
       case r3A=>simp[Value.oneCell']
       intro g6 off6 c6 wq o6 gr6 or6;have on6:=Zay gr6
       have b6:Below (ob+1) w4 wq:=⟨gr6.os,gr6.tape,gr6.output,gr6.size,fun i hi=>gr6.block i (Nat.lt_of_lt_of_le hi K4.o) (fun e=>by
        have:=(O4.o.blk_lt e.symm).1
        omega)⟩
       have O6:Hid (OwnK wq (ob+1) 4 (nb+1) c6 ((Znn us l s (ix+1)).flatMap Zbx) (some ⟨g6,off6,none⟩)):=ħ (by rw[HSN.o,HXE.o,List.flatMap_append];exact o6);have M6:=ħ (M4.o.of_block (fun g e hl=>on6.block g hl (fun e2=>SP.o g e2 e)) on6.size);have SP6:Hid (Sep (some ⟨g6,off6,none⟩) mi):=ħ (Sep.new or6 SP.o (fun x hx=>(HBM.o x hx).2));have S6:=ħ (S4.o.below b6 HOW.o);have L6:=ħ (L4.o.trans (b6.mono HWW.o));have HG6:Hid (ob+1≤g6):=ħ (O6.o.blk_lt rfl).1;clear o6 gr6 or6 on6 b6 S4 L4 O4 M4 HV K4;have c8:=S6.o.cell 2 _ rfl;have f8:=S6.o.warm 2;have SZ:Hid (Zaf (wq.setCell ⟨ob,2,none⟩ (.slice (some ⟨g6,off6,none⟩) (nb+1) c6)) ob 26 [.slice qo qn qc,.slice mo mn mc,.slice (some ⟨g6,off6,none⟩) (nb+1) c6]):=ħ (S6.o.set 2 _)
       have OZ:=ħ (O6.o.setCell (p:=⟨ob,2,none⟩) (.slice (some ⟨g6,off6,none⟩) (nb+1) c6) (fun e=>by
        have e:g6=ob:=Option.some.inj e;have:=HG6.o
        omega))
       have MZ:=ħ (M6.o.setCell (p:=⟨ob,2,none⟩) (.slice (some ⟨g6,off6,none⟩) (nb+1) c6) (fun e=>by
        have:=(HBM.o ob e).1
        omega))
       have LZ:=ħ (L6.o.setCell (p:=⟨ob,2,none⟩) HOO.o (.slice (some ⟨g6,off6,none⟩) (nb+1) c6));have KZ:Hid (ob+1≤(wq.setCell ⟨ob,2,none⟩ (.slice (some ⟨g6,off6,none⟩) (nb+1) c6)).heap.size):=ħ (Nat.le_trans HG6.o (Nat.le_of_lt (OZ.o.blk_lt rfl).2));clear S6 O6 L6 M6
       go_wp2_with fail
       refine Zaa (Zat (Zab rfl ?_))
       go_wp2_with fail
       refine Zaa (Zb9 ?_);clear c8 f8;generalize wq.setCell ⟨ob,2,none⟩ (.slice (some ⟨g6,off6,none⟩) (nb+1) c6)=wz at *
       go_wp2_with fail
       go_roundw
       case rel=>exact⟨ix+1,nk,mcap,mi,rfl,by go_num,by omega,HNN.o,ħ ⟨nb+1,c6,some ⟨g6,off6,none⟩,by omega,by rw[HBN.o,HNBE.o],SZ.o,OZ.o,MZ.o,ML.o,SP6.o,KZ.o,LZ.o⟩⟩
       case measure=>simp only[intOf];omega
      case hB =>
       intro listed a' w4 H hsn hall;have hd1:Zyb (w.heap.size) ob ix gl ol ln lc li gu ou un uc nb cap so u0 u1 u2 u3 1 w4 (a'.tmps.getD 50 undef):=H.done 1 _ 50 rfl (hall 1 (by decide)) rfl;have hd10:Zyb (w.heap.size) ob ix gl ol ln lc li gu ou un uc nb cap so u0 u1 u2 u3 10 w4 (a'.tmps.getD 59 undef):=H.done 10 _ 59 rfl (hall 10 (by decide)) rfl;have hb4:=ħ H.below;have hact:=H.actX hsn [49,50,51,52,53,54,55,56,57,58,59,61] (Zr3 (by kernel_rfl));clear H hall hsn;simp only[List.foldl_cons,List.foldl_nil] at hact;generalize a'.tmps.getD 49 undef=z49 at *;generalize a'.tmps.getD 50 undef=z50 at *;generalize a'.tmps.getD 51 undef=z51 at *;generalize a'.tmps.getD 52 undef=z52 at *;generalize a'.tmps.getD 53 undef=z53 at *;generalize a'.tmps.getD 54 undef=z54 at *;generalize a'.tmps.getD 55 undef=z55 at *;generalize a'.tmps.getD 56 undef=z56 at *;generalize a'.tmps.getD 57 undef=z57 at *;generalize a'.tmps.getD 58 undef=z58 at *;generalize a'.tmps.getD 59 undef=z59 at *;generalize a'.tmps.getD 61 undef=z61 at *;subst hact;have e1:z50 = .slice so nb cap:=hd1;subst e1;clear hd1;obtain⟨V,e10,hV⟩:=hd10;subst e10;simp only[Act.put,List.setIfInBounds_toArray,List.set_cons_succ,List.set_cons_zero];have HV:=ħ hV;have S4:=ħ (SR.o.step hb4.o);have O4:=ħ (OR.o.below hb4.o);have M4:=ħ (MR.o.below hb4.o);have L4:=ħ (LR.o.trans (hb4.o.mono LR.o.size));have K4:Hid (ob+1≤w4.heap.size):=ħ (Nat.le_trans KR.o hb4.o.size);have HBM:Hid (∀ x,blk mi=some x→ob+1≤x∧x<w4.heap.size):=ħ (fun x hx=>M4.o.blk_lt hx);clear hV hb4 HOB HCB HUC SR OR LR MR KR HLI;refine Zat (Zab rfl ?_);refine Zz6 24 39 (.agg #[.int .i64 0,.int .i64 0,.int .i64 0,.int .i64 0]) 4 32 Tryz.underlying24 Zet rfl (by omega) (by omega) w4 (ob+1) rfl (.tmp 50) (.tmp 59) rfl so cap nb ((Znn us l s ix).flatMap Zbx) ?r1B O4.o K4.o V 0 1 1 [.int .i64 u0,.int .i64 u1,.int .i64 u2,.int .i64 u3] ?r2B rfl (by omega) ?r5B ?r3B (by omega) ?_
       case r1B=>rfl
       case r2B=>rfl
       case r5B=>exact fun j u hj=>by rw[Nat.zero_add];exact HV.o.cell j u hj
       case r3B=>simp[Value.oneCell']
       intro g6 off6 c6 wq o6 gr6 or6;have on6:=Zay gr6
       have b6:Below (ob+1) w4 wq:=⟨gr6.os,gr6.tape,gr6.output,gr6.size,fun i hi=>gr6.block i (Nat.lt_of_lt_of_le hi K4.o) (fun e=>by
        have:=(O4.o.blk_lt e.symm).1
        omega)⟩
       have O6:Hid (OwnK wq (ob+1) 4 (nb+1) c6 ((Znn us l s (ix+1)).flatMap Zbx) (some ⟨g6,off6,none⟩)):=ħ (by rw[HSN.o,HXE.o,List.flatMap_append];exact o6);have M6:=ħ (M4.o.of_block (fun g e hl=>on6.block g hl (fun e2=>SP.o g e2 e)) on6.size);have SP6:Hid (Sep (some ⟨g6,off6,none⟩) mi):=ħ (Sep.new or6 SP.o (fun x hx=>(HBM.o x hx).2));have S6:=ħ (S4.o.below b6 HOW.o);have L6:=ħ (L4.o.trans (b6.mono HWW.o));have HG6:Hid (ob+1≤g6):=ħ (O6.o.blk_lt rfl).1;clear o6 gr6 or6 on6 b6 S4 L4 O4 M4 HV K4;have c8:=S6.o.cell 2 _ rfl;have f8:=S6.o.warm 2;have SZ:Hid (Zaf (wq.setCell ⟨ob,2,none⟩ (.slice (some ⟨g6,off6,none⟩) (nb+1) c6)) ob 26 [.slice qo qn qc,.slice mo mn mc,.slice (some ⟨g6,off6,none⟩) (nb+1) c6]):=ħ (S6.o.set 2 _)
       have OZ:=ħ (O6.o.setCell (p:=⟨ob,2,none⟩) (.slice (some ⟨g6,off6,none⟩) (nb+1) c6) (fun e=>by
        have e:g6=ob:=Option.some.inj e;have:=HG6.o
        omega))
       have MZ:=ħ (M6.o.setCell (p:=⟨ob,2,none⟩) (.slice (some ⟨g6,off6,none⟩) (nb+1) c6) (fun e=>by
        have:=(HBM.o ob e).1
        omega))
       have LZ:=ħ (L6.o.setCell (p:=⟨ob,2,none⟩) HOO.o (.slice (some ⟨g6,off6,none⟩) (nb+1) c6));have KZ:Hid (ob+1≤(wq.setCell ⟨ob,2,none⟩ (.slice (some ⟨g6,off6,none⟩) (nb+1) c6)).heap.size):=ħ (Nat.le_trans HG6.o (Nat.le_of_lt (OZ.o.blk_lt rfl).2));clear S6 O6 L6 M6
       go_wp2_with fail
       refine Zaa (Zat (Zab rfl ?_))
       go_wp2_with fail
       refine Zaa (Zat (Zab rfl ?_))
       go_wp2_with fail
       refine Zaa (Zb9 ?_);clear c8 f8;generalize wq.setCell ⟨ob,2,none⟩ (.slice (some ⟨g6,off6,none⟩) (nb+1) c6)=wz at *
       go_wp2_with fail
       go_roundw
       case rel=>exact⟨ix+1,nk,mcap,mi,rfl,by go_num,by omega,HNN.o,ħ ⟨nb+1,c6,some ⟨g6,off6,none⟩,by omega,by rw[HBN.o,HNBE.o],SZ.o,OZ.o,MZ.o,ML.o,SP6.o,KZ.o,LZ.o⟩⟩
       case measure=>simp only[intOf];omega
  ·have ii:¬ (ix:Int)<ln:=by omega
   obtain rfl:ln=ix:=by omega
   obtain⟨n,cap,so,hnx,hN,hS,hO,hM,hMl,hSep,hK,hL⟩:=HRR.o;have SR:=ħ hS;have OR:=ħ hO;have MR:=ħ hM;have LR:=ħ hL;have ML:=ħ hMl;have ZR:=ħ (HZW.o wr hL);have HNS:Hid ((Zea l s).length=n):=ħ (by rw[HSG.o,hN]);clear HRR hS hO hM hMl hSep hK hL hN
   go_wp2_with (first | (refine wpList_load_row rfl 26 (.tmp 10) rfl (ob) ?yy1 26 #[.slice qo qn qc,.slice mo mn mc,.slice so n cap] (0,0) _ SR.o Tryz.underlying26 rfl (Zbr _ _ _) ?_;(case yy1=>rfl)) | (refine Zaq rfl 26 (.tmp 8) (.tmp 62) rfl (w.heap.size+1) #[.slice qo qn qc,.slice mo mn mc,.slice so n cap] (by rfl) (by rfl) 26 _ ZR.o (Zbr _ _ _) rfl (by simp[Value.oneCell']) ?_;intro w11 s11 u11;have S11:=ħ s11;have U11:=ħ u11;clear s11 u11))
   have F1:Hid (Zak Zbx w11 so ((Zea l s).map (fun u=>us.getD u ⟨0,0,0,0⟩))):=ħ (by
    rw[← HSA.o]
    exact ((OR.o.upd U11.o (fun e=>by
     have h1:=(OR.o.blk_lt e).1;have h2:=HZ1.o;have h3:=HOE.o
     omega)).flatR Za7 (by rw[HSL.o,← HSG.o,HNS.o])))
   have F2:Hid (Zak Zbd w11 mi (Zc8 l s own ln)):=ħ (by
    have:=(MR.o.upd U11.o (fun e=>by
     have h1:=(MR.o.blk_lt e).1;have h2:=HZ1.o;have h3:=HOE.o
     omega))
    rw[Zc5] at this
    exact this.flatR Zbe ML.o.symm)
   refine bodyPost_ret (Ze7 (p:=8) (u:=9) (by kernel_rfl) _ _ (w.heap.size+1) 26 #[.slice qo qn qc,.slice mo mn mc,.slice so n cap] (0,0) _ rfl S11.o Tryz.underlying26 rfl (Zbr _ _ _)) rfl ⟨by
    unfold Z09;refine⟨so,cap,mi,mcap,?_,F1.o,by rw[HNS.o];exact OR.o.len_le.1,F2.o⟩
    rw[HNS.o,ML.o];rfl,U11.o.below (HBW.o wr LR.o) (by omega)⟩
end
section
open Go.RowKit Go.Sort Go.Maps
theorem Zzo (gi:Nat) (r:List Nat):Znj [((gi:Nat):Int)] (r.map Int.ofNat)=r.contains gi:=by
 rw[Bool.eq_iff_iff,Zuy,List.contains_iff_mem];constructor
 ·intro h
  obtain⟨y,hy,e⟩:=List.mem_map.1 (h _ List.mem_cons_self);have e:y=gi:=Int.ofNat.inj e;rw[← e];exact hy
 ·intro h x hx
  obtain rfl:=List.mem_singleton.1 hx;exact List.mem_map.2 ⟨gi,h,rfl⟩
theorem Zxw {c:Crw} {own:List Int} {x:Use} {l:List Wsh} (h:(Zb0 c x&&Zlk c own)=false):Zf9 c own x l=([],1)∧Zhu c own x l=false:=by
 unfold Zf9 Zhu;rw[h,if_neg (by simp),Bool.false_and];exact⟨rfl,rfl⟩
theorem Zlt (w:World) (c:Crw) (cs:List Value) (B:Nat) (own:List Int) (oo:Option Addr) (oc:Nat) (x:Use) (l:List Wsh) (lo:Option Addr) (lc:Nat) (hcw:Zgs w c cs) (hG:Tab w B) (hL:LenC c) (hby:∀ p∈c.qs,ByL p) (hnm:∀ m∈c.ms,∀ b∈m.b,NmL b.n) (hown:Zak Zbd w oo own) (hol:own.length≤9223372036854775807) (hl:Zak Zpy w lo l) (hll:l.length≤9223372036854775807) :
  Calls Tryz.prog 7 #[.agg cs.toArray,.slice oo own.length oc,.agg (Zbx x).toArray,.slice lo l.length lc] w fun e w'=>e = .returned (.bool true)∧Below w.heap.size w w':=by
 have HOW:=ħ (fun W (hW:Below w.heap.size w W)=>hown.below hW);have HLW:=ħ (fun W (hW:Below w.heap.size w W)=>hl.below hW);have HVC:=ħ (fun W (hc:Zgs W c cs) (hT:Tab W B) (hok:CrwOk c)=>Zkc W c cs hc B hT hok);have HTB:=ħ (fun W (hW:Below w.heap.size w W)=>Zbk.step (w:=w) hG hW);have HCW:=ħ (fun W (hW:Below w.heap.size w W)=>hcw.below hW);have HFK:=ħ (fun hf=>Zzk (c:=c) hf hL hby hnm);have HFW:=ħ (fun W (hW:Below w.heap.size w W)=>Zxn W c cs (hcw.below hW) hL);have hun:=hL.nu;have hmn:=hL.nm;have hqn:=hL.nq;obtain⟨qo,qc,mo,mc,uo,uc,rfl,-⟩:=hcw;clear hL hby hnm hG hown hl;generalize hqe:c.qs.length=qn at *;generalize hme:c.ms.length=mn at *;generalize hue:c.us.length=un at *;have HUE:=ħ hue;have HME:=ħ hme;have HQE:=ħ hqe;clear hue hme hqe;obtain⟨x0,x1,x2,x3⟩:=x;have X1:=ħ (Zaf.new w 26 [.slice qo qn qc,.slice mo mn mc,.slice uo un uc]);have Y1:=ħ (Zaf.new (w.alloc (.cells #[.slice qo qn qc,.slice mo mn mc,.slice uo un uc] 26)) 39 [.int .i64 x0,.int .i64 x1,.int .i64 x2,.int .i64 x3]);have b1:=(Below.refl w.heap.size w).alloc (Nat.le_refl _) (.cells #[.slice qo qn qc,.slice mo mn mc,.slice uo un uc] 26);have b2:=b1.alloc b1.size (.cells #[.int .i64 x0,.int .i64 x1,.int .i64 x2,.int .i64 x3] 39)
 have e1:(w.alloc (.cells #[.slice qo qn qc,.slice mo mn mc,.slice uo un uc] 26)).heap.size=w.heap.size+1:=by rw[World.size_alloc]
 have Y1:Hid (Zaf ((w.alloc (.cells #[.slice qo qn qc,.slice mo mn mc,.slice uo un uc] 26)).alloc (.cells #[.int .i64 x0,.int .i64 x1,.int .i64 x2,.int .i64 x3] 39)) (w.heap.size+1) 39 [.int .i64 x0,.int .i64 x1,.int .i64 x2,.int .i64 x3]):=ħ (by have:=Y1.o;rw[e1] at this;exact this);have X1:Hid (Zaf ((w.alloc (.cells #[.slice qo qn qc,.slice mo mn mc,.slice uo un uc] 26)).alloc (.cells #[.int .i64 x0,.int .i64 x1,.int .i64 x2,.int .i64 x3] 39)) w.heap.size 26 [.slice qo qn qc,.slice mo mn mc,.slice uo un uc]):=ħ (X1.o.step ((Below.refl _ _).alloc (Nat.le_refl _) (.cells #[.int .i64 x0,.int .i64 x1,.int .i64 x2,.int .i64 x3] 39)));have B1:=ħ b2;clear b1 b2 e1;change Calls Tryz.prog 7 #[.agg #[.slice qo qn qc,.slice mo mn mc,.slice uo un uc],.slice oo own.length oc,.agg #[.int .i64 x0,.int .i64 x1,.int .i64 x2,.int .i64 x3],.slice lo l.length lc] w _
 go_enter Tryz.func7,Tryz.ntmps7
 go_upto_region 1 with (fail)
 generalize (w.alloc (.cells #[.slice qo qn qc,.slice mo mn mc,.slice uo un uc] 26)).alloc (.cells #[.int .i64 x0,.int .i64 x1,.int .i64 x2,.int .i64 x3] 39)=w1 at *
 go_wp2_with fail
 refine (Zum w1 B (HTB.o w1 B1.o)).mono ?_;rintro e w2 ⟨rfl,b2⟩;have X2:=ħ (X1.o.step b2);have Y2:=ħ (Y1.o.step b2);have B2:=ħ (B1.o.trans (b2.mono B1.o.size));clear b2 X1 B1 Y1
 go_upto_region 2 with (fail)
 go_wp2_with (refine wpList_load_row rfl 26 (.tmp 4) rfl (w.heap.size) ?x1 26 #[.slice qo qn qc,.slice mo mn mc,.slice uo un uc] (0,0) _ X2.o Tryz.underlying26 rfl (Zbr _ _ _) ?_;(case x1=>rfl))
 refine (HFW.o w2 B2.o).mono ?_;rintro e w3 ⟨rfl,b3⟩;have X3:=ħ (X2.o.step b3);have Y3:=ħ (Y2.o.step b3);have B3:=ħ (B2.o.trans (b3.mono B2.o.size));clear b3 X2 B2 HFW Y2;obtain⟨V,hV⟩:∃ V,Z0h c=V:=⟨_,rfl⟩;rw[hV];have HV:=ħ hV;clear hV
 cases V with
 | false =>
  go_wp2_with fail
  go_ret;exact⟨rfl,B3.o⟩
 | true =>
  obtain⟨hok,h999,h65,h129⟩:=HFK.o HV.o;have HOK:=ħ hok;clear hok;have HAG:=ħ (fun W (hW:Below w.heap.size w W)=>(⟨HCW.o W hW,HTB.o W hW,HOK.o,by rw[HUE.o];exact h999⟩:ArgC W c [.slice qo qn qc,.slice mo mn mc,.slice uo un uc] B));clear HFK HTB HCW HOK;have HVC:=ħ (fun W (hW:Below w.heap.size w W)=>HVC.o W (HAG.o W hW).crw (HAG.o W hW).tab (HAG.o W hW).ok)
  go_wp2_with (refine Za1 (by rfl) 26 (.tmp 4) rfl (w.heap.size) ?x2 26 #[.slice qo qn qc,.slice mo mn mc,.slice uo un uc] (0,0) _ X3.o Tryz.underlying26 rfl (Zbr _ _ _) ?_;(case x2=>rfl))
  refine (HVC.o w3 B3.o).mono ?_;rintro e w4 ⟨rfl,b4⟩;have X4:=ħ (X3.o.step b4);have Y4:=ħ (Y3.o.step b4);have B4:=ħ (B3.o.trans (b4.mono B3.o.size));clear b4 X3 B3 HVC Y3;obtain⟨vv,hvv⟩:∃ x,Zam c=x:=⟨_,rfl⟩;rw[hvv]
  cases vv with
  | false =>
   go_wp2_with fail
   go_ret;exact⟨rfl,B4.o⟩
  | true =>
  have HVV:=ħ hvv;clear hvv;have c2:=X4.o.cell 2 _ rfl;have c1:=X4.o.cell 1 _ rfl;by_cases h1:(5:Int)<(un:Int)
  ·go_wp2_with fail
   go_ret;exact⟨rfl,B4.o⟩
  by_cases h2:(5:Int)<(mn:Int)
  ·go_wp2_with fail
   go_ret;exact⟨rfl,B4.o⟩
  have HFE:=ħ (Zxp w4 oo lo none own.length oc l.length lc 0 0 hol hll (by omega));by_cases hfw:own.length≤8∧l.length≤5
  case neg =>
   have hfv:(decide (own.length≤8)&&(decide (l.length≤5)&&decide (0≤34)))=false:=by
    rw[Bool.eq_false_iff];intro h;simp only[Bool.and_eq_true,decide_eq_true_eq] at h;exact hfw ⟨h.1,h.2.1⟩
   rw[hfv] at HFE
   go_wp2_with fail
   refine HFE.o.mono ?_;rintro e w5 ⟨rfl,rfl⟩
   go_wp2_with fail
   go_ret;exact⟨rfl,B4.o⟩
  have hfv:(decide (own.length≤8)&&(decide (l.length≤5)&&decide (0≤34)))=true:=by rw[decide_eq_true hfw.1,decide_eq_true hfw.2];rfl
  rw[hfv] at HFE;obtain⟨hol8,hll5⟩:=hfw;clear hfv;have HEX:=ħ (fun W (hW:Below w.heap.size w W)=>Zll W c _ B own oo oc (⟨x0,x1,x2,x3⟩:Use) l lo lc (HAG.o W hW) (HOW.o W hW) (by omega) (HLW.o W hW) (by omega));have HK0:=ħ (fun W (hW:Below w.heap.size w W)=>Zja W c _ B own oo oc (⟨x0,x1,x2,x3⟩:Use) l lo lc (HAG.o W hW) (HOW.o W hW) (by omega) (HLW.o W hW) (by omega));have HKP:=ħ (fun W c' cs' mine mo' mc' (hW:Below w.heap.size w W) (ha:ArgC W c' cs' B) (hm:Zak Zbd W mo' mine) (hml:mine.length≤1000000)=>Zja W c' cs' B mine mo' mc' (⟨x0,x1,x2,x3⟩:Use) l lo lc ha hm hml (HLW.o W hW) (by omega));have HPT:=ħ (fun W g go gc s (hW:Below w.heap.size w W) (hg:Zak Zbd W go (g.map Int.ofNat)) (hgl:g.length≤11) (hgt:∀ i∈g,i<c.us.length) (hs:s<4096)=>Zvc W c _ g go gc s own oo oc (HAG.o W hW).crw (by rw[HUE.o];exact h999) hg hgl hgt hs (HOW.o W hW) (by omega));have HARG:=ħ (fun (h:(Zb0 c (⟨x0,x1,x2,x3⟩:Use)&&Zlk c own)=false)=>Zxw (l:=l) h);have HEP:=ħ (fun (h:(Zb0 c (⟨x0,x1,x2,x3⟩:Use)&&Zlk c own)=true)=>(Zzn (c:=c) (own:=own) (x:=(⟨x0,x1,x2,x3⟩:Use)) (l:=l) HVV.o (by rw[HUE.o];omega) (Bool.and_eq_true _ _ ▸ h).1 (Bool.and_eq_true _ _ ▸ h).2:ExpP (Zdv c x1) (Zeh c own (⟨x0,x1,x2,x3⟩:Use) l) (Zf9 c own (⟨x0,x1,x2,x3⟩:Use) l).2 (Zf9 c own (⟨x0,x1,x2,x3⟩:Use) l).1));have HKQ:=ħ (fun (h:(Zb0 c (⟨x0,x1,x2,x3⟩:Use)&&Zlk c own)=true) (ch:List Nat) mine hs hm=>(Zrf (c:=c) (own:=own) (x:=(⟨x0,x1,x2,x3⟩:Use)) (l:=l) (ch:=ch) HVV.o (Bool.and_eq_true _ _ ▸ h).1 hs (mine:=mine) hm));have HGS:Hid ((Zdv c x1).Sublist (List.range c.us.length)):=ħ List.filter_sublist;have HUF:=ħ (fun W (hW:Below w.heap.size w W)=>(Zya (HAG.o W hW).crw).1);have HXG:=ħ (fun i (hi:i<c.us.length)=>(⟨_,List.getElem?_eq_getElem hi⟩:∃ x,c.us[i]?=some x));have HGA:Hid (Zdv c x1=(List.range un).filter (Ze4 c x1)):=ħ (by rw[← HUE.o];rfl);have HOL8:=ħ hol8;rw[HUE.o] at HXG;obtain⟨Y,hY⟩:∃ f,Zeh c own (⟨x0,x1,x2,x3⟩:Use) l=f:=⟨_,rfl⟩;rw[hY] at HEP HKQ;clear hY;obtain⟨on,hon⟩:∃ n,own.length=n:=⟨_,rfl⟩;obtain⟨wn,hwn⟩:∃ n,l.length=n:=⟨_,rfl⟩;rw[hon] at HEX HK0 HPT HFE HOL8 hol8 hol ⊢;rw[hwn] at HEX HK0 HKP HFE hll5 hll ⊢;have HONE:=ħ hon;clear hon hwn
  go_wp2_with fail
  refine HFE.o.mono ?_;rintro e w5 ⟨rfl,rfl⟩;clear HFE c1 c2
  go_upto_region 4 with (fail)
  go_wp2_with (first | (refine wpList_load_row rfl 26 (.tmp 4) rfl (w.heap.size) ?l1 26 #[.slice qo qn qc,.slice mo mn mc,.slice uo un uc] (0,0) _ X4.o Tryz.underlying26 rfl (Zbr _ _ _) ?_;(case l1=>rfl)) | (refine wpList_load_row rfl 39 (.tmp 6) rfl (w.heap.size+1) ?l2 39 #[.int .i64 x0,.int .i64 x1,.int .i64 x2,.int .i64 x3] (0,0) _ Y4.o Tryz.underlying39 rfl (Zf6 _ _ _ _) ?_;(case l2=>rfl)))
  refine (HEX.o w4 B4.o).mono ?_;intro e w5 hq;unfold Zng at hq;obtain⟨⟨ro,rc,rfl,hrf⟩,b5⟩:=hq;have X5:=ħ (X4.o.step b5);have Y5:=ħ (Y4.o.step b5);have B5:=ħ (B4.o.trans (b5.mono B4.o.size));have HRF:=ħ (fun W (hW:Below w5.heap.size w5 W)=>hrf.below hW);clear b5 X4 Y4 B4 hrf HEX;obtain⟨pb,hpb⟩:∃ b,(Zb0 c (⟨x0,x1,x2,x3⟩:Use)&&Zlk c own)=b:=⟨_,rfl⟩;rw[hpb] at HARG HEP HKQ;clear hpb
  cases pb with
  | false =>
   obtain⟨he,hk⟩:=HARG.o (by trivial);rw[hk] at HK0;rw[he];clear he hk HARG HEP HKQ HRF
   go_upto_region 5 with (fail)
   go_wp2_with (first | (refine Za1 (by rfl) 26 (.tmp 4) rfl (w.heap.size) ?l3 26 #[.slice qo qn qc,.slice mo mn mc,.slice uo un uc] (0,0) _ X5.o Tryz.underlying26 rfl (Zbr _ _ _) ?_;(case l3=>rfl)) | (refine Za1 (by rfl) 39 (.tmp 6) rfl (w.heap.size+1) ?l4 39 #[.int .i64 x0,.int .i64 x1,.int .i64 x2,.int .i64 x3] (0,0) _ Y5.o Tryz.underlying39 rfl (Zf6 _ _ _ _) ?_;(case l4=>rfl)))
   refine (HK0.o w5 B5.o).mono ?_;rintro e w6 ⟨rfl,b6⟩;have B6:=ħ (B5.o.trans (b6.mono B5.o.size))
   go_wp2_with fail
   go_ret;exact⟨rfl,B6.o⟩
  | true =>
  have HP:=ħ (HEP.o (by trivial));have HKR:=ħ (HKQ.o (by trivial));clear HARG HEP HK0 HKQ;obtain⟨e9,he9⟩:∃ n,(Zf9 c own (⟨x0,x1,x2,x3⟩:Use) l).2=n:=⟨_,rfl⟩;obtain⟨r,hr⟩:∃ n,(Zf9 c own (⟨x0,x1,x2,x3⟩:Use) l).1=n:=⟨_,rfl⟩;rw[he9,hr] at HP;rw[hr] at HRF;rw[he9,hr];clear he9 hr;have hen:=HP.o.en
  have h91:(((e9:Nat):Int)==1)=false:=by
   rw[beq_eq_false_iff_ne];rcases hen with h | h<;>omega
  have HGL:Hid ((Zdv c x1).length≤5):=ħ (by have:=Zbf HGS.o;rw[HUE.o] at this;omega);have HGT:=ħ (Zcb HGS.o);have HX5:=ħ (fun W (hW:Below w5.heap.size w5 W)=>X5.o.step hW);have HY5:=ħ (fun W (hW:Below w5.heap.size w5 W)=>Y5.o.step hW);clear X5 Y5;have BM:=ħ ((Below.refl w5.heap.size w5).alloc (Nat.le_refl _) (.cells #[] 3));have OM:=ħ (OwnK.made w5 3 1)
  go_upto_region 9 with (fail)
  clear h91;generalize w5.alloc (.cells #[] 3)=wm at *
  go_loopw [12,13] (fun ov iv wr=>∃ (ix n g o cap:Nat),ov = .slice (some ⟨g,o,none⟩) n cap∧iv = .int .i64 ix∧ix≤un∧n≤ix∧Hid (((List.range ix).filter (Ze4 c x1)).length=n)∧Hid (OwnK wr w5.heap.size 1 n cap (Za3 ((List.range ix).filter (Ze4 c x1))) (some ⟨g,o,none⟩))∧Hid (Below w5.heap.size w5 wr)) (fun _ i _=>(un-intOf i).toNat)
  case atStart=>exact⟨0,0,w5.heap.size,0,0,rfl,rfl,by omega,Nat.le_refl _,ħ rfl,OM,BM⟩
  case round =>
   clear OM BM;obtain⟨ix,n,g,o,cap,rfl,rfl,hi,hnx,HN,OR,LR⟩:=hrel;have e2:IntKind.i64.wrap ((ix:Int)+1)=((ix+1:Nat):Int):=IntWalk.i64_in _ (by omega);have c2:=(HX5.o wr LR.o).cell 2 _ rfl;by_cases hin:ix<un
   ·have ii:(ix:Int)<un:=by omega
    obtain⟨x,hx⟩:=HXG.o ix hin;obtain⟨gu,ou,huo,hgu,hcu⟩:=(HUF.o wr (B5.o.trans (LR.o.mono B5.o.size))).at Za7 ix x hx;have u1:=hcu 1 _ rfl;have y1:=(HY5.o wr LR.o).cell 1 _ rfl;have HNX:=ħ (Zbh (Ze4 c x1) ix)
    have hwi:Ze4 c x1 ix=(x.w==x1):=by unfold Ze4;rw[List.getD_eq_getElem?_getD,hx];rfl
    rw[hwi] at HNX;have HUO:=ħ huo;rw[huo] at c2;obtain⟨eb,heb⟩:∃ b,(x.w==x1)=b:=⟨_,rfl⟩;rw[heb] at HNX;clear hx huo hgu hcu hwi
    cases eb with
    | false =>
     have HNX:Hid ((List.range (ix+1)).filter (Ze4 c x1)=(List.range ix).filter (Ze4 c x1)):=ħ (by rw[HNX.o];simp)
     go_upto_region 11 with (fail)
     go_quiet (fail)
     have B3:=ħ (below_drewN (Below.refl wr.heap.size wr) nq);clear u1 y1 c2;generalize wr.drewN nq=wd at *
     go_wp2_with fail
     go_roundw
     case rel=>exact⟨ix+1,n,g,o,cap,rfl,by go_num,by omega,by omega,ħ (by rw[HNX.o];exact HN.o),ħ (by rw[HNX.o];exact OR.o.below B3.o),ħ (LR.o.trans (B3.o.mono LR.o.size))⟩
     case measure=>simp only[intOf];omega
    | true =>
     have HNX:Hid ((List.range (ix+1)).filter (Ze4 c x1)=(List.range ix).filter (Ze4 c x1)++[ix]):=ħ (by rw[HNX.o];simp)
     go_upto_region 11 with (fail)
     go_quiet (fail)
     have B3:=ħ (below_drewN (Below.refl wr.heap.size wr) nq);have OD:=ħ (OR.o.below B3.o);have LD:=ħ (LR.o.trans (B3.o.mono LR.o.size));clear u1 y1 c2 OR LR B3;generalize wr.drewN nq=wd at *
     go_upto_region 10 with (at_builtin;refine Zdm 33 3 (.int .i64 0) 1 8 Tryz.underlying33 Zbl rfl (by omega) (by omega) wd w5.heap.size rfl (.tmp 89) (.tmp 91) rfl (some ⟨g,o,none⟩) cap n (Za3 ((List.range ix).filter (Ze4 c x1))) ?p1 OD.o LD.o.size 1 1 #[.int .i64 (ix:Int)] 3 ?p2 rfl (by omega) ?p3 ?p4 ?_;(case p1=>rfl);(case p2=>rfl);(case p3=>simp[Value.oneCell']);(case p4=>omega);intro g3 off3 c3 wv o8 gr8 b8 or8;have OA:=ħ o8;have LA:=ħ (LD.o.trans b8);clear o8 gr8 b8 or8)
     clear OD LD
     go_wp2_with fail
     go_roundw
     case rel=>exact⟨ix+1,n+1,g3,off3,c3,rfl,by go_num,by omega,by omega,ħ (by rw[HNX.o,List.length_append,HN.o];rfl),ħ (by rw[HNX.o,← Zcg];exact OA.o),LA⟩
     case measure=>simp only[intOf];omega
   ·have ii:¬ (ix:Int)<un:=by omega
    obtain rfl:un=ix:=by omega
    have OR2:Hid (OwnK wr w5.heap.size 1 n cap (Za3 (Zdv c x1)) (some ⟨g,o,none⟩)):=ħ (by rw[HGA.o];exact OR.o);have HN2:Hid ((Zdv c x1).length=n):=ħ (by rw[HGA.o];exact HN.o);obtain⟨G,hG⟩:∃ l,Zdv c x1=l:=⟨_,rfl⟩;rw[hG] at OR2 HN2 HP HGL HGT HGS;have HGF:=ħ (Zd8 OR2.o HN2.o.symm);have hgl:=HGL.o;rw[HN2.o] at hgl;have hsz:=HP.o.siz;rw[HN2.o] at hsz;have HB6:=ħ (B5.o.trans (LR.o.mono B5.o.size));have HX6:=ħ (fun W (hW:Below wr.heap.size wr W)=>HX5.o W (LR.o.trans (hW.mono LR.o.size)));have HY6:=ħ (fun W (hW:Below wr.heap.size wr W)=>HY5.o W (LR.o.trans (hW.mono LR.o.size)));have HR6:=ħ (fun W (hW:Below wr.heap.size wr W)=>HRF.o W (LR.o.trans (hW.mono LR.o.size)));have HG6:=ħ (fun W (hW:Below wr.heap.size wr W)=>HGF.o.below hW);have HGG:=ħ (fun i (hi:i<G.length)=>(by rw[List.getElem?_map,List.getElem?_eq_getElem hi,List.getD_eq_getElem?_getD,List.getElem?_eq_getElem hi];rfl:(G.map Int.ofNat)[i]?=some (((G.getD i 0:Nat):Int))));rw[HN2.o] at HGG;have HRL:Hid (r.length≤5):=ħ (by rw[← hsz];exact Nat.le_trans (Zp2 _ _) hgl);obtain⟨CH,hCH⟩:∃ f:Nat→Nat,(fun k=>chU (fun i=>r.contains (G.getD i 0)) k)=f:=⟨_,rfl⟩;have HC0:Hid (CH 0=0):=ħ (by rw[← hCH];rfl);have HCS:Hid (∀ k,CH (k+1)=CH k+(if r.contains (G.getD k 0)=true then 2^k else 0)):=ħ (fun k=>by rw[← hCH];rfl);have HCL:Hid (∀ k,CH k<2^k):=ħ (fun k=>by rw[← hCH];exact Z0i _ k);have HSZ:Hid (nbU n (CH n)=r.length):=ħ (by rw[← hCH];exact hsz);have HPA:Hid (e9=0→∀ s,s &&& CH n=CH n→Y (Zea G s)=false):=ħ (by rw[← hCH,← HN2.o];exact HP.o.all);have HPF:Hid (e9=0→∀ s,nbU n s<r.length→Y (Zea G s)=true):=ħ (by rw[← HN2.o];exact HP.o.few);have HPN:=ħ HP.o.none;have HPL:=ħ HP.o.nn;clear hCH hG OR OR2 LR HN HGA HX5 HY5 HRF HGF B5 HP hsz HXG HUF hin hi e2 HGL;generalize wr=w6 at *
    go_upto_region 15 with (fail)
    clear c2 ii
    go_loopw [14,15] (fun cv iv wr=>∃ (ix:Nat),cv = .int .i64 ((CH ix:Nat):Int)∧iv = .int .i64 ix∧ix≤n∧Hid (Below w6.heap.size w6 wr)) (fun _ i _=>(n-intOf i).toNat)
    case atStart=>exact⟨0,by rw[HC0.o];rfl,rfl,by omega,ħ (Below.refl _ _)⟩
    case round =>
     obtain⟨ix,rfl,rfl,hi,LR⟩:=hrel;have e2:IntKind.i64.wrap ((ix:Int)+1)=((ix+1:Nat):Int):=IntWalk.i64_in _ (by omega);by_cases hin:ix<n
     ·have ii:(ix:Int)<n:=by omega
      obtain⟨gl,ol,hol2,hgl2,g0⟩:=(HG6.o wr LR.o).int ix _ (HGG.o ix hin);have hcs:=HCS.o ix;have hcl:=HCL.o ix;have hpi:2^ix≤16:=Nat.le_trans (Nat.pow_le_pow_right (by omega) (show ix≤4 by omega)) (by decide);obtain⟨T2,hT2⟩:∃ y,2^ix=y:=⟨_,rfl⟩
      have eT:((2:Int)^ix)=(T2:Int):=by rw[← hT2];norm_cast
      rw[hT2] at hcs hcl hpi;obtain⟨gi,hgi⟩:∃ y,G.getD ix 0=y:=⟨_,rfl⟩;rw[hgi] at hcs g0;have HSB:=ħ (Zzo gi r);have BE:=ħ ((Below.refl wr.heap.size wr).alloc (Nat.le_refl _) (.cells #[.int .i64 ((gi:Nat):Int)] 3));have EV:Hid (Zaf (wr.alloc (.cells #[.int .i64 ((gi:Nat):Int)] 3)) wr.heap.size 3 (ivs [((gi:Nat):Int)])):=ħ (heap_alloc_new wr _);have hsu:=Zxs (wr.alloc (.cells #[.int .i64 ((gi:Nat):Int)] 3)) [((gi:Nat):Int)] (r.map Int.ofNat) (some ⟨wr.heap.size,0,none⟩) ro 1 rc EV.o.flatI (HR6.o _ (LR.o.trans (BE.o.mono LR.o.size))) (by simp) (by rw[List.length_map];have:=HRL.o;omega);rw[HSB.o,List.length_map] at hsu;have HSU:=ħ hsu;have LE:=ħ (LR.o.trans (BE.o.mono LR.o.size))
      obtain⟨rfl,rfl⟩:g=gl∧o=ol:=by simpa using hol2
      obtain⟨bt,hbt⟩:∃ b,r.contains gi=b:=⟨_,rfl⟩;rw[hbt] at HSU hcs;have HCX:=ħ hcs;clear hgi hsu hgl2 hol2 hbt EV BE HSB hcs hT2
      go_wp2_with fail
      clear g0;generalize wr.alloc (.cells #[.int .i64 ((gi:Nat):Int)] 3)=we at *;refine HSU.o.mono ?_;rintro e w7 ⟨rfl,b7⟩;have L7:=ħ (LE.o.trans (b7.mono LE.o.size));clear b7 HSU LE LR
      cases bt with
      | false =>
       go_wp2_with fail
       clear eT;go_roundw
       case rel=>exact⟨ix+1,by rw[HCX.o];rfl,by go_num,by omega,L7⟩
       case measure=>simp only[intOf];omega
      | true =>
       have ewc:IntKind.i64.wrap (((CH ix:Nat):Int)+((T2:Nat):Int))=((CH (ix+1):Nat):Int):=by
        rw[HCX.o,if_pos rfl,Int.natCast_add];exact IntWalk.i64_in _ (by omega)
       go_wp2_with fail
       clear eT;go_roundw
       case rel=>exact⟨ix+1,by rw[HCX.o,if_pos (by trivial),Int.natCast_add],by go_num,by omega,L7⟩
       case measure=>simp only[intOf];omega
     ·have ii:¬ (ix:Int)<n:=by omega
      obtain rfl:n=ix:=by omega
      have B7:=ħ (HB6.o.trans (LR.o.mono HB6.o.size));have HX7:=ħ (fun W (hW:Below wr.heap.size wr W)=>HX6.o W (LR.o.trans (hW.mono LR.o.size)));have HY7:=ħ (fun W (hW:Below wr.heap.size wr W)=>HY6.o W (LR.o.trans (hW.mono LR.o.size)));have HG7:=ħ (fun W (hW:Below wr.heap.size wr W)=>HG6.o W (LR.o.trans (hW.mono LR.o.size)));have hcl:=HCL.o n;have hcl2:CH n<32:=Nat.lt_of_lt_of_le hcl (Nat.le_trans (Nat.pow_le_pow_right (by omega) hgl) (by decide));have HS9:=ħ (fun W s (hs:s<2^n)=>Zu8 W s n hs (by omega));have hs1:=HS9.o wr (CH n) hcl;rw[HSZ.o] at hs1;have HS1:=ħ hs1
      have hrr:(((r.length:Nat):Int) != ((r.length:Nat):Int))=false:=by simp
      clear LR HX6 HY6 HG6 HR6 HB6 hs1 HCS HC0 HCL hcl HSZ HGG;obtain⟨ch,hch⟩:∃ y,CH n=y:=⟨_,rfl⟩;rw[hch] at hcl2 HS1 HPA ⊢;clear hch;obtain⟨rn,hrn⟩:∃ y,r.length=y:=⟨_,rfl⟩;rw[hrn] at hrr HS1 HRL HPF ⊢;have HRN:=ħ hrn;clear hrn
      go_upto_region 19 with (fail)
      go_wp2_with fail
      refine HS1.o.mono ?_;rintro e w8 ⟨rfl,rfl⟩
      go_wp2_with fail
      clear hrr HS1 ii;generalize wr=w7 at *;obtain⟨N,hN⟩:∃ N,2^n=N:=⟨_,rfl⟩
      have hN1:N≤32:=by rw[← hN];exact Nat.le_trans (Nat.pow_le_pow_right (by omega) hgl) (by decide)
      have eN:((2:Int)^n)=((N:Nat):Int):=by rw[← hN];norm_cast
      rw[hN] at HS9;clear hN
      go_upto_region 22 with (fail)
      go_loopw [16] (fun sv wr=>∃ (s:Nat),sv = .int .i64 s∧s≤N∧Hid (Below w7.heap.size w7 wr)) (fun s _=>(N-intOf s).toNat)
      case atStart=>exact⟨0,rfl,by omega,ħ (Below.refl _ _)⟩
      case round =>
       obtain⟨s,rfl,hs,LR⟩:=hrel;have e3:IntKind.i64.wrap ((s:Int)+1)=((s+1:Nat):Int):=IntWalk.i64_in _ (by omega)
       have eNw:IntKind.i64.wrap ((2:Int)^n)=((N:Nat):Int):=by rw[eN];exact IntWalk.i64_in _ (by omega)
       by_cases hsn:s<N
       ·have ss:(s:Int)<N:=by omega
        have X8:=ħ (HX7.o wr LR.o);have B8:=ħ (B7.o.trans (LR.o.mono B7.o.size));have hpt:=HPT.o wr G (some ⟨g,o,none⟩) cap s B8.o (HG7.o wr LR.o) (by rw[HN2.o];omega) HGT.o (by omega);rw[HN2.o] at hpt;have HPC:=ħ hpt;have HS2:=ħ (fun W=>HS9.o W s hsn);have HSUB:Hid ((Zea G s).Sublist (List.range c.us.length)):=ħ ((Zih G s).trans HGS.o);have hkq:=HKR.o (Zea G s) (Zc8 G s own n) HSUB.o (fun q=>by rw[← HN2.o];exact Zrh G s own q);have HKE:=ħ hkq;have HPN2:=ħ (fun h=>HPN.o h s);have HPF2:=ħ (fun h=>HPF.o h s);have HPA2:=ħ (fun h=>HPA.o h s)
        have HML:Hid ((Zc8 G s own n).length≤40):=ħ (by
         have h1:=Zji G s own n;rw[HONE.o] at h1
         exact Nat.le_trans h1 (Nat.le_trans (Nat.mul_le_mul hgl HOL8.o) (by decide)))
        clear hpt hkq
        go_upto_region 24 with (fail)
        clear ss eN eNw
        go_wp2_with (refine wpList_load_row rfl 26 (.tmp 4) rfl (w.heap.size) ?l5 26 #[.slice qo qn qc,.slice mo mn mc,.slice uo un uc] (0,0) _ X8.o Tryz.underlying26 rfl (Zbr _ _ _) ?_;(case l5=>rfl))
        refine HPC.o.mono ?_;rintro e wp ⟨hq,bp⟩;unfold Z09 at hq;obtain⟨so,cp,mo',mcp,rfl,hf1,hcp,hf2⟩:=hq;have hset:([.slice qo qn qc,.slice mo mn mc,.slice uo un uc]:List Value).set 2 (.slice so (Zea G s).length cp)=[.slice qo qn qc,.slice mo mn mc,.slice so (Zea G s).length cp]:=rfl;rw[hset];have LP:=ħ (LR.o.trans (bp.mono LR.o.size));have HF1:=ħ hf1;have HF2:=ħ hf2;have HCP:=ħ hcp;clear hset bp hf1 hf2 hcp HPC X8 B8 LR;have O1:Hid (Zaf (wp.alloc (.cells #[.slice none 0 0,.slice none 0 0,.slice none 0 0] 26)) wp.heap.size 26 [.slice none 0 0,.slice none 0 0,.slice none 0 0]):=ħ (heap_alloc_new wp _);have BO:=ħ ((Below.refl wp.heap.size wp).alloc (Nat.le_refl _) (.cells #[.slice none 0 0,.slice none 0 0,.slice none 0 0] 26))
        go_upto_region 25 with (refine Zaq rfl 26 (.tmp 17) (.tmp 128) rfl wp.heap.size #[.slice qo qn qc,.slice mo mn mc,.slice so (Zea G s).length cp] (by rfl) (by rfl) 26 _ O1.o (Zbr _ _ _) rfl (by simp[Value.oneCell']) ?_;intro w9 s9 u9;have S9:=ħ s9;have U9:=ħ u9;clear s9 u9)
        have A9:=ħ (U9.o.below BO.o (Nat.le_refl _));have S9:Hid (Zaf w9 wp.heap.size 26 [.slice qo qn qc,.slice mo mn mc,.slice so (Zea G s).length cp]):=ħ S9.o;have L9:=ħ (LP.o.trans (A9.o.mono LP.o.size));have B9:=ħ (B7.o.trans (L9.o.mono B7.o.size));have Y9:=ħ (HY7.o w9 L9.o);have HA9:Hid (ArgC w9 (Zcp c (Zea G s)) [.slice qo qn qc,.slice mo mn mc,.slice so (Zea G s).length cp] B):=ħ (Zuv (HAG.o w9 B9.o) (HF1.o.below A9.o) (by rw[List.length_map]) HCP.o (by rw[List.length_map];exact Nat.le_trans (Zbf HSUB.o) (by rw[HUE.o];exact h999)));have hkp:=HKP.o w9 _ _ (Zc8 G s own n) mo' mcp B9.o HA9.o (HF2.o.below A9.o) (Nat.le_trans HML.o (by decide));rw[HKE.o] at hkp;have HKC:=ħ hkp;obtain⟨yb,hyb⟩:∃ b,Y (Zea G s)=b:=⟨_,rfl⟩;rw[hyb] at HKC HPN2 HPF2 HPA2;obtain⟨pn,hpn⟩:∃ b,(Zc8 G s own n).length=b:=⟨_,rfl⟩;rw[hpn] at HKC ⊢;obtain⟨sn,hsn2⟩:∃ b,(Zea G s).length=b:=⟨_,rfl⟩;rw[hsn2] at HKC S9 ⊢;obtain⟨ns,hns⟩:∃ b,nbU n s=b:=⟨_,rfl⟩;rw[hns] at HS2 HPF2
        have hnsl:ns≤5:=by rw[← hns];exact Nat.le_trans (Zp2 _ _) hgl
        obtain⟨pbx,hpbx⟩:∃ b,wp.heap.size=b:=⟨_,rfl⟩;rw[hpbx] at S9 ⊢;clear hkp hyb hpn hsn2 hns O1 BO U9 A9 LP HF1 HF2 HCP HA9 HKE HSUB HML hpbx
        go_wp2_with (first | (refine wpList_load_row rfl 26 (.tmp 17) rfl (pbx) ?l6 26 #[.slice qo qn qc,.slice mo mn mc,.slice so sn cp] (0,0) _ S9.o Tryz.underlying26 rfl (Zbr _ _ _) ?_;(case l6=>rfl)) | (refine wpList_load_row rfl 39 (.tmp 6) rfl (w.heap.size+1) ?l7 39 #[.int .i64 x0,.int .i64 x1,.int .i64 x2,.int .i64 x3] (0,0) _ Y9.o Tryz.underlying39 rfl (Zf6 _ _ _ _) ?_;(case l7=>rfl)))
        refine HKC.o.mono ?_;rintro e wk ⟨rfl,bk⟩;have LK:=ħ (L9.o.trans (bk.mono L9.o.size));clear bk S9 Y9 L9 B9 HKC
        go_upto_region 26 with (fail)
        have ean:bits .and .i64 ((s:Nat):Int) ((ch:Nat):Int)=((s &&& ch:Nat):Int):=Zky (by omega) (by omega);obtain⟨sc,hsc⟩:∃ b,s &&& ch=b:=⟨_,rfl⟩;rw[hsc] at ean HPA2;clear hsc;rcases hen with h9 | h9
        ·have h9a:(((e9:Nat):Int) != 0)=false:=by simp[h9]
         have h9b:(((e9:Nat):Int)==0)=true:=by simp[h9]
         have HPF3:=ħ (HPF2.o h9);have HPA3:=ħ (HPA2.o h9);clear h9 HPF2 HPA2;by_cases hsc2:sc=ch
         ·have hy:=HPA3.o hsc2
          subst hy;subst hsc2
          have hfl:¬ ns<rn:=fun h=>by have:=HPF3.o h;cases this
          have hfi:¬ ((ns:Nat):Int)<((rn:Nat):Int):=by omega
          have hee:(((sc:Nat):Int)==((sc:Nat):Int))=true:=by simp
          go_wp2_with fail
          refine (HS2.o wk).mono ?_;rintro e wj ⟨rfl,rfl⟩
          go_wp2_with fail
          clear ean;go_roundw
          case rel=>exact⟨s+1,by go_num,by omega,LK⟩
          case measure=>simp only[intOf];omega
         ·have hee:(((sc:Nat):Int)==((ch:Nat):Int))=false:=by rw[beq_eq_false_iff_ne];omega
          cases yb with
          | true =>
           go_wp2_with fail
           clear ean;go_roundw
           case rel=>exact⟨s+1,by go_num,by omega,LK⟩
           case measure=>simp only[intOf];omega
          | false =>
           have hfl:¬ ns<rn:=fun h=>by have:=HPF3.o h;cases this
           have hfi:¬ ((ns:Nat):Int)<((rn:Nat):Int):=by omega
           go_wp2_with fail
           refine (HS2.o wk).mono ?_;rintro e wj ⟨rfl,rfl⟩
           go_wp2_with fail
           clear ean;go_roundw
           case rel=>exact⟨s+1,by go_num,by omega,LK⟩
           case measure=>simp only[intOf];omega
        ·have h9a:(((e9:Nat):Int) != 0)=true:=by simp[h9]
         have h9b:(((e9:Nat):Int)==0)=false:=by simp[h9]
         have hy:=HPN2.o h9;subst hy;clear h9
         go_wp2_with fail
         clear ean;go_roundw
         case rel=>exact⟨s+1,by go_num,by omega,LK⟩
         case measure=>simp only[intOf];omega
       ·have ss:¬ (s:Int)<N:=by omega
        have B8:=ħ (B7.o.trans (LR.o.mono B7.o.size));rcases hen with h9 | h9
        ·have h9b:(((e9:Nat):Int)==0)=true:=by simp[h9]
         clear h9
         go_wp2_with fail
         go_ret;exact⟨rfl,B8.o⟩
        ·have h9b:(((e9:Nat):Int)==0)=false:=by simp[h9]
         have h9c:(((e9:Nat):Int)==4)=true:=by simp[h9]
         have hr0:=HPL.o h9;clear h9
         have hrn0:rn=0:=by rw[← HRN.o,hr0];rfl
         subst hrn0
         go_wp2_with fail
         go_ret;exact⟨rfl,B8.o⟩
end
end Go.Proofs.YtbcgocpihobjnaaGreatDoor
