import Derived.Test.YtmkdfbelbcocpaaGreatDoorCL37
import Derived.Test.YtmkdfbelbcocpaaGreatDoorCL33
set_option linter.unusedVariables false
set_option linter.unusedSimpArgs false
set_option maxHeartbeats 32000000
set_option maxRecDepth 100000
namespace Go.Proofs.YtmkdfbelbcocpaaGreatDoor
open Go.RowKit Go.Sort
theorem Zel.asg {n m:Nat} (hn:n≤3) {w w':World} {r:Option Nat} {e:Ending} (h:Zel w (Zat n) (r.map (Zfe n m)) e w') :
  ∃ ro rc,e = .returned (.tuple #[.slice ro (Zw9 n m 0 r).length rc,.bool r.isSome])∧Za1 Zep w' ro (Zw9 n m 0 r)∧Below w.heap.size w w':=by
 obtain⟨h1,h2⟩:=h
 unfold Zw9
 rw[if_pos rfl]
 cases r with
 | none=>exact⟨none,0,h1,.inl rfl,h2⟩
 | some k =>
  obtain⟨ro,rc,h3,ho⟩:=h1
  rw[← Z0c hn,Zbz hn] at ho
  rw[Zbz hn] at h3
  exact⟨ro,rc,by rw[h3,Zd5];rfl,ho.flatR Zc9 (Zd5 n m k).symm,h2⟩
theorem Zwr {w:World} {P:Nat→Prop} {ps:List Prd} {po:Option Addr} {pn pc:Nat} (h:Zb4 w P ps po) (hn:pn=ps.length):Zaj w P (Zcm ps) [.int .i64 1,.string ⟨#[]⟩,.string ⟨#[]⟩,.int .i64 0,.slice po pn pc]:=by
 unfold Zcm Zaj
 refine⟨po,pc,by rw[hn];rfl,h⟩
def Z4c (g:Nat→Bool):Nat→Bool
 | 0=>false
 | k+1=>Z4c g k||g k
theorem Zws (g:Nat→Bool) (N:Nat):Z4c g N=(Zcg g N).isSome:=by
 have h1:∀ k,Z4c g k=true↔∃ j,j<k∧g j=true:=fun k=>by
  induction k with
  | zero=>simp[Z4c]
  | succ k ih =>
   unfold Z4c
   rw[Bool.or_eq_true,ih]
   constructor
   ·rintro (⟨j,hj,h⟩ | h)
    ·exact⟨j,by omega,h⟩
    ·exact⟨k,by omega,h⟩
   ·rintro⟨j,hj,h⟩
    by_cases e:j=k
    ·rw[e] at h;exact .inr h
    ·exact .inl ⟨j,by omega,h⟩
 rw[Bool.eq_iff_iff,h1]
 cases hf:Zcg g N with
 | none =>
  have:=Zl3 hf
  constructor
  ·rintro⟨j,hj,h⟩;rw[this j hj] at h;cases h
  ·intro h;cases h
 | some k =>
  have:=Zqv hf
  exact⟨fun _=>rfl,fun _=>⟨k,this.1,this.2.1⟩⟩
theorem Z4d {n m k i:Nat} (hi:i<n):(Zmj n m k)[i]?=some ⟨(Zat n).getD i [],gv (Zfe n m k) (i+1)⟩:=Zku hi
theorem Za1.bndR {w:World} {ao:Option Addr} {l:List Bnd} (h:Za1 Zep w ao l):Z2w w (fun _=>True) l ao:=by
 rcases h with h | ⟨g,off,h1,h2,h3⟩
 ·exact .inl h
 ·exact .inr ⟨g,off,h1,trivial,h2,h3⟩
theorem Z0r (W:World) (lo ro:Option Addr) (lc rc:Nat) :
  Calls Tryz.prog 59 #[.slice lo 0 lc,.slice ro 0 rc] W fun e w'=>e = .returned (.bool true)∧Below W.heap.size W w' :=
 (Zd2 W lo ro 0 0 lc rc [] [] rfl rfl (.inl rfl) (.inl rfl) (by simp) (by simp) (by omega) (by omega)).mono (fun e w' h=>by
  rw[decide_eq_true rfl] at h
  exact h)
theorem Z7x (t:Array Value) (h:t.size=156):∃ f:Nat→Value,t=#[f 0,f 1,f 2,f 3,f 4,f 5,f 6,f 7,f 8,f 9,f 10,f 11,f 12,f 13,f 14,f 15,f 16,f 17,f 18,f 19,f 20,f 21,f 22,f 23,f 24,f 25,f 26,f 27,f 28,f 29,f 30,f 31,f 32,f 33,f 34,f 35,f 36,f 37,f 38,f 39,f 40,f 41,f 42,f 43,f 44,f 45,f 46,f 47,f 48,f 49,f 50,f 51,f 52,f 53,f 54,f 55,f 56,f 57,f 58,f 59,f 60,f 61,f 62,f 63,f 64,f 65,f 66,f 67,f 68,f 69,f 70,f 71,f 72,f 73,f 74,f 75,f 76,f 77,f 78,f 79,f 80,f 81,f 82,f 83,f 84,f 85,f 86,f 87,f 88,f 89,f 90,f 91,f 92,f 93,f 94,f 95,f 96,f 97,f 98,f 99,f 100,f 101,f 102,f 103,f 104,f 105,f 106,f 107,f 108,f 109,f 110,f 111,f 112,f 113,f 114,f 115,f 116,f 117,f 118,f 119,f 120,f 121,f 122,f 123,f 124,f 125,f 126,f 127,f 128,f 129,f 130,f 131,f 132,f 133,f 134,f 135,f 136,f 137,f 138,f 139,f 140,f 141,f 142,f 143,f 144,f 145,f 146,f 147,f 148,f 149,f 150,f 151,f 152,f 153,f 154,f 155]:=by
 obtain⟨l⟩:=t
 have hl:l.length=156:=h
 have e:l=(List.range 156).map (fun i=>l.getD i undef):=by
  apply List.ext_getElem
  ·simp[hl]
  ·intro i h1 h2
   simp[List.getD,h1]
 exact⟨fun i=>l.getD i undef,congrArg List.toArray e⟩
def lsF (po:Option Addr) (pn pc D n m sn:Nat) (OS:Bool) (EC:Int) (LS:List Bnd) (i:Nat) (W:World) (v:Value):Prop:=match i with
 | 0=>v = .agg #[.int .i64 1,.string ⟨#[]⟩,.string ⟨#[]⟩,.int .i64 0,.slice po pn pc]
 | 1=>v = .int .i64 (n:Nat)
 | 2=>∃ so,v = .slice so n 3∧Zcd W so (Zat n)
 | 3=>v = .int .i64 (m:Nat)
 | 4=>∃ ro rc,v = .tuple #[.slice ro sn rc,.bool OS,.int .i64 EC]∧Za1 Zep W ro LS
 | 5=>∃ ro rc,v = .tuple #[.slice ro sn rc,.bool OS,.int .i64 EC]∧Za1 Zep W ro LS
 | 6=>∃ ro rc,v = .slice ro sn rc∧Za1 Zep W ro LS
 | 7=>v = .bool OS
 | 8=>v = .int .i64 EC
 | 9=>∃ ro rc,v = .slice ro sn rc∧Za1 Zep W ro LS
 | 10=>v = .bool OS
 | 11=>v = .int .i64 EC
 | _=>True
theorem Z4e (po:Option Addr) (pn pc D n m sn:Nat) (OS:Bool) (EC:Int) (LS:List Bnd):∀ i w w' v,lsF po pn pc D n m sn OS EC LS i w v→Below w.heap.size w w'→lsF po pn pc D n m sn OS EC LS i w' v:=by
 intro i w w' v h hb
 match i with
 | 0=>exact h
 | 1=>exact h
 | 2=>obtain⟨so,h1,h2⟩:=h;exact⟨so,h1,h2.below hb⟩
 | 3=>exact h
 | 4=>obtain⟨ro,rc,h1,h2⟩:=h;exact⟨ro,rc,h1,h2.below hb⟩
 | 5=>obtain⟨ro,rc,h1,h2⟩:=h;exact⟨ro,rc,h1,h2.below hb⟩
 | 6=>obtain⟨ro,rc,h1,h2⟩:=h;exact⟨ro,rc,h1,h2.below hb⟩
 | 7=>exact h
 | 8=>exact h
 | 9=>obtain⟨ro,rc,h1,h2⟩:=h;exact⟨ro,rc,h1,h2.below hb⟩
 | 10=>exact h
 | 11=>exact h
 | k+12=>trivial
theorem Zon (w:World) (P:Nat→Prop) (ps:List Prd) (po:Option Addr) (pn pc:Nat) (x y:Nat) (B:Nat) (hT:Tab w B) (hps:Zb4 w P ps po) (hpn:pn=ps.length) (hpl:pn≤9223372036854775807) (hby:∀ p∈ps,ByL p) (hx:x≤255) (hy:y≤255) :
  Calls Tryz.prog 13 #[.slice po pn pc,.int .u8 x,.int .u8 y] w fun e w'=>e = .returned (.bool true)∧Below w.heap.size w w':=by
 have HSA:=ħ (fun W (hW:Below w.heap.size w W)=>Z7t W B (Zdg.step (w:=w) hT hW))
 have HPR:=ħ (fun W (hW:Below w.heap.size w W)=>hps.below hW)
 have HT:=ħ (fun W (hW:Below w.heap.size w W)=>(show Tab W B from Zdg.step (w:=w) hT hW))
 have HPN:=ħ hpn
 have HBY:=ħ hby
 have B1:=ħ (Below.refl w.heap.size w)
 clear hT hps hpn hby
 go_enter Tryz.func13,Tryz.ntmps13
 go_wp2_with fail
 refine (HSA.o w B1.o).mono ?_
 rintro e w2 ⟨rfl,b2⟩
 have B2:=ħ (B1.o.trans (b2.mono B1.o.size))
 clear b2 B1 HSA
 go_upto_region 4 with (fail)
 have hnn:(1+(x:Int)%3)=((1+x%3:Nat):Int):=by omega
 have hmm:((y:Int)%7)=((y%7:Nat):Int):=by omega
 rw[hnn,hmm]
 have h1:1≤1+x%3:=by omega
 have h3:1+x%3≤3:=by omega
 have h6:y%7≤6:=by omega
 clear hnn hmm hx hy
 generalize 1+x%3=n at *
 generalize y%7=m at *
 by_cases hp2:pn<2
 ·have ip:(pn:Int)<2:=by omega
  go_wp2_with fail
  go_ret
  exact⟨rfl,B2.o⟩
 ·have ip:¬ ((pn:Int)<2):=by omega
  by_cases hp8:8<pn
  ·have iq:(8:Int)<(pn:Int):=by omega
   go_wp2_with fail
   go_ret
   exact⟨rfl,B2.o⟩
  ·have iq:¬ ((8:Int)<(pn:Int)):=by omega
   go_wp2_with fail
   go_loopw [10] (fun iv wr=>∃ (i:Nat),iv = .int .i64 i∧i≤pn∧Hid (∀ j q,j<i→ps[j]?=some q→AtomOk n q)∧Hid (Below w.heap.size w wr)) (fun i _=>(pn-intOf i).toNat)
   case atStart=>exact⟨0,rfl,by omega,ħ (fun j q hj=>absurd hj (Nat.not_lt_zero j)),B2⟩
   case round =>
    clear B2 ip iq
    obtain⟨i,rfl,hi,hat,B3⟩:=hrel
    have e2:IntKind.i64.wrap ((i:Int)+1)=((i+1:Nat):Int):=IntWalk.i64_in _ (by omega)
    by_cases hlt:i<pn
    ·have ii:(i:Int)<pn:=by omega
     obtain⟨q,hq⟩:∃ q,ps[i]?=some q:=⟨_,List.getElem?_eq_getElem (by rw[← HPN.o];exact hlt)⟩
     have HNX:=ħ (fun (h:AtomOk n q) j q' (hj:j<i+1) (hq':ps[j]?=some q')=>(show AtomOk n q' from by
      rcases Nat.lt_or_ge j i with h2 | h2
      ·exact hat.o j q' h2 hq'
      ·obtain rfl:j=i:=by omega
       rw[hq] at hq'
       obtain rfl:=Option.some.inj hq'
       exact h))
     have HQL:=ħ (HBY.o q (List.mem_of_getElem? hq))
     have HQN:Hid (NmL q.l∧NmL q.r):=ħ (by
      have h:=HQL.o
      cases q with
      | mk k l r c ks=>unfold ByL at h;exact⟨h.1,h.2.1⟩)
     obtain⟨g,off,vs,hao,hgl,hpc,hrd⟩:=(HPR.o wr B3.o).at i q hq
     obtain⟨xa,xn,xc,hvf,hxn⟩:=hpc.form
     subst hvf
     have HPC:=ħ hpc
     have HRD:=ħ hrd
     have HGL:=ħ hgl
     have HXN:=ħ hxn
     have HVA:=ħ (fun W=>Zs5 q.k q.l q.r q.c xa xn xc W HQN.o.1 HQN.o.2)
     obtain⟨va,hva⟩:∃ b,Zfy q.k q.l q.r q.c xn=b:=⟨_,rfl⟩
     rw[hva] at HVA
     have HVB:=ħ (fun (h:va=true)=>(show Zfy q.k q.l q.r q.c q.ks.length=true from by rw[← hxn,hva,h]))
     have HKN:=ħ (fun (hA:Zfy q.k q.l q.r q.c q.ks.length=true) W (hW:Below wr.heap.size wr W)=>(by
      have hqq:q = .mk 0 q.l q.r q.c []:=by
       unfold Zfy at hA
       simp only[Bool.and_eq_true,beq_iff_eq] at hA
       cases q with
       | mk k l r c ks =>
        obtain⟨h1,h2,-⟩:=hA
        have h1:k=0:=h1
        have h2:ks.length=0:=h2
        rw[h1,List.eq_nil_of_length_eq_zero h2];rfl
      have hf:Zct q=true:=by
       rw[hqq,Zix,if_pos rfl]
       rw[hqq] at hA
       exact hA
      exact Z0n q W P _ B n (by rw[hqq];simp[Zba,Zb8]) (Zhu q hf) (hpc.below hW) (HT.o W (B3.o.trans (hW.mono B3.o.size))) h3:Calls Tryz.prog 53 #[.agg #[.int .i64 q.k,.string (Zad q.l),.string (Zad q.r),.int .i64 q.c,.slice xa xn xc],.int .i64 n] W fun e w'=>e = .returned (.bool (Zj8 n q))∧Below W.heap.size W w'))
     obtain⟨kb,hkb⟩:∃ b,Zj8 n q=b:=⟨_,rfl⟩
     have HK:=ħ (fun (h:va=true) W (hW:Below wr.heap.size wr W)=>HKN.o (HVB.o h) W hW)
     rw[hkb] at HK
     have HKB:=ħ (fun (h:va=true) (h2:kb=true)=>(show AtomOk n q from ⟨HVB.o h,by rw[hkb,h2]⟩))
     have s0:=hrd 0 _ rfl
     have s1:=hrd 1 _ rfl
     have s2:=hrd 2 _ rfl
     have s3:=hrd 3 _ rfl
     have s4:=hrd 4 _ rfl
     rw[Nat.add_zero] at s0
     have HAO:=ħ hao
     have HBL:=ħ (fun W (hW:Below wr.heap.size wr W)=>hrd.of_block (hW.block g hgl))
     clear hq hpc hrd hgl hva hxn HRD hkb HKN HVB
     subst hao
     generalize q.k=q0 at *
     generalize Zad q.l=q1 at *
     generalize Zad q.r=q2 at *
     generalize q.c=q3 at *
     go_wp2_with fail
     refine (HVA.o wr).mono ?_
     rintro e w5 ⟨rfl,b5⟩
     have W5:=ħ b5
     have hb5:=HBL.o w5 b5
     clear s0 s1 s2 s3 s4 b5
     have s0:=hb5 0 _ rfl
     have s1:=hb5 1 _ rfl
     have s2:=hb5 2 _ rfl
     have s3:=hb5 3 _ rfl
     have s4:=hb5 4 _ rfl
     rw[Nat.add_zero] at s0
     clear hb5 HVA HBL
     cases va with
     | false =>
      have B5:=ħ (B3.o.trans (W5.o.mono B3.o.size))
      go_wp2_with fail
      go_ret
      exact⟨rfl,B5.o⟩
     | true =>
      go_wp2_with fail
      refine (HK.o trivial w5 W5.o).mono ?_
      rintro e w6 ⟨rfl,b6⟩
      have B6:=ħ (B3.o.trans ((W5.o.trans (b6.mono W5.o.size)).mono B3.o.size))
      clear b6 s0 s1 s2 s3 s4 W5
      cases kb with
      | false =>
       go_wp2_with fail
       go_ret
       exact⟨rfl,B6.o⟩
      | true =>
       go_wp2_with fail
       go_roundw
       case rel=>exact⟨i+1,by go_num,by omega,ħ (HNX.o (HKB.o trivial trivial)),B6⟩
       case measure=>simp only[intOf];omega
    ·have ii:¬ ((i:Int)<pn):=by omega
     have HAO:Hid (∀ q∈ps,AtomOk n q):=ħ (fun q hq=>by
      obtain⟨j,hj⟩:=List.mem_iff_getElem?.1 hq
      exact hat.o j q (by have:=(List.getElem?_eq_some_iff.1 hj).1;rw[← HPN.o] at this;omega) hj)
     have HGO:=ħ (Z7v (by rw[← HPN.o];omega) (by rw[← HPN.o];omega) HAO.o)
     have hlf:=Zs7 h1 h3 h6 HAO.o
     have HLE:=ħ (fun W (hW:Below w.heap.size w W) so (hso:Zcd W so (Zat n))=>(Zqe W P ps po pn pc so n 3 (m:Int) (Zat n) B (HT.o W hW) (HPR.o W hW) HPN.o (fun q hq=>Zhu q (HAO.o q hq).form) (by omega) (Zbz h3).symm hso (Z0o h3) (by omega)).mono (fun e w' hh=>(by rw[hlf.1] at hh;exact Zel.asg h3 hh:∃ ro rc,e = .returned (.tuple #[.slice ro (Zw9 n m 0 (Zcg (trK n m (Zcm ps)) ((m+1)^n))).length rc,.bool (Zcg (trK n m (Zcm ps)) ((m+1)^n)).isSome])∧Za1 Zep w' ro (Zw9 n m 0 (Zcg (trK n m (Zcm ps)) ((m+1)^n)))∧Below W.heap.size W w')))
     have HMIN:=ħ hlf.2
     clear hlf hat
     have HSM:=ħ (fun W=>Zl2 n h3 W)
     have HFL:=ħ (fun k=>Zqv (g:=trK n m (Zcm ps)) (m:=(m+1)^n) (k:=k))
     have HFN:=ħ (fun (h:Zcg (trK n m (Zcm ps)) ((m+1)^n)=none)=>Zl3 h)
     have HAN:=ħ (Zws (trK n m (Zcm ps)) ((m+1)^n))
     have HAS0:=ħ (fun k (hk:k<(m+1)^n) W=>Zwo k n m h3 h6 (by have:=Z5n h3 h6;omega) W)
     have HALL:=ħ (fun W=>Z35 n m h3 h6 W)
     have H343:=ħ (Z5n h3 h6)
     have HSB:=ħ (fun k W lo lc ro rc hl hr=>Z0q k n m h3 W lo ro lc rc hl hr)
     have HHO:=ħ (fun w0 (hw0:Below w.heap.size w w0) vs (hc:Zaj w0 P (Zcm ps) vs) k W hW ro rc hro=>Z0i (Zcm ps) w0 P vs B n m k (by have:=(Zoa HGO.o.valid).1;omega) (Zhu _ (Zf7 HGO.o.valid)) hc (HT.o w0 hw0) h3 h6 HGO.o.valid HGO.o.known W hW ro rc hro)
     have HHE:=ħ (fun w0 (hw0:Below w.heap.size w w0) vs (hc:Zaj w0 P (Zcm ps) vs) W (hW:Below w0.heap.size w0 W) (ro:Option Addr) rc=>Zp7 (Zcm ps) W P (fun _=>True) vs B [] ro 0 rc (by have:=(Zoa HGO.o.valid).1;omega) (Zhu _ (Zf7 HGO.o.valid)) (hc.below hW) (HT.o W (hw0.trans (hW.mono hw0.size))) rfl (by omega) ⟨by simp⟩ (.inl rfl))
     have HSS:=ħ (fun w0 (hw0:Below w.heap.size w w0) vs (hc:Zaj w0 P (Zcm ps) vs) W (hW:Below w0.heap.size w0 W) so (hso:Zcd W so (Zat n))=>(Zs3 W P (Zcm ps) vs so n 3 (m:Int) (Zat n) B (HT.o W (hw0.trans (hW.mono hw0.size))) (hc.below hW) (Zhu _ (Zf7 HGO.o.valid)) (by have:=(Zoa HGO.o.valid).1;omega) (Zbz h3).symm hso (Z0o h3) (Z4a h1 h3) (by omega)).mono (fun e w' hh=>Zlw.one h1 h3 h6 HGO.o hh))
     have HEC:Hid ((if 8<(Zak [Zcm ps]).length then (6:Int) else 0)=6∨(if 8<(Zak [Zcm ps]).length then (6:Int) else 0)=0):=ħ (by split<;>simp)
     generalize (if 8<(Zak [Zcm ps]).length then (6:Int) else 0)=EC at *
     have HAL:=ħ (Zd5 n m)
     have HBV:=ħ (fun k i (hi:i<n)=>Z4d (m:=m) (k:=k) hi)
     generalize trK n m (Zcm ps)=G at *
     generalize hN:(m+1)^n=N at *
     generalize hFK:Zcg G N=FK at *
     clear hFK hN
     obtain⟨L,hL⟩:∃ l,Zw9 n m 0 FK=l:=⟨_,rfl⟩
     obtain⟨ln,hln⟩:∃ k,L.length=k:=⟨_,rfl⟩
     obtain⟨OK,hOK⟩:∃ b,FK.isSome=b:=⟨_,rfl⟩
     rw[hL,hln,hOK] at HLE
     have HL:=ħ hL
     have HLN:=ħ hln
     have HOK:=ħ hOK
     rw[hOK] at HSS HAN
     clear hL hln hOK
     obtain⟨OS,hOS⟩:∃ b,(decide (EC=0)&&OK)=b:=⟨_,rfl⟩
     obtain⟨LS,hLS⟩:∃ l,Zw9 n m EC FK=l:=⟨_,rfl⟩
     obtain⟨sn,hsn⟩:∃ k,LS.length=k:=⟨_,rfl⟩
     rw[hOS,hLS,hsn] at HSS
     have HOS:=ħ hOS
     have HLS:=ħ hLS
     have HSN:=ħ hsn
     clear hOS hLS hsn
     go_wp2_with fail
     refine (HSM.o wr).mono ?_
     rintro e w4 ⟨so,rfl,hso,b4⟩
     have B4:=ħ (B3.o.trans (b4.mono B3.o.size))
     have HQ:=ħ (HLE.o w4 B4.o so hso)
     clear hso b4 B3
     go_wp2_with fail
     refine HQ.o.mono ?_
     rintro e w5 ⟨la,lc,rfl,hla,b5⟩
     have HLA:=ħ hla
     have B5:=ħ (B4.o.trans (b5.mono B4.o.size))
     clear hla b5 B4 HQ HLE
     have bx:=(Below.refl w5.heap.size w5).alloc (Nat.le_refl _) (.cells #[.int .i64 0,.string ⟨#[]⟩,.string ⟨#[]⟩,.int .i64 0,.slice none 0 0] 25)
     have BX:=ħ bx
     have Z0:Hid (Zah (w5.alloc (.cells #[.int .i64 0,.string ⟨#[]⟩,.string ⟨#[]⟩,.int .i64 0,.slice none 0 0] 25)) w5.heap.size 25 [.int .i64 0,.string ⟨#[]⟩,.string ⟨#[]⟩,.int .i64 0,.slice none 0 0]):=ħ (heap_alloc_new _ _)
     clear bx
     go_wp2_with (refine Zab rfl 25 (.tmp 13) (.tmp 73) rfl w5.heap.size #[.int .i64 1,.string ⟨#[]⟩,.string ⟨#[]⟩,.int .i64 0,.slice po pn pc] ?s1 ?s2 25 _ Z0.o (Zae _ rfl) rfl (by simp[Value.oneCell']) ?_;(case s1=>rfl);(case s2=>rfl);intro W2 s2 u2;have S2:Hid (Zah W2 w5.heap.size 25 [.int .i64 1,.string ⟨#[]⟩,.string ⟨#[]⟩,.int .i64 0,.slice po pn pc]):=ħ s2;have U2:=ħ u2;clear s2 u2)
     have W27:=ħ (U2.o.below BX.o (Nat.le_refl _))
     have B7:=ħ (B5.o.trans (W27.o.mono B5.o.size))
     have HL7:=ħ (HLA.o.below W27.o)
     have HCC:=ħ (Zwr (pc:=pc) (HPR.o W2 B7.o) HPN.o)
     have HHD:=ħ (fun k W (hW:Below W2.heap.size W2 W) ro rc hro=>HHO.o W2 B7.o _ HCC.o k W hW ro rc hro)
     have HHF:=ħ (fun W (hW:Below W2.heap.size W2 W) ro rc=>HHE.o W2 B7.o _ HCC.o W hW ro rc)
     have HSD:=ħ (fun W (hW:Below W2.heap.size W2 W) so hso=>HSS.o W2 B7.o _ HCC.o W hW so hso)
     clear HHO HHE HSS HCC HLA W27 U2 BX Z0 HPR
     generalize w5.heap.size=D at *
     clear B5
     go_wp2_with fail
     go_loopw [14,15] (fun mv kv wr=>∃ (k:Nat),kv = .int .i64 k∧k≤N∧mv = .bool (Z4c G k)∧Hid (Zah wr D 25 [.int .i64 1,.string ⟨#[]⟩,.string ⟨#[]⟩,.int .i64 0,.slice po pn pc])∧Hid (Below W2.heap.size W2 wr)) (fun _ k _=>(N-intOf k).toNat)
     case atStart=>exact⟨0,rfl,by omega,rfl,S2,ħ (Below.refl _ _)⟩
     case round =>
      clear S2
      obtain⟨k,rfl,hkn,rfl,XD,HW⟩:=hrel
      have h343:=H343.o
      have e2:IntKind.i64.wrap ((k:Int)+1)=((k+1:Nat):Int):=IntWalk.i64_in _ (by omega)
      go_wp2_with fail
      refine (HALL.o wr).mono ?_
      rintro e wl ⟨rfl,rfl⟩
      by_cases hlt:k<N
      ·have ii:(k:Int)<N:=by omega
       obtain⟨R,hR⟩:∃ R,G k=R:=⟨_,rfl⟩
       have HRV:=ħ hR
       have HST:Hid (Z4c G (k+1)=(Z4c G k||R)):=ħ (by rw[← hR];rfl)
       have HHK:=ħ (HHD.o k)
       rw[hR] at HHK
       clear hR
       go_wp2_with fail
       refine (HAS0.o k hlt wr).mono ?_
       rintro e w8 ⟨⟨xo,xc2,rfl,hxo⟩,b8⟩
       have HXO:=ħ (hxo.flatR Zc9 (Zd5 n m k).symm)
       have HXB:=ħ (hxo.bndR (Zd5 n m k).symm)
       have HW8:=ħ (HW.o.trans (b8.mono HW.o.size))
       have XD8:=ħ (XD.o.step b8)
       clear hxo b8 HW XD
       obtain⟨ak,hak⟩:∃ b,Z4c G k=b:=⟨_,rfl⟩
       rw[hak] at HST ⊢
       clear hak
       go_wp2_with (refine wpList_load_row rfl 25 (.tmp 13) rfl D ?y8 25 #[.int .i64 1,.string ⟨#[]⟩,.string ⟨#[]⟩,.int .i64 0,.slice po pn pc] (0,0) _ XD8.o Tryz.underlying25 rfl (Zae _ rfl) ?_;(case y8=>rfl))
       refine (HHK.o w8 HW8.o xo xc2 HXB.o).mono ?_
       rintro e w9 ⟨rfl,b9⟩
       have HW9:=ħ (HW8.o.trans (b9.mono HW8.o.size))
       have XD9:=ħ (XD8.o.step b9)
       have HXO9:=ħ (HXO.o.below b9)
       clear b9 HW8 XD8 HXO HXB HHK
       cases R with
       | false =>
        go_wp2_with fail
        go_roundw
        case rel=>exact⟨k+1,by go_num,by omega,by rw[HST.o,Bool.or_false],XD9,HW9⟩
        case measure=>simp only[intOf];omega
       | true =>
        cases FK with
        | none =>
         exfalso
         have:=HFN.o rfl k hlt
         rw[HRV.o] at this
         cases this
        | some k0 =>
         obtain rfl:L=Zmj n m k0:=by rw[← HL.o];rfl
         obtain rfl:n=ln:=by rw[← HLN.o,HAL.o]
         have HMK:=ħ (HMIN.o k0 rfl k hlt HRV.o)
         have nb:((n:Int) != (n:Int))=false:=by simp
         go_wp2_with fail
         go_loopw [19] (fun iv wq=>∃ (j:Nat),iv = .int .i64 j∧j≤n∧Hid (Below w9.heap.size w9 wq)) (fun j _=>(n-intOf j).toNat)
         case atStart=>exact⟨0,rfl,by omega,ħ (Below.refl _ _)⟩
         case round =>
          obtain⟨j,rfl,hj,HW10⟩:=hrel
          have e5:IntKind.i64.wrap ((j:Int)+1)=((j+1:Nat):Int):=IntWalk.i64_in _ (by omega)
          by_cases hjn:j<n
          ·have jj:(j:Int)<n:=by omega
           obtain⟨gx,ox,hxo,hgx,hcx⟩:=(HXO9.o.below HW10.o).at Zc9 j _ (HBV.o k j hjn)
           obtain⟨gl,ol,hlo,hgl,hcl⟩:=(HL7.o.below (HW9.o.trans (HW10.o.mono HW9.o.size))).at Zc9 j _ (HBV.o k0 j hjn)
           have c1:=hcx 1 _ rfl
           have c2:=hcl 1 _ rfl
           have hmin:=HMK.o j hjn
           have HXE:=ħ hxo
           have HLE2:=ħ hlo
           generalize gv (Zfe n m k) (j+1)=v1 at *
           generalize gv (Zfe n m k0) (j+1)=v2 at *
           have hv:¬ (v1<v2):=by omega
           have mixed:Tryz.prog.follows .mixedOrders=true:=by kernel_rfl
           clear hcx hcl hgx hgl hmin
           subst hxo hlo
           go_wp2_with fail
           go_region_o
           go_wp2_with fail
           go_roundw
           case rel=>exact⟨j+1,by go_num,by omega,ħ (HW10.o.drew)⟩
           case measure=>simp only[intOf];omega
          ·have jj:¬ ((j:Int)<n):=by omega
           have HW11:=ħ (HW9.o.trans (HW10.o.mono HW9.o.size))
           have XD11:=ħ (XD9.o.step HW10.o)
           clear nb
           go_wp2_with fail
           go_roundw
           case rel=>exact⟨k+1,by go_num,by omega,by rw[HST.o,Bool.or_true],XD11,HW11⟩
           case measure=>simp only[intOf];omega
      ·have ii:¬ ((k:Int)<N):=by omega
       obtain rfl:N=k:=by omega
       rw[HAN.o]
       clear HAS0 HALL HMIN HBV HAN
       have HF:=HSD
       go_upto_region 30 with (fail)
       refine Zfu (lsF po pn pc D n m sn OS EC LS) (by kernel_rfl) (Z4e po pn pc D n m sn OS EC LS) (Ze4 (by kernel_rfl)) (Zty (by kernel_rfl)) (Zdl (by kernel_rfl)) ?hs ?he
       case hs =>
        intro i o hi listed a' w' H hl2
        have hl3:=Za8 hl2
        have hin:i<12:=(Array.getElem?_eq_some_iff.1 hi).1
        have hb:=ħ H.below
        have s13:=H.same 13 (Zan (by kernel_rfl))
        have s8:=H.same 8 (Zan (by kernel_rfl))
        have s9:=H.same 9 (Zan (by kernel_rfl))
        have hdn:=H.done
        have hdf:=H.defers
        have hts:=H.tsize
        clear hl2 H
        obtain⟨t',df⟩:=a'
        obtain⟨f',rfl⟩:=Z7x t' hts
        have hdf':df=[]:=hdf
        subst hdf'
        have gs13:f' 13 = .pointer (some ⟨D,0,none⟩):=s13
        have gs8:f' 8 = .int .i64 (n:Nat):=s8
        have gs9:f' 9 = .int .i64 (m:Nat):=s9
        clear s13 s8 s9
        clear hdf hts
        have hcases:=Zwq i hin
        clear hin
        rcases hcases with rfl | rfl | rfl | rfl | rfl | rfl | rfl | rfl | rfl | rfl | rfl | rfl
        ·obtain rfl:=Option.some.inj hi
         clear hdn hl3
         rw[gs13]
         clear gs13 gs8 gs9
         have X2:=XD.o.step hb.o
         refine Zac rfl ?_
         go_wp2_with (refine wpList_load_row rfl 25 (.tmp 13) rfl D ?x1 25 #[.int .i64 1,.string ⟨#[]⟩,.string ⟨#[]⟩,.int .i64 0,.slice po pn pc] (0,0) _ X2 Tryz.underlying25 rfl (Zae _ rfl) ?_;(case x1=>rfl))
         exact Zaa ⟨_,rfl,Below.refl _ _,rfl⟩
        ·obtain rfl:=Option.some.inj hi
         clear hdn hl3
         rw[gs8]
         clear gs13 gs8 gs9
         refine Zac rfl ?_
         go_wp2_with fail
         exact Zaa ⟨_,rfl,Below.refl _ _,rfl⟩
        ·obtain rfl:=Option.some.inj hi
         have dv1:f' 118 = .int .i64 (n:Nat):=hdn 1 _ 118 rfl (hl3 1 (by rfl)) rfl
         clear hdn hl3
         rw[dv1]
         clear dv1 gs13 gs8 gs9
         refine Zac rfl ?_
         go_wp2_with fail
         refine (HSM.o w').mono ?_
         rintro e w4 ⟨so,rfl,hs,b4⟩
         have HS:=ħ hs
         have HB4:=ħ b4
         clear hs b4
         go_wp2_with fail
         exact Zaa ⟨_,rfl,HB4.o,so,rfl,HS.o⟩
        ·obtain rfl:=Option.some.inj hi
         clear hdn hl3
         rw[gs9]
         clear gs13 gs8 gs9
         refine Zac rfl ?_
         go_wp2_with fail
         exact Zaa ⟨_,rfl,Below.refl _ _,rfl⟩
        ·obtain rfl:=Option.some.inj hi
         have dv0:f' 117 = .agg #[.int .i64 1,.string ⟨#[]⟩,.string ⟨#[]⟩,.int .i64 0,.slice po pn pc]:=hdn 0 _ 117 rfl (hl3 0 (by rfl)) rfl
         have dv2:lsF po pn pc D n m sn OS EC LS 2 w' (f' 119):=hdn 2 _ 119 rfl (hl3 2 (by rfl)) rfl
         obtain⟨so,dv2,hso⟩:=dv2
         have dv3:f' 120 = .int .i64 (m:Nat):=hdn 3 _ 120 rfl (hl3 3 (by rfl)) rfl
         clear hdn hl3
         rw[dv0,dv2,dv3]
         clear dv0 dv2 dv3 gs13 gs8 gs9
         have HSO:=ħ hso
         clear hso
         refine Zac rfl ?_
         go_wp2_with fail
         refine (HF.o w' (HW.o.trans (hb.o.mono HW.o.size)) so HSO.o).mono ?_
         rintro e w4 ⟨ro,rc,rfl,hro,b4⟩
         have HRO:=ħ hro
         have HB4:=ħ b4
         clear b4 hro
         go_wp2_with fail
         exact Zaa ⟨_,rfl,HB4.o,ro,rc,rfl,HRO.o⟩
        ·obtain rfl:=Option.some.inj hi
         have dv4:lsF po pn pc D n m sn OS EC LS 4 w' (f' 121):=hdn 4 _ 121 rfl (hl3 4 (by rfl)) rfl
         obtain⟨ro,rc,dv4,hro⟩:=dv4
         clear hdn hl3
         rw[dv4]
         clear dv4 gs13 gs8 gs9
         have HRO:=ħ hro
         clear hro
         refine Zac rfl ?_
         go_wp2_with fail
         exact Zaa ⟨_,rfl,Below.refl _ _,ro,rc,rfl,HRO.o⟩
        ·obtain rfl:=Option.some.inj hi
         have dv5:lsF po pn pc D n m sn OS EC LS 5 w' (f' 116):=hdn 5 _ 116 rfl (hl3 5 (by rfl)) rfl
         obtain⟨ro,rc,dv5,hro⟩:=dv5
         clear hdn hl3
         rw[dv5]
         clear dv5 gs13 gs8 gs9
         have HRO:=ħ hro
         clear hro
         refine Zac rfl ?_
         go_wp2_with fail
         exact Zaa ⟨_,rfl,Below.refl _ _,ro,rc,rfl,HRO.o⟩
        ·obtain rfl:=Option.some.inj hi
         have dv5:lsF po pn pc D n m sn OS EC LS 5 w' (f' 116):=hdn 5 _ 116 rfl (hl3 5 (by rfl)) rfl
         obtain⟨ro,rc,dv5,hro⟩:=dv5
         clear hdn hl3
         rw[dv5]
         clear dv5 gs13 gs8 gs9
         clear hro
         refine Zac rfl ?_
         go_wp2_with fail
         exact Zaa ⟨_,rfl,Below.refl _ _,rfl⟩
        ·obtain rfl:=Option.some.inj hi
         have dv5:lsF po pn pc D n m sn OS EC LS 5 w' (f' 116):=hdn 5 _ 116 rfl (hl3 5 (by rfl)) rfl
         obtain⟨ro,rc,dv5,hro⟩:=dv5
         clear hdn hl3
         rw[dv5]
         clear dv5 gs13 gs8 gs9
         clear hro
         refine Zac rfl ?_
         go_wp2_with fail
         exact Zaa ⟨_,rfl,Below.refl _ _,rfl⟩
        ·obtain rfl:=Option.some.inj hi
         have dv6:lsF po pn pc D n m sn OS EC LS 6 w' (f' 122):=hdn 6 _ 122 rfl (hl3 6 (by rfl)) rfl
         obtain⟨ro,rc,dv6,hro⟩:=dv6
         clear hdn hl3
         rw[dv6]
         clear dv6 gs13 gs8 gs9
         have HRO:=ħ hro
         clear hro
         refine Zac rfl ?_
         go_wp2_with fail
         exact Zaa ⟨_,rfl,Below.refl _ _,ro,rc,rfl,HRO.o⟩
        ·obtain rfl:=Option.some.inj hi
         have dv7:f' 123 = .bool OS:=hdn 7 _ 123 rfl (hl3 7 (by rfl)) rfl
         clear hdn hl3
         rw[dv7]
         clear dv7 gs13 gs8 gs9
         refine Zac rfl ?_
         go_wp2_with fail
         exact Zaa ⟨_,rfl,Below.refl _ _,rfl⟩
        ·obtain rfl:=Option.some.inj hi
         have dv8:f' 124 = .int .i64 EC:=hdn 8 _ 124 rfl (hl3 8 (by rfl)) rfl
         clear hdn hl3
         rw[dv8]
         clear dv8 gs13 gs8 gs9
         refine Zac rfl ?_
         go_wp2_with fail
         exact Zaa ⟨_,rfl,Below.refl _ _,rfl⟩
       case he =>
        intro listed a' w4 H hall
        have hd9:lsF po pn pc D n m sn OS EC LS 9 w4 (a'.tmps.getD 20 undef):=H.done 9 _ 20 rfl (hall 9 (by decide)) rfl
        have hd10:lsF po pn pc D n m sn OS EC LS 10 w4 (a'.tmps.getD 21 undef):=H.done 10 _ 21 rfl (hall 10 (by decide)) rfl
        have hd11:lsF po pn pc D n m sn OS EC LS 11 w4 (a'.tmps.getD 22 undef):=H.done 11 _ 22 rfl (hall 11 (by decide)) rfl
        have hb4:=ħ H.below
        have hact:=H.act [117,118,119,120,121,116,122,123,124,20,21,22] (Zt1 (by kernel_rfl))
        clear H hall
        simp only[List.foldl_cons,List.foldl_nil] at hact
        generalize a'.tmps.getD 117 undef=z117 at *
        generalize a'.tmps.getD 118 undef=z118 at *
        generalize a'.tmps.getD 119 undef=z119 at *
        generalize a'.tmps.getD 120 undef=z120 at *
        generalize a'.tmps.getD 121 undef=z121 at *
        generalize a'.tmps.getD 116 undef=z116 at *
        generalize a'.tmps.getD 122 undef=z122 at *
        generalize a'.tmps.getD 123 undef=z123 at *
        generalize a'.tmps.getD 124 undef=z124 at *
        generalize a'.tmps.getD 20 undef=z20 at *
        generalize a'.tmps.getD 21 undef=z21 at *
        generalize a'.tmps.getD 22 undef=z22 at *
        subst hact
        obtain⟨ro,rc,e9,hro⟩:=hd9
        subst e9
        have e10:z21 = .bool OS:=hd10
        subst e10
        clear hd10
        have e11:z22 = .int .i64 EC:=hd11
        subst e11
        clear hd11
        simp only[Act.put,List.setIfInBounds_toArray,List.set_cons_succ,List.set_cons_zero]
        have HRO:=ħ hro
        have HW4:=ħ (HW.o.trans (hb4.o.mono HW.o.size))
        have XD4:=ħ (XD.o.step hb4.o)
        have B8:=ħ (B7.o.trans (HW4.o.mono B7.o.size))
        clear hb4 HW XD HF HSD hro
        rcases HEC.o with h | h
        ·subst h
         clear HOS HLS HSN
         go_wp2_with fail
         go_ret
         exact⟨rfl,B8.o⟩
        ·subst h
         cases FK with
         | none =>
          obtain rfl:OK=false:=by rw[← HOK.o];rfl
          obtain rfl:OS=false:=by rw[← HOS.o];rfl
          obtain rfl:L=[]:=by rw[← HL.o];rfl
          obtain rfl:LS=[]:=by rw[← HLS.o];rfl
          obtain rfl:ln=0:=HLN.o.symm
          obtain rfl:sn=0:=HSN.o.symm
          have HQ:=ħ (HHF.o w4 HW4.o la lc)
          generalize (Zp6 (Zcm ps) []).1=hr1 at *
          generalize (Zp6 (Zcm ps) []).2=hr2 at *
          clear HOK HOS HL HLS HLN HSN HFL HHF HHD HFN
          go_wp2_with (refine wpList_load_row rfl 25 (.tmp 13) rfl D ?y9 25 #[.int .i64 1,.string ⟨#[]⟩,.string ⟨#[]⟩,.int .i64 0,.slice po pn pc] (0,0) _ XD4.o Tryz.underlying25 rfl (Zae _ rfl) ?_;(case y9=>rfl))
          refine HQ.o.mono ?_
          rintro e w10 ⟨rfl,b10⟩
          have B10:=ħ (B8.o.trans (b10.mono B8.o.size))
          clear b10 HQ B8
          go_wp2_with fail
          refine (Z0r w10 _ _ _ _).mono ?_
          rintro e w11 ⟨rfl,b11⟩
          have B11:=ħ (B10.o.trans (b11.mono B10.o.size))
          clear b11 B10
          go_wp2_with fail
          go_ret
          exact⟨rfl,B11.o⟩
         | some k0 =>
          obtain rfl:OK=true:=by rw[← HOK.o];rfl
          obtain rfl:OS=true:=by rw[← HOS.o];rfl
          obtain rfl:L=Zmj n m k0:=by rw[← HL.o];rfl
          obtain rfl:LS=Zmj n m k0:=by rw[← HLS.o];rfl
          obtain rfl:n=ln:=by rw[← HLN.o,HAL.o]
          obtain rfl:n=sn:=by rw[← HSN.o,HAL.o]
          have hk0:=HFL.o k0 rfl
          have HL8:=ħ (HL7.o.below HW4.o)
          have HQ:=ħ (HHD.o k0 w4 HW4.o la lc HL8.o.bndR)
          rw[hk0.2.1] at HQ
          clear HOK HOS HL HLS HLN HSN HFL HHF HHD HFN hk0
          go_wp2_with (refine wpList_load_row rfl 25 (.tmp 13) rfl D ?y10 25 #[.int .i64 1,.string ⟨#[]⟩,.string ⟨#[]⟩,.int .i64 0,.slice po pn pc] (0,0) _ XD4.o Tryz.underlying25 rfl (Zae _ rfl) ?_;(case y10=>rfl))
          refine HQ.o.mono ?_
          rintro e w10 ⟨rfl,b10⟩
          have B10:=ħ (B8.o.trans (b10.mono B8.o.size))
          have HQ2:=ħ (HSB.o k0 w10 ro rc la lc (HRO.o.below b10) (HL8.o.below b10))
          clear b10 HQ B8 HSB
          go_wp2_with fail
          refine HQ2.o.mono ?_
          rintro e w11 ⟨rfl,b11⟩
          have B11:=ħ (B10.o.trans (b11.mono B10.o.size))
          clear b11 B10 HQ2
          go_wp2_with fail
          go_ret
          exact⟨rfl,B11.o⟩
end Go.Proofs.YtmkdfbelbcocpaaGreatDoor
