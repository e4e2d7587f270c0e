import Derived.Test.YtmkdfbelbcocpaaGreatDoorCD35
import Derived.Test.YtmkdfbelbcocpaaGreatDoorCD36
set_option linter.unusedVariables false
set_option linter.unusedSimpArgs false
set_option maxHeartbeats 32000000
set_option maxRecDepth 100000
namespace Go.Proofs.YtmkdfbelbcocpaaGreatDoor
open Go.RowKit Go.Sort
theorem Z8h (t:Array Value) (h:t.size=225):∃ f:Nat→Value,t=#[f 0,f 1,f 2,f 3,f 4,f 5,f 6,f 7,f 8,f 9,f 10,f 11,f 12,f 13,f 14,f 15,f 16,f 17,f 18,f 19,f 20,f 21,f 22,f 23,f 24,f 25,f 26,f 27,f 28,f 29,f 30,f 31,f 32,f 33,f 34,f 35,f 36,f 37,f 38,f 39,f 40,f 41,f 42,f 43,f 44,f 45,f 46,f 47,f 48,f 49,f 50,f 51,f 52,f 53,f 54,f 55,f 56,f 57,f 58,f 59,f 60,f 61,f 62,f 63,f 64,f 65,f 66,f 67,f 68,f 69,f 70,f 71,f 72,f 73,f 74,f 75,f 76,f 77,f 78,f 79,f 80,f 81,f 82,f 83,f 84,f 85,f 86,f 87,f 88,f 89,f 90,f 91,f 92,f 93,f 94,f 95,f 96,f 97,f 98,f 99,f 100,f 101,f 102,f 103,f 104,f 105,f 106,f 107,f 108,f 109,f 110,f 111,f 112,f 113,f 114,f 115,f 116,f 117,f 118,f 119,f 120,f 121,f 122,f 123,f 124,f 125,f 126,f 127,f 128,f 129,f 130,f 131,f 132,f 133,f 134,f 135,f 136,f 137,f 138,f 139,f 140,f 141,f 142,f 143,f 144,f 145,f 146,f 147,f 148,f 149,f 150,f 151,f 152,f 153,f 154,f 155,f 156,f 157,f 158,f 159,f 160,f 161,f 162,f 163,f 164,f 165,f 166,f 167,f 168,f 169,f 170,f 171,f 172,f 173,f 174,f 175,f 176,f 177,f 178,f 179,f 180,f 181,f 182,f 183,f 184,f 185,f 186,f 187,f 188,f 189,f 190,f 191,f 192,f 193,f 194,f 195,f 196,f 197,f 198,f 199,f 200,f 201,f 202,f 203,f 204,f 205,f 206,f 207,f 208,f 209,f 210,f 211,f 212,f 213,f 214,f 215,f 216,f 217,f 218,f 219,f 220,f 221,f 222,f 223,f 224]:=by
 obtain⟨l⟩:=t
 have hl:l.length=225:=h
 have e:l=(List.range 225).map (fun i=>l.getD i undef):=by
  apply List.ext_getElem
  ·simp[hl]
  ·intro i h1 h2
   simp[List.getD,h1]
 exact⟨fun i=>l.getD i undef,congrArg List.toArray e⟩
def dkF (r0 r3:Int) (r1 r2:ByteArray) (ya:Option Addr) (yn yc g off z pn pc n m k:Nat) (R:Bool) (i:Nat) (W:World) (v:Value):Prop:=match i with
 | 0=>v = .slice (some ⟨g,off,none⟩) pn pc
 | 1=>v = .int .i64 (z:Nat)
 | 2=>v = .pointer (some ⟨g,off+z*5,none⟩)
 | 3=>v = .agg #[.int .i64 r0,.string r1,.string r2,.int .i64 r3,.slice ya yn yc]
 | 4=>v = .int .i64 (k:Nat)
 | 5=>v = .int .i64 (n:Nat)
 | 6=>v = .int .i64 (m:Nat)
 | 7=>∃ ro rc,v = .slice ro n rc∧Z25 W (fun _=>True) (Znl n m k) ro
 | 8=>v = .tuple #[.bool R,.int .i64 0]
 | 9=>v = .tuple #[.bool R,.int .i64 0]
 | 10=>v = .bool R
 | 11=>v = .int .i64 0
 | 12=>v = .bool R
 | 13=>v = .int .i64 0
 | _=>True
theorem Z4p (r0 r3:Int) (r1 r2:ByteArray) (ya:Option Addr) (yn yc g off z pn pc n m k:Nat) (R:Bool):∀ i w w' v,dkF r0 r3 r1 r2 ya yn yc g off z pn pc n m k R i w v→Below w.heap.size w w'→dkF r0 r3 r1 r2 ya yn yc g off z pn pc n m k R i w' v:=by
 intro i w w' v h hb
 match i with
 | 0=>exact h
 | 1=>exact h
 | 2=>exact h
 | 3=>exact h
 | 4=>exact h
 | 5=>exact h
 | 6=>exact h
 | 7=>obtain⟨ro,rc,h1,h2⟩:=h;exact⟨ro,rc,h1,h2.below hb⟩
 | 8=>exact h
 | 9=>exact h
 | 10=>exact h
 | 11=>exact h
 | 12=>exact h
 | 13=>exact h
 | k+14=>trivial
theorem Zjx (p:Prd) (w:World) (P:Nat→Prop) (vs:List Value) (ls:List Prd) (lo:Option Addr) (ln lc:Nat) (x y:Nat) (B:Nat) (hT:Tab w B) (hp:Zai w P p vs) (hls:Zbj w P ls lo) (hln:ln=ls.length) (hsz:(ln+1)*72≤140737488355328) (hb:ByL p) (hbl:∀ q∈ls,ByL q) (hlen:Zuu p) (hlens:∀ q∈ls,Zuu q) (hx:x≤255) (hy:y≤255) :
  Calls Tryz.prog 10 #[.agg vs.toArray,.slice lo ln lc,.int .u8 x,.int .u8 y] w fun e w'=>e = .returned (.bool true)∧Below w.heap.size w w':=by
 obtain⟨xa,xn,xc,rfl,-⟩:=hp.form
 have HSA:=ħ (fun W (hW:Below w.heap.size w W)=>Z8e W B (Zc0.step (w:=w) hT hW))
 have PCp:=ħ hp.wide
 have HLS:=ħ (fun W (hW:Below w.heap.size w W)=>hls.below hW)
 have HTB:=ħ (fun W (hW:Below w.heap.size w W)=>(show Tab W B from Zc0.step (w:=w) hT hW))
 obtain⟨L,hL⟩:∃ L,p::ls=L:=⟨_,rfl⟩
 obtain⟨pn,hpn⟩:∃ k,k=ln+1:=⟨_,rfl⟩
 have HPN:=ħ hpn
 have HLL:Hid (L.length=pn):=ħ (by rw[← hL,hpn,hln];rfl)
 have HBY:Hid (∀ q∈L,ByL q):=ħ (by
  rw[← hL]
  intro q hq
  rcases List.mem_cons.1 hq with h | h
  ·rw[h];exact hb
  ·exact hbl q h)
 have HLE:Hid (∀ q∈L,Zuu q):=ħ (by
  rw[← hL]
  intro q hq
  rcases List.mem_cons.1 hq with h | h
  ·rw[h];exact hlen
  ·exact hlens q h)
 have HL:=ħ hL
 have HDC:=ħ (fun n (m:Nat) (h1:1≤n) (hn:n≤3) (hm:m≤6) (h4:ln≤4) (hg:∀ q∈L,GoP n q) (hc:∀ s∈Zao n,∃ q∈L,s∈Zhq q) W (hW:Below w.heap.size w W)=>(Zvj W P p _ ls lo ln lc (m:Int) B (Zc0.step (w:=w) hT hW) (hp.below hW) (hls.below hW) hln h4 (by rw[hL];exact fun q hq=>(hg q hq).valid) (by rw[hL];exact fun q hq=>Ziw q (Zet (hg q hq).valid)) (by rw[hL];exact fun q hq=>by have:=(Zil (hg q hq).valid).1;omega)).mono (fun e w' hh=>(by
  rw[hL,Z4i h1 hn hg hc,Z4j h1 hn hm hg,Z4l hn (GoP.comps hg)] at hh
  exact Zte.asg hn hh:∃ ro rc so sc,e = .returned (.tuple #[.slice ro (Z0u n m (if 8<(Zak L).length then (6:Int) else 0) ((Zkn (fun i k=>Zgq (trU (Zao n) L (gv (Zcq n m i))) (trU (Zao n) L (gv (Zcq n m k)))) ((m+1)^n)).map (·.1))).length rc,.slice so (Z0u n m (if 8<(Zak L).length then (6:Int) else 0) ((Zkn (fun i k=>Zgq (trU (Zao n) L (gv (Zcq n m i))) (trU (Zao n) L (gv (Zcq n m k)))) ((m+1)^n)).map (·.2))).length sc,.bool (decide ((if 8<(Zak L).length then (6:Int) else 0)=0)&&(Zkn (fun i k=>Zgq (trU (Zao n) L (gv (Zcq n m i))) (trU (Zao n) L (gv (Zcq n m k)))) ((m+1)^n)).isSome),.int .i64 (if 8<(Zak L).length then (6:Int) else 0)])∧Za7 Zfj w' ro (Z0u n m (if 8<(Zak L).length then (6:Int) else 0) ((Zkn (fun i k=>Zgq (trU (Zao n) L (gv (Zcq n m i))) (trU (Zao n) L (gv (Zcq n m k)))) ((m+1)^n)).map (·.1)))∧Za7 Zfj w' so (Z0u n m (if 8<(Zak L).length then (6:Int) else 0) ((Zkn (fun i k=>Zgq (trU (Zao n) L (gv (Zcq n m i))) (trU (Zao n) L (gv (Zcq n m k)))) ((m+1)^n)).map (·.2)))∧Below W.heap.size W w')))
 have HLC:=ħ hln
 have HSZ:=ħ hsz
 clear hT hp hls hln hsz hb hbl hlen hlens hL hpn
 generalize p.k=q0 at *
 generalize Zad p.l=q1 at *
 generalize Zad p.r=q2 at *
 generalize p.c=q3 at *
 have bx:=(Below.refl w.heap.size w).alloc (Nat.le_refl _) (.cells #[.int .i64 q0,.string q1,.string q2,.int .i64 q3,.slice xa xn xc] 25)
 have B1:=ħ bx
 have Y1:Hid (Zah (w.alloc (.cells #[.int .i64 q0,.string q1,.string q2,.int .i64 q3,.slice xa xn xc] 25)) w.heap.size 25 [.int .i64 q0,.string q1,.string q2,.int .i64 q3,.slice xa xn xc]):=ħ (heap_alloc_new w _)
 clear bx
 go_enter Tryz.func10,Tryz.ntmps10
 go_upto_region 1 with (fail)
 generalize w.alloc (.cells #[.int .i64 q0,.string q1,.string q2,.int .i64 q3,.slice xa xn xc] 25)=w1 at *
 go_wp2_with fail
 refine (HSA.o w1 B1.o).mono ?_
 rintro e w2 ⟨rfl,b2⟩
 have B2:=ħ (B1.o.trans (b2.mono B1.o.size))
 have Y2:=ħ (Y1.o.step b2)
 clear b2 B1 Y1 HSA
 go_upto_region 4 with (fail)
 have hnn:(1+(x:Int)%2)=((1+x%2:Nat):Int):=by omega
 have hmm:((y:Int)%7)=((y%7:Nat):Int):=by omega
 rw[hnn,hmm]
 have h1:1≤1+x%2:=by omega
 have h3:1+x%2≤2:=by omega
 have h6:y%7≤6:=by omega
 clear hnn hmm hx hy
 generalize 1+x%2=n at *
 generalize y%7=m at *
 have by1:=(Below.refl w2.heap.size w2).alloc (Nat.le_refl _) (.cells #[.int .i64 q0,.string q1,.string q2,.int .i64 q3,.slice xa xn xc] 25)
 have Z3:Hid (Zah (w2.alloc (.cells #[.int .i64 q0,.string q1,.string q2,.int .i64 q3,.slice xa xn xc] 25)) w2.heap.size 25 [.int .i64 q0,.string q1,.string q2,.int .i64 q3,.slice xa xn xc]):=ħ (heap_alloc_new w2 _)
 have B3:=ħ (B2.o.trans (by1.mono B2.o.size))
 have Y3:=ħ (Y2.o.step by1)
 clear by1
 go_upto_region 5 with (first | (refine wpList_load_row rfl 25 (.tmp 4) rfl (w.heap.size) ?z2 25 #[.int .i64 q0,.string q1,.string q2,.int .i64 q3,.slice xa xn xc] (0,0) _ Y2.o Tryz.underlying25 rfl (Zae _ rfl) ?_;(case z2=>rfl)) | (at_builtin;refine Zwy _ rfl (.tmp 38) (.tmp 39) rfl p _ P ls L HL.o w2.heap.size ln lc lo rfl rfl (PCp.o.below B3.o) Z3.o (HLS.o _ B3.o) HLC.o HSZ.o pn HPN.o ?_;intro po pc w4 hpr b4;have HPR:=ħ (Zbj.mono (P':=fun g=>g<w4.heap.size) hpr (fun g _ hg=>hg));have B4:=ħ (B3.o.trans (b4.mono B3.o.size));have Y4:=ħ (Y3.o.step b4);clear hpr b4))
 clear Z3 B2 Y2 B3 Y3 HL HLS PCp HSZ HLC
 have hpl0:=HPN.o
 have hpl1:1≤pn:=by omega
 have hpl2:ln≤pn:=by omega
 have hpl3:pn≤ln+1:=by omega
 clear hpl0
 by_cases hl3:3<ln
 ·have il:(3:Int)<(ln:Int):=by omega
  go_wp2_with fail
  go_ret
  exact⟨rfl,B4.o⟩
 have il:¬ ((3:Int)<(ln:Int)):=by omega
 have hpl4:pn≤4:=by omega
 have hl4:ln≤4:=by omega
 have hmk:=run_make_row' (P:=Tryz.prog) 70 4 (.bool false) 1 Tryz.underlying70 Zqz rfl .i64 .i64 n (by omega) (by omega)
 rw[Zv6] at hmk
 have bx:=(Below.refl w4.heap.size w4).alloc (Nat.le_refl _) (.cells (bvs (List.replicate n false)).toArray 4)
 have B5:=ħ (B4.o.trans (bx.mono B4.o.size))
 have Y5:=ħ (Y4.o.step bx)
 have HP5:=ħ (HPR.o.below bx)
 have M5:Hid (Zah (w4.alloc (.cells (bvs (List.replicate n false)).toArray 4)) w4.heap.size 4 (bvs (List.replicate n false))):=ħ (heap_alloc_new _ _)
 have HA4:Hid (w.heap.size<w4.heap.size):=ħ Y4.o.lt
 clear bx
 go_wp2_with fail
 generalize hw5:w4.alloc (.cells (bvs (List.replicate n false)).toArray 4)=w5 at *
 clear hmk B4 Y4 HPR il hw5
 generalize w4.heap.size=MB at *
 have HSM:=ħ (fun W=>Zmr n (by omega) W)
 have HSL:=ħ (Zc8 (n:=n) (by omega))
 have HSB:=ħ (Zrt (n:=n) (by omega))
 go_loopw [14] (fun iv wr=>∃ (i:Nat) (mt:List Bool),iv = .int .i64 i∧i≤pn∧Hid (mt.length=n)∧Hid (∀ j s,mt.getD j false=true→(Zao n)[j]?=some s→∃ q∈L,s∈Zhq q)∧Hid (∀ j q,j<i→L[j]?=some q→GoP n q)∧Hid (Zah wr w.heap.size 25 [.int .i64 q0,.string q1,.string q2,.int .i64 q3,.slice xa xn xc])∧Hid (Zah wr MB 4 (bvs mt))∧Hid (Zbj wr (fun g=>g<MB) L po)∧Hid (Below w.heap.size w wr)) (fun i _=>(pn-intOf i).toNat)
 case atStart=>exact⟨0,List.replicate n false,rfl,by omega,ħ (by simp),ħ (fun j s hj=>by
  exfalso
  rw[List.getD_eq_getElem?_getD,List.getElem?_replicate] at hj
  split at hj<;>simp at hj),ħ (fun j q hj=>absurd hj (Nat.not_lt_zero j)),Y5,M5,HP5,B5⟩
 case round =>
  clear B5 Y5 M5 HP5
  obtain⟨i,mt,rfl,hi,hml,hmt,hgo,Y6,M6,HP6,B6⟩:=hrel
  have e2:IntKind.i64.wrap ((i:Int)+1)=((i+1:Nat):Int):=IntWalk.i64_in _ (by omega)
  by_cases hlt:i<pn
  ·have ii:(i:Int)<pn:=by omega
   obtain⟨q,hq⟩:∃ q,L[i]?=some q:=⟨_,List.getElem?_eq_getElem (by rw[HLL.o];exact hlt)⟩
   have HQL:=ħ (List.mem_of_getElem? hq)
   have HNX:=ħ (fun (h:GoP n q) j q' (hj:j<i+1) (hq':L[j]?=some q')=>(show GoP n q' from by
    rcases Nat.lt_or_ge j i with h2 | h2
    ·exact hgo.o j q' h2 hq'
    ·obtain rfl:j=i:=by omega
     rw[hq] at hq'
     obtain rfl:=Option.some.inj hq'
     exact h))
   have HBQ:=ħ (HBY.o q HQL.o)
   have HLQ:=ħ (HLE.o q HQL.o)
   obtain⟨g,off,vs,hao,hgl,hpc,hrd⟩:=HP6.o.at i q hq
   obtain⟨ya,yn,yc,hvf,-⟩:=hpc.form
   subst hvf
   have HF:=ħ (fun W (hW:Below wr.heap.size wr W)=>Z6l q 30 8 (by omega) (by omega) W _ _ HLQ.o (hpc.below hW))
   have HV:=ħ (fun W (hW:Below wr.heap.size wr W) (hc:Z7s q 30 8=true)=>Zwh q W _ _ B (Nat.le_trans (Z6q hc) (by omega)) HBQ.o (hpc.below hW) (HTB.o W (B6.o.trans (hW.mono B6.o.size))))
   have HK:=ħ (fun W (hW:Below wr.heap.size wr W) (hv:Zau q=true)=>Z0t q W _ _ B n (by have:=(Zil hv).1;omega) (Ziw q (Zet hv)) (hpc.below hW) (HTB.o W (B6.o.trans (hW.mono B6.o.size))) (by omega))
   have HG:=ħ (fun (hv:Zau q=true) (hk:Zms n q=true)=>(show GoP n q from ⟨hv,(Z0r hv).1 hk⟩))
   have s0:=hrd 0 _ rfl
   have s1:=hrd 1 _ rfl
   have s2:=hrd 2 _ rfl
   have s3:=hrd 3 _ rfl
   have s4:=hrd 4 _ rfl
   rw[Nat.add_zero] at s0
   have HBL:=ħ (fun W (hW:Below wr.heap.size wr W)=>hrd.of_block (hW.block g hgl))
   have HQI:=ħ hq
   clear hq hpc hrd hgl
   subst hao
   generalize hr0:q.k=r0 at *
   generalize hr1:Zad q.l=r1 at *
   generalize hr2:Zad q.r=r2 at *
   generalize hr3:q.c=r3 at *
   have HR0:=ħ hr0
   have HR1:=ħ hr1
   have HR2:=ħ hr2
   have HR3:=ħ hr3
   clear hr0 hr1 hr2 hr3
   obtain⟨b1,hb1⟩:∃ b,Z7s q 30 8=b:=⟨_,rfl⟩
   obtain⟨b2,hb2⟩:∃ b,Zau q=b:=⟨_,rfl⟩
   obtain⟨b3,hb3⟩:∃ b,Zms n q=b:=⟨_,rfl⟩
   rw[hb1] at HF HV
   rw[hb2] at HV HK HG
   rw[hb3] at HK HG
   clear hb1 hb2 hb3
   go_wp2_with fail
   refine (HF.o wr (Below.refl _ _)).mono ?_
   rintro e w7 ⟨rfl,b7⟩
   have W7:=ħ b7
   have hr:=HBL.o w7 b7
   clear s0 s1 s2 s3 s4 b7 HF
   have s0:=hr 0 _ rfl
   have s1:=hr 1 _ rfl
   have s2:=hr 2 _ rfl
   have s3:=hr 3 _ rfl
   have s4:=hr 4 _ rfl
   rw[Nat.add_zero] at s0
   clear hr
   cases b1 with
   | false =>
    have B7:=ħ (B6.o.trans (W7.o.mono B6.o.size))
    go_wp2_with fail
    go_ret
    exact⟨rfl,B7.o⟩
   | true =>
    go_wp2_with fail
    refine (HV.o w7 W7.o trivial).mono ?_
    rintro e w8 ⟨rfl,b8⟩
    have W8:=ħ (W7.o.trans (b8.mono W7.o.size))
    have hr:=HBL.o w8 W8.o
    clear s0 s1 s2 s3 s4 b8 HV W7
    have s0:=hr 0 _ rfl
    have s1:=hr 1 _ rfl
    have s2:=hr 2 _ rfl
    have s3:=hr 3 _ rfl
    have s4:=hr 4 _ rfl
    rw[Nat.add_zero] at s0
    clear hr
    cases b2 with
    | false =>
     have B7:=ħ (B6.o.trans (W8.o.mono B6.o.size))
     go_wp2_with fail
     go_ret
     exact⟨rfl,B7.o⟩
    | true =>
     go_wp2_with fail
     refine (HK.o w8 W8.o trivial).mono ?_
     rintro e w9 ⟨rfl,b9⟩
     have W9:=ħ (W8.o.trans (b9.mono W8.o.size))
     have B9:=ħ (B6.o.trans (W9.o.mono B6.o.size))
     have Y9:=ħ (Y6.o.step W9.o)
     have M9:=ħ (M6.o.step W9.o)
     have HP9:=ħ (HP6.o.below W9.o)
     clear s0 s1 s2 s3 s4 b9 HK W8 HBL W9 B6 Y6 M6 HP6
     cases b3 with
     | false =>
      go_wp2_with fail
      go_ret
      exact⟨rfl,B9.o⟩
     | true =>
      have HGQ:=ħ (HG.o trivial rfl)
      have HNQ:=ħ (fun W (hT:Tab W B) us (hpc:Zai W (fun g=>g<MB) q us)=>Z7a q n HGQ.o W _ us B hpc hT)
      have HHN:=ħ (fun s hs W ao cp hr=>Z4o q (Zil HGQ.o.valid).1 s hs W ao cp hr)
      have HMQ:=ħ (fun s (h:(Zhq q).contains s=true)=>(show ∃ q∈L,s∈Zhq q from ⟨q,HQL.o,List.contains_iff_mem.1 h⟩))
      generalize hNP:Zhq q=NP at HNQ HHN HMQ
      clear hNP
      generalize NP.length=np at *
      go_wp2_with fail
      go_loopw [15] (fun kv wq=>∃ (k:Nat) (mt:List Bool),kv = .int .i64 k∧k≤n∧Hid (mt.length=n)∧Hid (∀ j s,mt.getD j false=true→(Zao n)[j]?=some s→∃ q∈L,s∈Zhq q)∧Hid (Zah wq w.heap.size 25 [.int .i64 q0,.string q1,.string q2,.int .i64 q3,.slice xa xn xc])∧Hid (Zah wq MB 4 (bvs mt))∧Hid (Zbj wq (fun g=>g<MB) L (some ⟨g,off,none⟩))∧Hid (Below w.heap.size w wq)) (fun k _=>(n-intOf k).toNat)
      case atStart=>exact⟨0,mt,rfl,by omega,hml,hmt,Y9,M9,HP9,B9⟩
      case round =>
       clear B9 Y9 M9 HP9 hml hmt mt
       obtain⟨k,mt,rfl,hk,hml,hmt,Y10,M10,HP10,B10⟩:=hrel
       have e3:IntKind.i64.wrap ((k:Int)+1)=((k+1:Nat):Int):=IntWalk.i64_in _ (by omega)
       by_cases hkn:k<n
       ·have kk:(k:Int)<n:=by omega
        have k3:(k:Int)<3:=by omega
        obtain⟨s,hs⟩:∃ s,(Zao n)[k]?=some s:=⟨_,List.getElem?_eq_getElem (by rw[HSL.o];exact hkn)⟩
        have HSI:=ħ hs
        have HBS:=ħ (HSB.o s (List.mem_of_getElem? hs))
        have HSET:=ħ (fun (v:Bool) (h:v=true→∃ q∈L,s∈Zhq q) j s' (hj:(mt.set k v).getD j false=true) (hs':(Zao n)[j]?=some s')=>(show ∃ q∈L,s'∈Zhq q from by
         rw[List.getD_eq_getElem?_getD,List.getElem?_set] at hj
         by_cases e:k=j
         ·subst e
          rw[hs] at hs'
          obtain rfl:=Option.some.inj hs'
          rw[if_pos rfl] at hj
          split at hj
          ·exact h hj
          ·simp at hj
         ·rw[if_neg e,← List.getD_eq_getElem?_getD] at hj
          exact hmt.o j s' hj hs'))
        have HMK:=ħ (fun (h:mt.getD k false=true)=>hmt.o k s h hs)
        clear hs
        have t0:=M10.o.cell k _ (Zth (by rw[hml.o];exact hkn))
        obtain⟨bk,hbk⟩:∃ b,mt.getD k false=b:=⟨_,rfl⟩
        rw[hbk] at t0 HMK
        clear hbk
        have ML:=ħ (show ∀ v,(mt.set k v).length=n from fun v=>by rw[List.length_set];exact hml.o)
        cases bk with
        | true =>
         have tf:=M10.o.warm k
         go_wp2_with fail
         clear t0 tf
         have on:=(Only.refl wr (· = MB)).setCell (a:=⟨MB,k,none⟩) (.bool true) rfl
         have M11:Hid (Zah (wr.setCell ⟨MB,k,none⟩ (.bool true)) MB 4 (bvs (mt.set k true))):=ħ (by have:=M10.o.set k (.bool true);rwa [Zyy])
         have Y11:=ħ (Y10.o.only on (fun e=>by have:=HA4.o;omega))
         have HP11:=ħ (HP10.o.only on (fun g hg e=>by omega))
         have B11:=ħ (Only.later B10.o on (fun g hg=>by have:=HA4.o;omega))
         clear on
         go_roundw
         case rel=>exact⟨k+1,mt.set k true,by go_num,by omega,ħ (ML.o _),ħ (HSET.o true (fun _=>HMK.o rfl)),Y11,M11,HP11,B11⟩
         case measure=>simp only[intOf];omega
        | false =>
         obtain⟨g',off',us,hao,hgl,hpc,hrd⟩:=HP10.o.at i q HQI.o
         obtain⟨ya',yn',yc',hvf,-⟩:=hpc.form
         rw[HR0.o,HR1.o,HR2.o,HR3.o] at hvf
         subst hvf
         obtain⟨rfl,rfl⟩:g=g'∧off=off':=by cases hao;exact⟨rfl,rfl⟩
         have HPC:=ħ hpc
         have s0:=hrd 0 _ rfl
         have s1:=hrd 1 _ rfl
         have s2:=hrd 2 _ rfl
         have s3:=hrd 3 _ rfl
         have s4:=hrd 4 _ rfl
         rw[Nat.add_zero] at s0
         clear hao hgl hpc hrd
         go_wp2_with fail
         refine (HNQ.o wr (HTB.o wr B10.o) _ HPC.o).mono ?_
         rintro e wa ⟨ao,cp,rfl,hra,ba⟩
         have HRA:=ħ hra
         have B11:=ħ (B10.o.trans (ba.mono B10.o.size))
         have Y11:=ħ (Y10.o.step ba)
         have M11:=ħ (M10.o.step ba)
         have HP11:=ħ (HP10.o.below ba)
         clear s0 s1 s2 s3 s4 t0 hra ba HPC B10 Y10 M10 HP10
         go_wp2_with fail
         refine (HSM.o wa).mono ?_
         rintro e wb ⟨so,rfl,hso,bb⟩
         have HRB:=ħ (HRA.o.below bb)
         have B12:=ħ (B11.o.trans (bb.mono B11.o.size))
         have Y12:=ħ (Y11.o.step bb)
         have M12:=ħ (M11.o.step bb)
         have HP12:=ħ (HP11.o.below bb)
         clear bb HRA B11 Y11 M11 HP11
         obtain⟨gs,os,hao,-,hcs⟩:=hso.at k s HSI.o
         subst hao
         clear hso
         have HHQ:=ħ (HHN.o s HBS.o wb ao cp HRB.o)
         obtain⟨v,hv⟩:∃ b,NP.contains s=b:=⟨_,rfl⟩
         have HMV:=ħ (fun (h:v=true)=>HMQ.o s (by rw[hv,h]))
         rw[hv] at HHQ
         generalize hy:Zad s=ys at *
         clear hv HRB
         go_wp2_with fail
         refine HHQ.o.mono ?_
         rintro e wc ⟨rfl,rfl⟩
         clear hcs HHQ hy
         have t0:=M12.o.cell k _ (Zth (by rw[hml.o];exact hkn))
         have tf:=M12.o.warm k
         go_wp2_with fail
         clear t0 tf
         have on:=(Only.refl wb (· = MB)).setCell (a:=⟨MB,k,none⟩) (.bool v) rfl
         have M13:Hid (Zah (wb.setCell ⟨MB,k,none⟩ (.bool v)) MB 4 (bvs (mt.set k v))):=ħ (by have:=M12.o.set k (.bool v);rwa [Zyy])
         have Y13:=ħ (Y12.o.only on (fun e=>by have:=HA4.o;omega))
         have HP13:=ħ (HP12.o.only on (fun g hg e=>by omega))
         have B13:=ħ (Only.later B12.o on (fun g hg=>by have:=HA4.o;omega))
         clear on
         go_roundw
         case rel=>exact⟨k+1,mt.set k v,by go_num,by omega,ħ (ML.o _),ħ (HSET.o v HMV.o),Y13,M13,HP13,B13⟩
         case measure=>simp only[intOf];omega
       ·have kk:¬ ((k:Int)<n):=by omega
        go_wp2_with fail
        go_roundw
        case rel=>exact⟨i+1,mt,by go_num,by omega,hml,hmt,ħ (HNX.o HGQ.o),Y10,M10,HP10,B10⟩
        case measure=>simp only[intOf];omega
  ·have ii:¬ ((i:Int)<pn):=by omega
   have HGO:Hid (∀ q∈L,GoP n q):=ħ (fun q hq=>by
    obtain⟨j,hj⟩:=List.mem_iff_getElem?.1 hq
    exact hgo.o j q (by have:=(List.getElem?_eq_some_iff.1 hj).1;rw[HLL.o] at this;omega) hj)
   clear hgo
   go_wp2_with fail
   go_loopw [16] (fun kv wq=>∃ (k:Nat),kv = .int .i64 k∧k≤n∧Hid (∀ j s,j<k→(Zao n)[j]?=some s→∃ q∈L,s∈Zhq q)∧Hid (Zah wq w.heap.size 25 [.int .i64 q0,.string q1,.string q2,.int .i64 q3,.slice xa xn xc])∧Hid (Zah wq MB 4 (bvs mt))∧Hid (Zbj wq (fun g=>g<MB) L po)∧Hid (Below w.heap.size w wq)) (fun k _=>(n-intOf k).toNat)
   case atStart=>exact⟨0,rfl,by omega,ħ (fun j s hj=>absurd hj (Nat.not_lt_zero j)),Y6,M6,HP6,B6⟩
   case round =>
    clear B6 Y6 M6 HP6
    obtain⟨k,rfl,hk,hcv,Y6,M6,HP6,B6⟩:=hrel
    have e3:IntKind.i64.wrap ((k:Int)+1)=((k+1:Nat):Int):=IntWalk.i64_in _ (by omega)
    by_cases hkn:k<n
    ·have kk:(k:Int)<n:=by omega
     have t0:=M6.o.cell k _ (Zth (by rw[hml.o];exact hkn))
     have HCN:=ħ (fun (h:mt.getD k false=true) j s (hj:j<k+1) (hs:(Zao n)[j]?=some s)=>(show ∃ q∈L,s∈Zhq q from by
      rcases Nat.lt_or_ge j k with h2 | h2
      ·exact hcv.o j s h2 hs
      ·obtain rfl:j=k:=by omega
       exact hmt.o j s h hs))
     obtain⟨bk,hbk⟩:∃ b,mt.getD k false=b:=⟨_,rfl⟩
     rw[hbk] at t0 HCN
     clear hbk
     cases bk with
     | false =>
      go_wp2_with fail
      go_ret
      exact⟨rfl,B6.o⟩
     | true =>
      go_wp2_with fail
      clear t0
      go_roundw
      case rel=>exact⟨k+1,by go_num,by omega,ħ (HCN.o rfl),Y6,M6,HP6,B6⟩
      case measure=>simp only[intOf];omega
    ·have kk:¬ ((k:Int)<n):=by omega
     have HCV:Hid (∀ s∈Zao n,∃ q∈L,s∈Zhq q):=ħ (fun s hs=>by
      obtain⟨j,hj⟩:=List.mem_iff_getElem?.1 hs
      have hjl:=(List.getElem?_eq_some_iff.1 hj).1
      rw[HSL.o] at hjl
      exact hcv.o j s (by omega) hj)
     have HD:=ħ (HDC.o n m h1 (by omega) h6 (by omega) HGO.o HCV.o)
     clear HDC HCV hcv hml hmt M6 HSL HSB
     have HEC:Hid ((if 8<(Zak L).length then (6:Int) else 0)=6∨(if 8<(Zak L).length then (6:Int) else 0)=0):=ħ (by split<;>simp)
     generalize (if 8<(Zak L).length then (6:Int) else 0)=EC at *
     have H343:=ħ (Z8f (n:=n) (m:=m) (by omega) h6)
     have HALL:=ħ (fun W=>Z4d n m (by omega) h6 W)
     have HAS0:=ħ (fun k (hk:k<(m+1)^n) W=>Zww k n m (by omega) h6 (by have:=H343.o;omega) W)
     have HSAM:=ħ (fun k W lo lc ro rc hl hr=>Z0w k n m (by omega) W lo ro lc rc hl hr)
     have HAL:=ħ (Zd4 n m)
     have HPH:=ħ (fun i k h1 h2 h3 h4 h5=>Z4k (g:=fun i k=>Zgq (trU (Zao n) L (gv (Zcq n m i))) (trU (Zao n) L (gv (Zcq n m k)))) (N:=(m+1)^n) (i:=i) (k:=k) h1 h2 h3 h4 h5)
     have HPM:=ħ (fun h=>Z0x (g:=fun i k=>Zgq (trU (Zao n) L (gv (Zcq n m i))) (trU (Zao n) L (gv (Zcq n m k)))) (N:=(m+1)^n) h)
     have HBS:=ħ (fun i k=>by
      have h:=Z4n (trU (Zao n) L (gv (Zcq n m i))) (trU (Zao n) L (gv (Zcq n m k))) (by rw[Zmt,HLL.o];omega) (by rw[Zmt,HLL.o];omega) (by rw[Zmt,Zmt])
      rw[Zmt,HLL.o] at h
      exact h)
     have HHA:=ħ (fun q (hq:q∈L) k W0 (hT:Tab W0 B) us (hpc:Zai W0 (fun g=>g<MB) q us) W (hW:Below W0.heap.size W0 W) ro rc hro=>Z0q q W0 _ us B n m k (by have:=(Zil (HGO.o q hq).valid).1;omega) (Ziw q (Zet (HGO.o q hq).valid)) hpc hT (by omega) h6 (HGO.o q hq).valid (HGO.o q hq).known W hW ro rc hro)
     have HS0:Hid (∀ k,Zwx (fun i=>(trU (Zao n) L (gv (Zcq n m k))).getD i false) 0=0):=ħ (fun k=>rfl)
     have HS1:Hid (∀ k i q,L[i]?=some q→Zwx (fun i=>(trU (Zao n) L (gv (Zcq n m k))).getD i false) (i+1)=Zwx (fun i=>(trU (Zao n) L (gv (Zcq n m k))).getD i false) i+if trK n m q k=true then 2^i else 0):=ħ (fun k i q hq=>by
      show _+(if (trU (Zao n) L (gv (Zcq n m k))).getD i false=true then 2^i else 0)=_
      rw[Z8g hq];rfl)
     have HS2:Hid (∀ k i,Zwx (fun i=>(trU (Zao n) L (gv (Zcq n m k))).getD i false) i<2^i):=ħ (fun k i=>Zpo _ i)
     obtain⟨SF,hSF⟩:∃ f:Nat→Nat→Nat,(fun k i=>Zwx (fun i=>(trU (Zao n) L (gv (Zcq n m k))).getD i false) i)=f:=⟨_,rfl⟩
     have hSF2:∀ k i,Zwx (fun i=>(trU (Zao n) L (gv (Zcq n m k))).getD i false) i=SF k i:=fun k i=>congrFun (congrFun hSF k) i
     simp only[hSF2] at HS0 HS1 HS2 HBS
     clear hSF hSF2
     generalize Zkn (fun i k=>Zgq (trU (Zao n) L (gv (Zcq n m i))) (trU (Zao n) L (gv (Zcq n m k)))) ((m+1)^n)=PK at *
     obtain⟨DB,hDB⟩:∃ f:Nat→Nat→Bool,(fun i k=>Zgq (trU (Zao n) L (gv (Zcq n m i))) (trU (Zao n) L (gv (Zcq n m k))))=f:=⟨_,rfl⟩
     have hDB2:∀ i k,Zgq (trU (Zao n) L (gv (Zcq n m i))) (trU (Zao n) L (gv (Zcq n m k)))=DB i k:=fun i k=>congrFun (congrFun hDB i) k
     simp only[hDB2] at HPH HPM HBS
     clear hDB hDB2
     generalize (m+1)^n=N at *
     obtain⟨MO,hMO⟩:∃ b,(decide (EC=0)&&PK.isSome)=b:=⟨_,rfl⟩
     obtain⟨LA,hLA⟩:∃ l,Z0u n m EC (PK.map (·.1))=l:=⟨_,rfl⟩
     obtain⟨LB,hLB⟩:∃ l,Z0u n m EC (PK.map (·.2))=l:=⟨_,rfl⟩
     obtain⟨na,hna⟩:∃ l,LA.length=l:=⟨_,rfl⟩
     obtain⟨nb,hnb⟩:∃ l,LB.length=l:=⟨_,rfl⟩
     rw[hMO,hLA,hLB,hna,hnb] at HD
     have HMO:=ħ hMO
     have HLA:=ħ hLA
     have HLB:=ħ hLB
     have HNA:=ħ hna
     have HNB:=ħ hnb
     clear hMO hLA hLB hna hnb
     go_wp2_with (refine wpList_load_row rfl 25 (.tmp 4) rfl (w.heap.size) ?z6 25 #[.int .i64 q0,.string q1,.string q2,.int .i64 q3,.slice xa xn xc] (0,0) _ Y6.o Tryz.underlying25 rfl (Zae _ rfl) ?_;(case z6=>rfl))
     refine (HD.o wr B6.o).mono ?_
     rintro e w7 ⟨ra,ca,rb,cb,rfl,hra,hrb,b7⟩
     have HRA:=ħ hra
     have HRB:=ħ hrb
     have B7:=ħ (B6.o.trans (b7.mono B6.o.size))
     have HP7:=ħ (HP6.o.below b7)
     clear hra hrb b7 B6 Y6 HP6 HD
     rcases HEC.o with h | h
     ·subst h
      obtain rfl:MO=false:=by rw[← HMO.o];rfl
      clear HMO HLA HLB HNA HNB HRA HRB
      go_wp2_with fail
      go_ret
      exact⟨rfl,B7.o⟩
     ·subst h
      clear HEC
      have bx:=(Below.refl w7.heap.size w7).alloc (Nat.le_refl _) (.cells #[] 3)
      have O8:Hid (OwnK (w7.alloc (.cells #[] 3)) w7.heap.size 1 0 0 (((List.range 0).map (fun j=>((SF j pn:Nat):Int))).flatMap Zcc) (some ⟨w7.heap.size,0,none⟩)):=ħ (OwnK.made w7 3 1)
      have W8:=ħ bx
      clear bx
      go_wp2_with fail
      go_loopw [21,22] (fun tv kv wr=>∃ (k:Nat) (to':Option Addr) (tc:Nat),kv = .int .i64 k∧k≤N∧tv = .slice to' k tc∧Hid (OwnK wr w7.heap.size 1 k tc (((List.range k).map (fun j=>((SF j pn:Nat):Int))).flatMap Zcc) to')∧Hid (Below w7.heap.size w7 wr)) (fun _ k _=>(N-intOf k).toNat)
      case atStart=>exact⟨0,_,0,rfl,by omega,rfl,O8,W8⟩
      case round =>
       clear O8 W8
       obtain⟨k,to',tc,rfl,hkN,rfl,O9,W9⟩:=hrel
       have h343:=H343.o
       have e4:IntKind.i64.wrap ((k:Int)+1)=((k+1:Nat):Int):=IntWalk.i64_in _ (by omega)
       go_wp2_with fail
       refine (HALL.o wr).mono ?_
       rintro e wl ⟨rfl,rfl⟩
       by_cases hlk:k<N
       ·have ii2:(k:Int)<N:=by omega
        have HAS:=ħ (HAS0.o k hlk)
        have HZ:=ħ (HS0.o k)
        have HST:=ħ (HS1.o k)
        have HSU:=ħ (HS2.o k)
        have HTK:Hid (((List.range k).map (fun j=>((SF j pn:Nat):Int))).flatMap Zcc++[.int .i64 ((SF k pn:Nat):Int)]=((List.range (k+1)).map (fun j=>((SF j pn:Nat):Int))).flatMap Zcc):=ħ (by
         rw[List.range_succ,List.map_append,List.flatMap_append];rfl)
        generalize hxs:((List.range k).map (fun j=>((SF j pn:Nat):Int))).flatMap Zcc=xs at *
        generalize hys:((List.range (k+1)).map (fun j=>((SF j pn:Nat):Int))).flatMap Zcc=ys at *
        have HYS:=ħ hys
        clear hxs hys
        generalize SF k=SK at *
        go_wp2_with fail
        generalize wr=wo at *
        go_loopw [23,24] (fun sv iv wq=>∃ (i:Nat),iv = .int .i64 i∧i≤pn∧sv = .int .i64 ((SK i:Nat):Int)∧Hid (Below wo.heap.size wo wq)) (fun _ i _=>(pn-intOf i).toNat)
        case atStart=>exact⟨0,rfl,by omega,by rw[HZ.o];rfl,ħ (Below.refl _ _)⟩
        case round =>
         obtain⟨z,rfl,hip,rfl,W10⟩:=hrel
         have e5:IntKind.i64.wrap ((z:Int)+1)=((z+1:Nat):Int):=IntWalk.i64_in _ (by omega)
         by_cases hin:z<pn
         ·have ii3:(z:Int)<pn:=by omega
          obtain⟨q,hq⟩:∃ q,L[z]?=some q:=⟨_,List.getElem?_eq_getElem (by rw[HLL.o];exact hin)⟩
          have HQL:=ħ (List.mem_of_getElem? hq)
          have W11:=ħ (W9.o.trans (W10.o.mono W9.o.size))
          obtain⟨g,off,vs,hao,hgl,hpc,hrd⟩:=(HP7.o.below W11.o).at z q hq
          obtain⟨ya,yn,yc,hvf,-⟩:=hpc.form
          subst hvf
          have HH:=ħ (HHA.o q HQL.o k wr (HTB.o wr (B7.o.trans (W11.o.mono B7.o.size))) _ hpc)
          have HBK:=ħ (fun W (hW:Below wr.heap.size wr W)=>hrd.of_block (hW.block g hgl))
          have hst:=HST.o z q hq
          obtain⟨R,hR⟩:∃ b,trK n m q k=b:=⟨_,rfl⟩
          rw[hR] at HH hst
          have HSS:=ħ hst
          have HSV:=ħ (HSU.o z)
          clear hq hpc hrd hgl hst hR
          subst hao
          generalize q.k=r0 at *
          generalize Zad q.l=r1 at *
          generalize Zad q.r=r2 at *
          generalize q.c=r3 at *
          generalize hs1:SK z=sk at *
          generalize hs2:SK (z+1)=sn at *
          have HS3:=ħ hs2
          clear hs1 hs2
          go_upto_region 33 with (fail)
          refine Zfq (dkF r0 r3 r1 r2 ya yn yc g off z pn pc n m k R) (by kernel_rfl) (Z4p r0 r3 r1 r2 ya yn yc g off z pn pc n m k R) (Ze0 (by kernel_rfl)) (Zt2 (by kernel_rfl)) (Zdi (by kernel_rfl)) ?hs ?he
          case hs =>
           intro i o hi listed a' w' H hl2
           have hl3:=Za9 hl2
           have hin:i<14:=(Array.getElem?_eq_some_iff.1 hi).1
           have hb:=ħ H.below
           have s12:=H.same 12 (Zap (by kernel_rfl))
           have s24:=H.same 24 (Zap (by kernel_rfl))
           have s22:=H.same 22 (Zap (by kernel_rfl))
           have s10:=H.same 10 (Zap (by kernel_rfl))
           have s11:=H.same 11 (Zap (by kernel_rfl))
           have hdn:=H.done
           have hdf:=H.defers
           have hts:=H.tsize
           clear hl2 H
           obtain⟨t',df⟩:=a'
           obtain⟨f',rfl⟩:=Z8h t' hts
           have hdf':df=[]:=hdf
           subst hdf'
           have gs12:f' 12 = .slice (some ⟨g,off,none⟩) pn pc:=s12
           have gs24:f' 24 = .int .i64 (z:Nat):=s24
           have gs22:f' 22 = .int .i64 (k:Nat):=s22
           have gs10:f' 10 = .int .i64 (n:Nat):=s10
           have gs11:f' 11 = .int .i64 (m:Nat):=s11
           clear s12 s24 s22 s10 s11
           clear hdf hts
           have hcases:=Zoh i hin
           clear hin
           rcases hcases with rfl | rfl | rfl | rfl | rfl | rfl | rfl | rfl | rfl | rfl | rfl | rfl | rfl | rfl
           ·obtain rfl:=Option.some.inj hi
            clear hdn hl3
            rw[gs12]
            clear gs12 gs24 gs22 gs10 gs11
            refine Zac rfl ?_
            go_wp2_with fail
            exact Zaa ⟨_,rfl,Below.refl _ _,rfl⟩
           ·obtain rfl:=Option.some.inj hi
            clear hdn hl3
            rw[gs24]
            clear gs12 gs24 gs22 gs10 gs11
            refine Zac rfl ?_
            go_wp2_with fail
            exact Zaa ⟨_,rfl,Below.refl _ _,rfl⟩
           ·obtain rfl:=Option.some.inj hi
            have dv0:f' 148 = .slice (some ⟨g,off,none⟩) pn pc:=hdn 0 _ 148 rfl (hl3 0 (by rfl)) rfl
            have dv1:f' 149 = .int .i64 (z:Nat):=hdn 1 _ 149 rfl (hl3 1 (by rfl)) rfl
            clear hdn hl3
            rw[dv0,dv1]
            clear dv0 dv1 gs12 gs24 gs22 gs10 gs11
            refine Zac rfl ?_
            go_wp2_with fail
            exact Zaa ⟨_,rfl,Below.refl _ _,rfl⟩
           ·obtain rfl:=Option.some.inj hi
            have dv2:f' 150 = .pointer (some ⟨g,off+z*5,none⟩):=hdn 2 _ 150 rfl (hl3 2 (by rfl)) rfl
            clear hdn hl3
            rw[dv2]
            clear dv2 gs12 gs24 gs22 gs10 gs11
            have hr:=HBK.o w' hb.o
            have s0:=hr 0 _ rfl
            have s1:=hr 1 _ rfl
            have s2:=hr 2 _ rfl
            have s3:=hr 3 _ rfl
            have s4:=hr 4 _ rfl
            rw[Nat.add_zero] at s0
            clear hr
            refine Zac rfl ?_
            go_wp2_with fail
            exact Zaa ⟨_,rfl,Below.refl _ _,rfl⟩
           ·obtain rfl:=Option.some.inj hi
            clear hdn hl3
            rw[gs22]
            clear gs12 gs24 gs22 gs10 gs11
            refine Zac rfl ?_
            go_wp2_with fail
            exact Zaa ⟨_,rfl,Below.refl _ _,rfl⟩
           ·obtain rfl:=Option.some.inj hi
            clear hdn hl3
            rw[gs10]
            clear gs12 gs24 gs22 gs10 gs11
            refine Zac rfl ?_
            go_wp2_with fail
            exact Zaa ⟨_,rfl,Below.refl _ _,rfl⟩
           ·obtain rfl:=Option.some.inj hi
            clear hdn hl3
            rw[gs11]
            clear gs12 gs24 gs22 gs10 gs11
            refine Zac rfl ?_
            go_wp2_with fail
            exact Zaa ⟨_,rfl,Below.refl _ _,rfl⟩
           ·obtain rfl:=Option.some.inj hi
            have dv4:f' 152 = .int .i64 (k:Nat):=hdn 4 _ 152 rfl (hl3 4 (by rfl)) rfl
            have dv5:f' 153 = .int .i64 (n:Nat):=hdn 5 _ 153 rfl (hl3 5 (by rfl)) rfl
            have dv6:f' 154 = .int .i64 (m:Nat):=hdn 6 _ 154 rfl (hl3 6 (by rfl)) rfl
            clear hdn hl3
            rw[dv4,dv5,dv6]
            clear dv4 dv5 dv6 gs12 gs24 gs22 gs10 gs11
            refine Zac rfl ?_
            go_wp2_with fail
            refine (HAS.o w').mono ?_
            rintro e w4 ⟨⟨ro,rc,rfl,ho⟩,b4⟩
            have HO:=ħ (ho.bndR (Zd4 _ _ _).symm)
            have HB4:=ħ b4
            clear ho b4
            go_wp2_with fail
            exact Zaa ⟨_,rfl,HB4.o,ro,rc,rfl,HO.o⟩
           ·obtain rfl:=Option.some.inj hi
            have dv3:f' 151 = .agg #[.int .i64 r0,.string r1,.string r2,.int .i64 r3,.slice ya yn yc]:=hdn 3 _ 151 rfl (hl3 3 (by rfl)) rfl
            have dv7:dkF r0 r3 r1 r2 ya yn yc g off z pn pc n m k R 7 w' (f' 155):=hdn 7 _ 155 rfl (hl3 7 (by rfl)) rfl
            obtain⟨ro,rc,dv7,hro⟩:=dv7
            clear hdn hl3
            rw[dv3,dv7]
            clear dv3 dv7 gs12 gs24 gs22 gs10 gs11
            have HRO:=ħ hro
            clear hro
            refine Zac rfl ?_
            go_wp2_with fail
            refine (HH.o w' hb.o ro rc HRO.o).mono ?_
            rintro e w4 ⟨rfl,b4⟩
            have HB4:=ħ b4
            clear b4
            go_wp2_with fail
            exact Zaa ⟨_,rfl,HB4.o,rfl⟩
           ·obtain rfl:=Option.some.inj hi
            have dv8:f' 156 = .tuple #[.bool R,.int .i64 0]:=hdn 8 _ 156 rfl (hl3 8 (by rfl)) rfl
            clear hdn hl3
            rw[dv8]
            clear dv8 gs12 gs24 gs22 gs10 gs11
            refine Zac rfl ?_
            go_wp2_with fail
            exact Zaa ⟨_,rfl,Below.refl _ _,rfl⟩
           ·obtain rfl:=Option.some.inj hi
            have dv9:f' 147 = .tuple #[.bool R,.int .i64 0]:=hdn 9 _ 147 rfl (hl3 9 (by rfl)) rfl
            clear hdn hl3
            rw[dv9]
            clear dv9 gs12 gs24 gs22 gs10 gs11
            refine Zac rfl ?_
            go_wp2_with fail
            exact Zaa ⟨_,rfl,Below.refl _ _,rfl⟩
           ·obtain rfl:=Option.some.inj hi
            have dv9:f' 147 = .tuple #[.bool R,.int .i64 0]:=hdn 9 _ 147 rfl (hl3 9 (by rfl)) rfl
            clear hdn hl3
            rw[dv9]
            clear dv9 gs12 gs24 gs22 gs10 gs11
            refine Zac rfl ?_
            go_wp2_with fail
            exact Zaa ⟨_,rfl,Below.refl _ _,rfl⟩
           ·obtain rfl:=Option.some.inj hi
            have dv10:f' 157 = .bool R:=hdn 10 _ 157 rfl (hl3 10 (by rfl)) rfl
            clear hdn hl3
            rw[dv10]
            clear dv10 gs12 gs24 gs22 gs10 gs11
            refine Zac rfl ?_
            go_wp2_with fail
            exact Zaa ⟨_,rfl,Below.refl _ _,rfl⟩
           ·obtain rfl:=Option.some.inj hi
            have dv11:f' 158 = .int .i64 0:=hdn 11 _ 158 rfl (hl3 11 (by rfl)) rfl
            clear hdn hl3
            rw[dv11]
            clear dv11 gs12 gs24 gs22 gs10 gs11
            refine Zac rfl ?_
            go_wp2_with fail
            exact Zaa ⟨_,rfl,Below.refl _ _,rfl⟩
          case he =>
           intro listed a' w4 H hall
           have hd12:dkF r0 r3 r1 r2 ya yn yc g off z pn pc n m k R 12 w4 (a'.tmps.getD 25 undef):=H.done 12 _ 25 rfl (hall 12 (by decide)) rfl
           have hd13:dkF r0 r3 r1 r2 ya yn yc g off z pn pc n m k R 13 w4 (a'.tmps.getD 26 undef):=H.done 13 _ 26 rfl (hall 13 (by decide)) rfl
           have hb4:=ħ H.below
           have hact:=H.act [148,149,150,151,152,153,154,155,156,147,157,158,25,26] (Zt5 (by kernel_rfl))
           clear H hall
           simp only[List.foldl_cons,List.foldl_nil] at hact
           generalize a'.tmps.getD 148 undef=z148 at *
           generalize a'.tmps.getD 149 undef=z149 at *
           generalize a'.tmps.getD 150 undef=z150 at *
           generalize a'.tmps.getD 151 undef=z151 at *
           generalize a'.tmps.getD 152 undef=z152 at *
           generalize a'.tmps.getD 153 undef=z153 at *
           generalize a'.tmps.getD 154 undef=z154 at *
           generalize a'.tmps.getD 155 undef=z155 at *
           generalize a'.tmps.getD 156 undef=z156 at *
           generalize a'.tmps.getD 147 undef=z147 at *
           generalize a'.tmps.getD 157 undef=z157 at *
           generalize a'.tmps.getD 158 undef=z158 at *
           generalize a'.tmps.getD 25 undef=z25 at *
           generalize a'.tmps.getD 26 undef=z26 at *
           subst hact
           have e12:z25 = .bool R:=hd12
           subst e12
           clear hd12
           have e13:z26 = .int .i64 0:=hd13
           subst e13
           clear hd13
           simp only[Act.put,List.setIfInBounds_toArray,List.set_cons_succ,List.set_cons_zero]
           have W12:=ħ (W10.o.trans (hb4.o.mono W10.o.size))
           clear hb4 HH HBK W11 W10
           have hsv:=HSV.o
           cases R with
           | false =>
            go_wp2_with fail
            go_roundw
            case rel=>exact⟨z+1,by go_num,by omega,by rw[HS3.o,HSS.o];rfl,W12⟩
            case measure=>simp only[intOf];omega
           | true =>
            have hi4:z<4:=by omega
            have hc4:z=0∨z=1∨z=2∨z=3:=by omega
            rcases hc4 with rfl | rfl | rfl | rfl
            ·have e7:IntKind.i64.wrap ((sk:Int)+1)=((sk+1:Nat):Int):=IntWalk.i64_in _ (by omega)
             go_wp2_with fail
             go_roundw
             case rel=>exact⟨1,by go_num,by omega,by rw[HS3.o,HSS.o];rfl,W12⟩
             case measure=>simp only[intOf];omega
            ·have e7:IntKind.i64.wrap ((sk:Int)+2)=((sk+2:Nat):Int):=IntWalk.i64_in _ (by omega)
             go_wp2_with fail
             go_roundw
             case rel=>exact⟨2,by go_num,by omega,by rw[HS3.o,HSS.o];rfl,W12⟩
             case measure=>simp only[intOf];omega
            ·have e7:IntKind.i64.wrap ((sk:Int)+4)=((sk+4:Nat):Int):=IntWalk.i64_in _ (by omega)
             go_wp2_with fail
             go_roundw
             case rel=>exact⟨3,by go_num,by omega,by rw[HS3.o,HSS.o];rfl,W12⟩
             case measure=>simp only[intOf];omega
            ·have e7:IntKind.i64.wrap ((sk:Int)+8)=((sk+8:Nat):Int):=IntWalk.i64_in _ (by omega)
             go_wp2_with fail
             go_roundw
             case rel=>exact⟨4,by go_num,by omega,by rw[HS3.o,HSS.o];rfl,W12⟩
             case measure=>simp only[intOf];omega
         ·have ii3:¬ ((z:Int)<pn):=by omega
          obtain rfl:pn=z:=by omega
          have W11:=ħ (W9.o.trans (W10.o.mono W9.o.size))
          have O10:=ħ (O9.o.below W10.o)
          have HTK2:=ħ (by have:=HTK.o;exact this)
          generalize hsp:SK pn=sp at *
          have HSP:=ħ hsp
          clear hsp
          go_wp2_with (at_builtin;refine Zfa 60 3 (.int .i64 0) 1 8 Tryz.underlying60 Zd5 rfl (by omega) (by omega) wr w7.heap.size rfl (.tmp 164) (.tmp 166) rfl to' tc k xs ?q1 O10.o W11.o.size 1 1 #[.int .i64 ((sp:Nat):Int)] 3 ?q2 rfl (by omega) ?q3 ?q4 ?_;(case q1=>rfl);(case q2=>rfl);(case q3=>simp[Value.oneCell']);(case q4=>omega);intro g5 off5 c5 wa o8 gr8 b8 or8;have OZ8:=ħ o8;have BZ8:=ħ b8;clear o8 gr8 b8 or8)
          have W13:=ħ (W11.o.trans BZ8.o)
          go_roundw
          case rel=>exact⟨k+1,some ⟨g5,off5,none⟩,c5,by go_num,by omega,rfl,ħ (by rw[HYS.o,← HTK.o];exact OZ8.o),W13⟩
          case measure=>simp only[intOf];omega
       ·have ii2:¬ ((k:Int)<N):=by omega
        obtain rfl:N=k:=by omega
        have HFT:=ħ (O9.o.flatR (l:=(List.range N).map (fun j=>((SF j pn:Nat):Int))) Zbs (by simp))
        have HGT:Hid (∀ i,i<N→((List.range N).map (fun j=>((SF j pn:Nat):Int)))[i]?=some ((SF i pn:Nat):Int)):=ħ (fun i hi=>by rw[List.getElem?_map,List.getElem?_range hi];rfl)
        generalize (List.range N).map (fun j=>((SF j pn:Nat):Int))=TL at *
        have HSB4:=ħ (fun i=>Nat.lt_of_lt_of_le (HS2.o i pn) (Nat.pow_le_pow_right (by decide) (show pn≤4 by omega)))
        have HRA9:=ħ (HRA.o.below W9.o)
        have HRB9:=ħ (HRB.o.below W9.o)
        have B9:=ħ (B7.o.trans (W9.o.mono B7.o.size))
        clear O9 HS0 HS1 HS2 HHA HP7 HTB HALL HRA HRB W9 B7 HSM
        generalize hSP:(fun i=>SF i pn)=SP at *
        have hSP2:∀ i,SF i pn=SP i:=fun i=>congrFun hSP i
        simp only[hSP2] at HGT HBS HSB4
        clear hSP hSP2
        go_wp2_with fail
        generalize wr=wo at *
        go_loopw [27] (fun iv wq=>∃ (i:Nat),iv = .int .i64 i∧i≤N∧Hid (∀ a,a<i→∀ b,b<N→DB a b=false)∧Hid (Below wo.heap.size wo wq)) (fun i _=>(N-intOf i).toNat)
        case atStart=>exact⟨0,rfl,by omega,ħ (fun a ha=>absurd ha (Nat.not_lt_zero a)),ħ (Below.refl _ _)⟩
        case round =>
         obtain⟨i,rfl,hiN,hno,W10⟩:=hrel
         have e5:IntKind.i64.wrap ((i:Int)+1)=((i+1:Nat):Int):=IntWalk.i64_in _ (by omega)
         by_cases hin:i<N
         ·have ii3:(i:Int)<N:=by omega
          go_wp2_with fail
          go_loopw [28] (fun kv wz=>∃ (k:Nat),kv = .int .i64 k∧k≤N∧Hid (∀ b,b<k→DB i b=false)∧Hid (Below wo.heap.size wo wz)) (fun k _=>(N-intOf k).toNat)
          case atStart=>exact⟨0,rfl,by omega,ħ (fun b hb=>absurd hb (Nat.not_lt_zero b)),W10⟩
          case round =>
           clear W10
           obtain⟨k,rfl,hkN2,hnk,W10⟩:=hrel
           have e6:IntKind.i64.wrap ((k:Int)+1)=((k+1:Nat):Int):=IntWalk.i64_in _ (by omega)
           by_cases hkn:k<N
           ·have ii4:(k:Int)<N:=by omega
            obtain⟨gt,ot,hto,hgt,hc1⟩:=(HFT.o.below W10.o).at Zbs i _ (HGT.o i hin)
            obtain⟨gt',ot',hto',hgt',hc2⟩:=(HFT.o.below W10.o).at Zbs k _ (HGT.o k hkn)
            obtain⟨rfl,rfl⟩:gt=gt'∧ot=ot':=by rw[hto] at hto';cases hto';exact⟨rfl,rfl⟩
            have c1:=hc1 0 _ rfl
            have c2:=hc2 0 _ rfl
            rw[Nat.mul_one,Nat.add_zero] at c1 c2
            have hbx:=HBS.o i k
            have HDI:=ħ (fun (h:DB i k=true)=>HPH.o i k hin hkn h hno.o hnk.o)
            have HDN:=ħ (fun (h:DB i k=false) b (hb:b<k+1)=>(show DB i b=false from by
             rcases Nat.lt_or_ge b k with h2 | h2
             ·exact hnk.o b h2
             ·obtain rfl:b=k:=by omega
              exact h))
            generalize SP i=si at *
            generalize SP k=sk at *
            generalize DB i k=d at *
            have mixed:Tryz.prog.follows .mixedOrders=true:=by kernel_rfl
            have HTO:=ħ hto
            clear hc1 hc2 hgt hgt' hto'
            subst hto
            go_wp2_with fail
            go_region_o
            cases d with
            | false =>
             go_wp2_with fail
             go_roundw
             case rel=>exact⟨k+1,by go_num,by omega,ħ (HDN.o rfl),ħ (W10.o.drew)⟩
             case measure=>simp only[intOf];omega
            | true =>
             have hpk:=HDI.o rfl
             subst hpk
             obtain rfl:MO=true:=by rw[← HMO.o];rfl
             obtain rfl:LA=Znl n m i:=by rw[← HLA.o];rfl
             obtain rfl:LB=Znl n m k:=by rw[← HLB.o];rfl
             obtain rfl:n=na:=by rw[← HNA.o,HAL.o]
             obtain rfl:n=nb:=by rw[← HNB.o,HAL.o]
             clear HMO HLA HLB HNA HNB c1 c2 hbx
             have W11:=ħ (W10.o.drew)
             have HXA:=ħ (HRA9.o.below W11.o)
             have HXB:=ħ (HRB9.o.below W11.o)
             go_wp2_with fail
             refine (HAS0.o i hin _).mono ?_
             rintro e wa ⟨⟨xo,xc2,rfl,hxo⟩,ba⟩
             have HXO:=ħ (hxo.flatR Zdm (Zd4 n m i).symm)
             have HXA1:=ħ (HXA.o.below ba)
             have HXB1:=ħ (HXB.o.below ba)
             have W12:=ħ (W11.o.trans (ba.mono W11.o.size))
             clear hxo ba HXA HXB W11
             go_wp2_with fail
             refine (HSAM.o i wa ra ca xo xc2 HXA1.o HXO.o).mono ?_
             rintro e wb ⟨rfl,bb⟩
             have HXB2:=ħ (HXB1.o.below bb)
             have W13:=ħ (W12.o.trans (bb.mono W12.o.size))
             clear bb HXO HXA1 HXB1 W12
             go_wp2_with fail
             refine (HAS0.o k hkn _).mono ?_
             rintro e wc ⟨⟨zo,zc2,rfl,hzo⟩,bc⟩
             have HZO:=ħ (hzo.flatR Zdm (Zd4 n m k).symm)
             have HXB3:=ħ (HXB2.o.below bc)
             have W14:=ħ (W13.o.trans (bc.mono W13.o.size))
             clear hzo bc HXB2 W13
             go_wp2_with fail
             refine (HSAM.o k wc rb cb zo zc2 HXB3.o HZO.o).mono ?_
             rintro e wd ⟨rfl,bd⟩
             have B15:=ħ (B9.o.trans ((W14.o.trans (bd.mono W14.o.size)).mono B9.o.size))
             clear bd HZO HXB3 W14
             go_wp2_with fail
             go_ret
             exact⟨rfl,B15.o⟩
           ·have ii4:¬ ((k:Int)<N):=by omega
            obtain rfl:N=k:=by omega
            go_wp2_with fail
            go_roundw
            case rel=>exact⟨i+1,by go_num,by omega,ħ (fun a ha b hb=>by
             rcases Nat.lt_or_ge a i with h2 | h2
             ·exact hno.o a h2 b hb
             ·obtain rfl:a=i:=by omega
              exact hnk.o b hb),W10⟩
            case measure=>simp only[intOf];omega
         ·have ii3:¬ ((i:Int)<N):=by omega
          obtain rfl:N=i:=by omega
          have hpk:=HPM.o (fun a ha b hb=>hno.o a ha b hb)
          subst hpk
          obtain rfl:MO=false:=by rw[← HMO.o];rfl
          obtain rfl:LA=[]:=by rw[← HLA.o];rfl
          obtain rfl:LB=[]:=by rw[← HLB.o];rfl
          obtain rfl:na=0:=HNA.o.symm
          obtain rfl:nb=0:=HNB.o.symm
          have B15:=ħ (B9.o.trans (W10.o.mono B9.o.size))
          go_wp2_with fail
          go_ret
          exact⟨rfl,B15.o⟩
end Go.Proofs.YtmkdfbelbcocpaaGreatDoor
