import Derived.Test.YtmkdfbelbcocpaaGreatDoorCS27
import Derived.Test.YtmkdfbelbcocpaaGreatDoorCS10
import Derived.Test.YtmkdfbelbcocpaaGreatDoorCS26
set_option linter.unusedVariables false
set_option linter.unusedSimpArgs false
set_option maxHeartbeats 16000000
set_option maxRecDepth 100000
namespace Go.Proofs.YtmkdfbelbcocpaaGreatDoor
section
open Go.RowKit Go.Sort
theorem OwnK.two (w:World) (a b:Int) (T:TypeId):OwnK (w.alloc (.cells #[.int .i64 a,.int .i64 b] T)) w.heap.size 1 2 2 ([a,b].flatMap Zct) (some ⟨w.heap.size,0,none⟩) :=
 have hA:Zah (w.alloc (.cells #[.int .i64 a,.int .i64 b] T)) w.heap.size T [.int .i64 a,.int .i64 b]:=heap_alloc_new w _
 .at w.heap.size 0 ⟨Nat.le_refl _,hA.lt,by simp[Zct],fun j u h=>by rw[Nat.zero_add];exact hA.cell j u (by simpa [Zct] using h),fun j h=>by
  rw[Nat.zero_add]
  have h2:j<2:=by omega
  rcases (show j=0∨j=1 by omega) with rfl | rfl
  ·rw[hA.cell 0 _ rfl];rfl
  ·rw[hA.cell 1 _ rfl];rfl,fun j h=>by rw[Nat.zero_add];exact hA.warm j⟩ (by simp[Zct]) (by simp[maxLen]) (Nat.le_refl _)
theorem Zuw (t:Array Value) (h:t.size=146):∃ f:Nat→Value,t=#[f 0,f 1,f 2,f 3,f 4,f 5,f 6,f 7,f 8,f 9,f 10,f 11,f 12,f 13,f 14,f 15,f 16,f 17,f 18,f 19,f 20,f 21,f 22,f 23,f 24,f 25,f 26,f 27,f 28,f 29,f 30,f 31,f 32,f 33,f 34,f 35,f 36,f 37,f 38,f 39,f 40,f 41,f 42,f 43,f 44,f 45,f 46,f 47,f 48,f 49,f 50,f 51,f 52,f 53,f 54,f 55,f 56,f 57,f 58,f 59,f 60,f 61,f 62,f 63,f 64,f 65,f 66,f 67,f 68,f 69,f 70,f 71,f 72,f 73,f 74,f 75,f 76,f 77,f 78,f 79,f 80,f 81,f 82,f 83,f 84,f 85,f 86,f 87,f 88,f 89,f 90,f 91,f 92,f 93,f 94,f 95,f 96,f 97,f 98,f 99,f 100,f 101,f 102,f 103,f 104,f 105,f 106,f 107,f 108,f 109,f 110,f 111,f 112,f 113,f 114,f 115,f 116,f 117,f 118,f 119,f 120,f 121,f 122,f 123,f 124,f 125,f 126,f 127,f 128,f 129,f 130,f 131,f 132,f 133,f 134,f 135,f 136,f 137,f 138,f 139,f 140,f 141,f 142,f 143,f 144,f 145]:=by
 obtain⟨l⟩:=t
 have hl:l.length=146:=h
 have e:l=(List.range 146).map (fun i=>l.getD i undef):=by
  apply List.ext_getElem
  ·simp[hl]
  ·intro i h1 h2
   simp[List.getD,h1]
 exact⟨fun i=>l.getD i undef,congrArg List.toArray e⟩
theorem Znj (i:Nat) (h:i<11):i=0∨i=1∨i=2∨i=3∨i=4∨i=5∨i=6∨i=7∨i=8∨i=9∨i=10:=by omega
theorem Zv6 (i:Nat) (h:i<10):i=0∨i=1∨i=2∨i=3∨i=4∨i=5∨i=6∨i=7∨i=8∨i=9:=by omega
def Z8w (tq:Option Addr) (tn tc g off n vc A i2:Nat) (z2 y3:Int) (i:Nat) (W:World) (v:Value):Prop:=match i with
 | 0=>v = .slice tq tn tc
 | 1=>v = .slice (some ⟨g,off,none⟩) n vc
 | 2=>v = .pointer (some ⟨A,1,none⟩)
 | 3=>v = .int .i64 (i2:Int)
 | 4=>v = .pointer (some ⟨g,off+i2,none⟩)
 | 5=>v = .int .i64 z2
 | 6=>v = .pointer (some ⟨A,2,none⟩)
 | 7=>v = .int .i64 y3
 | 8=>v = .int .i64 (z2+y3)
 | 9=>v = .int .i64 (z2+y3+1)
 | 10=>∃ A2,v = .slice (some ⟨A2,0,none⟩) 1 1∧Zah W A2 3 [.int .i64 (z2+y3+1)]
 | _=>True
theorem Z0e (tq:Option Addr) (tn tc g off n vc A i2:Nat) (z2 y3:Int):∀ i w w' v,Z8w tq tn tc g off n vc A i2 z2 y3 i w v→Below w.heap.size w w'→Z8w tq tn tc g off n vc A i2 z2 y3 i w' v:=by
 intro i w w' v h hb
 match i with
 | 0=>exact h
 | 1=>exact h
 | 2=>exact h
 | 3=>exact h
 | 4=>exact h
 | 5=>exact h
 | 6=>exact h
 | 7=>exact h
 | 8=>exact h
 | 9=>exact h
 | 10=>obtain⟨A2,h1,h2⟩:=h;exact⟨A2,h1,h2.step hb⟩
 | k+11=>trivial
def Z8x (tq:Option Addr) (tn tc g off n vc A i1:Nat) (z1 y3:Int) (i:Nat) (W:World) (v:Value):Prop:=match i with
 | 0=>v = .slice tq tn tc
 | 1=>v = .slice (some ⟨g,off,none⟩) n vc
 | 2=>v = .pointer (some ⟨A,0,none⟩)
 | 3=>v = .int .i64 (i1:Int)
 | 4=>v = .pointer (some ⟨g,off+i1,none⟩)
 | 5=>v = .int .i64 z1
 | 6=>v = .pointer (some ⟨A,2,none⟩)
 | 7=>v = .int .i64 y3
 | 8=>v = .int .i64 (z1-y3)
 | 9=>∃ A2,v = .slice (some ⟨A2,0,none⟩) 1 1∧Zah W A2 3 [.int .i64 (z1-y3)]
 | _=>True
theorem Z0f (tq:Option Addr) (tn tc g off n vc A i1:Nat) (z1 y3:Int):∀ i w w' v,Z8x tq tn tc g off n vc A i1 z1 y3 i w v→Below w.heap.size w w'→Z8x tq tn tc g off n vc A i1 z1 y3 i w' v:=by
 intro i w w' v h hb
 match i with
 | 0=>exact h
 | 1=>exact h
 | 2=>exact h
 | 3=>exact h
 | 4=>exact h
 | 5=>exact h
 | 6=>exact h
 | 7=>exact h
 | 8=>exact h
 | 9=>obtain⟨A2,h1,h2⟩:=h;exact⟨A2,h1,h2.step hb⟩
 | k+10=>trivial
theorem Z4n (w:World) (P:Nat→Prop) (D:Nat) (ns:List (List Nat)) (ao:Option Addr) (n cp M:Nat) (ps:List Prd) (p:Prd) (po:Option Addr) (pn pc:Nat) (ks:List Ky) (ro:Option Addr) (rc:Nat) (g off vc:Nat) (v:List Int)
  (hd:DecR w P D ns ao n cp (M:Int) ps po pn pc ks ro rc) (hp:ps[0]?=some p) (hpn:pn=ps.length) (hpk:∀ k∈Zbx p,Zmn ns k) (hpc:Za5 p≤1000000) (hkc:∀ k∈ks,Zmn ns k) (hkn:∀ k∈ks,Zmf k=false) (hk8:ks.length≤8) (hM:M≤65535) (hn1:1≤n)
  (hv:Za2 w g off (v.flatMap Zct)) (hgl:g<w.heap.size) (hvl:v.length=n) (hvc:n≤vc) (hvm:vc≤maxLen) (hvb:∀ i,0≤gv v i∧gv v i≤65536) :
  Calls Tryz.prog 130 #[.pointer (some ⟨D,0,none⟩),.slice (some ⟨g,off,none⟩) n vc] w fun e w'=>e = .returned (.int .i64 (Z6e (fun x=>Zas (fK ns (gv (v++[x]))) p) (Zch ns v n (M:Int) ks)))∧Below w.heap.size w w':=by
 have bx:=(Below.refl w.heap.size w).alloc (Nat.le_refl _) (.cells #[.pointer (some ⟨D,0,none⟩)] 151)
 have B1:=ħ bx
 have D1:=ħ (hd.step bx)
 have X1:Hid (Zah (w.alloc (.cells #[.pointer (some ⟨D,0,none⟩)] 151)) w.heap.size 151 [.pointer (some ⟨D,0,none⟩)]):=ħ (heap_alloc_new w _)
 have HV1:=ħ (hv.of_block (bx.block g hgl))
 have HGL:=ħ (Nat.lt_of_lt_of_le hgl bx.size)
 have HP:=ħ hp
 have HPN:=ħ hpn
 have HPK:=ħ hpk
 have HPC:=ħ hpc
 have HKC:=ħ hkc
 have HKN:=ħ hkn
 have HVL:=ħ hvl
 have HVB:=ħ hvb
 obtain⟨S,hS⟩:∃ S,Z6e (fun x=>Zas (fK ns (gv (v++[x]))) p) (Zch ns v n (M:Int) ks)=S:=⟨_,rfl⟩
 have HS:=ħ hS
 rw[hS]
 obtain⟨m,hm⟩:∃ m,ks.length=m:=⟨_,rfl⟩
 have HM:=ħ hm
 have m8:m≤8:=by omega
 have hn100:n≤100:=D1.o.spc.big
 have nn:¬ ((n:Int)<(n:Int)):=by omega
 have eM:IntKind.i64.wrap ((M:Int)+1)=(M:Int)+1:=IntWalk.i64_in _ (by omega)
 clear bx hd hp hpn hpk hpc hkc hkn hk8 hv hgl hvl hvb hS hm
 go_enter Tryz.func130,Tryz.ntmps130
 go_upto_region 4 with (fail)
 generalize w.alloc (.cells #[.pointer (some ⟨D,0,none⟩)] 151)=w1 at *
 have x0:=X1.o.cell 0 _ rfl
 have d0:=Zah.cell D1.o.prob 0 _ rfl
 have d1:=Zah.cell D1.o.prob 1 _ rfl
 go_upto_region 17 with (fail)
 clear x0 d0 d1
 have bt:=(Below.refl w1.heap.size w1).alloc (Nat.le_refl _) (.cells #[.int .i64 0,.int .i64 ((M:Int)+1)] 3)
 have OT:Hid (OwnK (w1.alloc (.cells #[.int .i64 0,.int .i64 ((M:Int)+1)] 3)) w1.heap.size 1 2 2 ((Zgc ns v n (M:Int) ks 0).flatMap Zct) (some ⟨w1.heap.size,0,none⟩)):=ħ (OwnK.two w1 _ _ _)
 have BT:=ħ bt
 have X2:=ħ (X1.o.step bt)
 have D2:=ħ (D1.o.step bt)
 clear bt
 generalize w1.alloc (.cells #[.int .i64 0,.int .i64 ((M:Int)+1)] 3)=w2 at *
 have x0:=X2.o.cell 0 _ rfl
 have d3:=Zah.cell D2.o.prob 3 _ rfl
 rw[HM.o] at d3
 go_wp2_with fail
 clear x0 d3
 have HKNW:Hid (∀ k∈ks,Zcp ns k.l≤n∧Zcp ns k.r≤n∧Zcp ns k.l≠Zcp ns k.r):=ħ (fun k hk=>by
  obtain⟨-,⟨h1,h2⟩,-⟩:=HKC.o k hk
  have h3:=Zfy h1
  have h4:=Zfy h2
  have h5:=D1.o.spc.cnt
  refine⟨by omega,by omega,fun e=>?_⟩
  have h6:=HKN.o k hk
  have h7:=Zt3 h1 h2 e
  unfold Zmf at h6
  rw[h7] at h6
  simp at h6)
 clear X2 D2
 go_loopw [10,68] (fun tv jv wr=>∃ (j tn:Nat) (tq:Option Addr) (tc:Nat),jv = .int .i64 j∧tv = .slice tq tn tc∧j≤m∧tn≤2+j∧Hid (OwnK wr w1.heap.size 1 tn tc ((Zgc ns v n (M:Int) ks j).flatMap Zct) tq)∧Hid (Below w1.heap.size w1 wr)) (fun _ j _=>(m-intOf j).toNat)
 case atStart=>exact⟨0,2,some ⟨w1.heap.size,0,none⟩,2,rfl,rfl,by omega,by omega,OT,BT⟩
 case round =>
  clear OT BT
  obtain⟨j,tn,tq,tc,rfl,rfl,hj,htn,hto,hw⟩:=hrel
  have e2:IntKind.i64.wrap ((j:Int)+1)=((j+1:Nat):Int):=IntWalk.i64_in _ (by omega)
  by_cases hjl:j<m
  ·have jj:(j:Int)<m:=by omega
   obtain⟨k,hk⟩:∃ k,ks[j]?=some k:=⟨_,List.getElem?_eq_getElem (by rw[HM.o];exact hjl)⟩
   have HKI:=ħ hk
   have hkm:=List.mem_of_getElem? hk
   have HKQ:=ħ (HKC.o k hkm)
   have HIX:=ħ (HKNW.o k hkm)
   obtain⟨gk,offk,hao,hgk,hcl⟩:=(D1.o.step hw.o).keys.at (k:=3) (fun _=>rfl) j k hk
   have k0:=hcl 0 _ rfl
   have k1:=hcl 1 _ rfl
   have k2:=hcl 2 _ rfl
   rw[Nat.add_zero] at k0
   have HAO:=ħ hao
   have bx:=(Below.refl wr.heap.size wr).alloc (Nat.le_refl _) (.cells (kyC k).toArray 123)
   have OT1:=ħ (hto.o.below bx)
   have HW1:=ħ (hw.o.trans (bx.mono hw.o.size))
   have Y1:Hid (Zah (wr.alloc (.cells (kyC k).toArray 123)) wr.heap.size 123 (kyC k)):=ħ (heap_alloc_new _ _)
   have HKY:Hid (kyC k=[.string (Zad k.l),.string (Zad k.r),.int .i64 k.c]):=ħ rfl
   rw[HKY.o] at OT1 HW1 Y1
   have HTN:=ħ (Zsh (ns:=ns) (v:=v) (at':=n) (most:=(M:Int)) HKI.o)
   have HTK:Hid (Zog ns v n k=if Zcp ns k.l=n then [gv v (Zcp ns k.r)+k.c+1] else if Zcp ns k.r=n then [gv v (Zcp ns k.l)-k.c] else []):=ħ rfl
   have e1':Zh8 ns k.l=(Zcp ns k.l:Int):=by unfold Zh8;rw[if_pos HKQ.o.2.1.1]
   have e2':Zh8 ns k.r=(Zcp ns k.r:Int):=by unfold Zh8;rw[if_pos HKQ.o.2.1.2]
   have HOF:=ħ (fun W (hs:SpcR W ns ao n)=>Zuf W ao n cp (M:Int) ns k hs.cnt hs.strs hs.byts hs.asc (by have:=hs.big;omega) HKQ.o.1.1 HKQ.o.1.2)
   rw[e1',e2',HKY.o] at HOF
   have HBC:=HKQ.o.2.2
   unfold inC at HBC
   simp only[Bool.and_eq_true,decide_eq_true_eq] at HBC
   obtain⟨hx1,hx2,hx3⟩:=HIX.o
   have g1:=HVB.o (Zcp ns k.l)
   have g2:=HVB.o (Zcp ns k.r)
   have HG1:=ħ (fun (h:Zcp ns k.l<n) W (hW:Below w1.heap.size w1 W)=>(HV1.o.of_block (hW.block g HGL.o)) (Zcp ns k.l) (.int .i64 (gv v (Zcp ns k.l))) (by rw[← Zgn,ivs,List.getElem?_map,Zhc (by rw[HVL.o];exact h)];rfl))
   have HG2:=ħ (fun (h:Zcp ns k.r<n) W (hW:Below w1.heap.size w1 W)=>(HV1.o.of_block (hW.block g HGL.o)) (Zcp ns k.r) (.int .i64 (gv v (Zcp ns k.r))) (by rw[← Zgn,ivs,List.getElem?_map,Zhc (by rw[HVL.o];exact h)];rfl))
   rw[HTK.o] at HTN
   clear hk hkm bx hcl hto hw HKQ HIX HTK e1' e2' HAO HKY hgk HKNW
   subst hao
   generalize Zad k.l=y1 at *
   generalize Zad k.r=y2 at *
   generalize gv v (Zcp ns k.l)=z1 at *
   generalize gv v (Zcp ns k.r)=z2 at *
   generalize Zcp ns k.l=i1 at *
   generalize Zcp ns k.r=i2 at *
   generalize k.c=y3 at *
   go_upto_region 20 with (fail)
   clear k0 k1 k2
   generalize wr.alloc (.cells #[.string y1,.string y2,.int .i64 y3] 123)=wx at *
   generalize wr.heap.size=K at *
   refine Zc6 7 0 (c1F D wx.heap.size ao n cp (M:Int) y1 y2 y3 i1 i2) (by kernel_rfl) rfl (Zom D wx.heap.size ao n cp (M:Int) y1 y2 y3 i1 i2) (Zei (by kernel_rfl)) (Zh4 (by kernel_rfl)) (Zc5 (by kernel_rfl)) (Zg4 (by kernel_rfl)) ?hs ?he
   case hs =>
    intro i o hin hi listed a' w' H hsn hl2
    have hl3:=Za7 hl2
    have hb:=ħ H.below
    have s2:=hsn 2 (Zbi (by kernel_rfl))
    have s12:=hsn 12 (Zbi (by kernel_rfl))
    have hdn:=H.done
    have hdf:=H.defers
    have hts:=H.tsize
    clear hl2 H hsn
    obtain⟨t',df⟩:=a'
    obtain⟨f',rfl⟩:=Zuw t' hts
    have hdf':df=[]:=hdf
    subst hdf'
    have gs2:f' 2 = .pointer (some ⟨w.heap.size,0,none⟩):=s2
    have gs12:f' 12 = .pointer (some ⟨K,0,none⟩):=s12
    clear s2 s12
    clear hdf hts
    have hcases:i=0∨i=1∨i=2∨i=3∨i=4∨i=5∨i=6:=Zlv i hin
    clear hin
    rcases hcases with rfl | rfl | rfl | rfl | rfl | rfl | rfl
    ·obtain rfl:=Option.some.inj hi
     clear hdn hl3
     rw[gs2]
     clear gs2 gs12
     have x0:=(X1.o.step (HW1.o.trans (hb.o.mono HW1.o.size))).cell 0 _ rfl
     refine Zac rfl ?_
     go_wp2_with fail
     exact Zaa ⟨_,rfl,Below.refl _ _,rfl⟩
    ·obtain rfl:=Option.some.inj hi
     have dv0:f' 72 = .pointer (some ⟨D,0,none⟩):=hdn 0 _ 72 rfl (hl3 0 (by rfl)) rfl
     clear hdn hl3
     rw[dv0]
     clear dv0 gs2 gs12
     refine Zac rfl ?_
     go_wp2_with fail
     exact Zaa ⟨_,rfl,Below.refl _ _,rfl⟩
    ·obtain rfl:=Option.some.inj hi
     have dv1:f' 73 = .pointer (some ⟨D,0,none⟩):=hdn 1 _ 73 rfl (hl3 1 (by rfl)) rfl
     clear hdn hl3
     rw[dv1]
     clear dv1 gs2 gs12
     refine Zac rfl ?_
     go_wp2_with fail
     exact Zaa ⟨_,rfl,Below.refl _ _,rfl⟩
    ·obtain rfl:=Option.some.inj hi
     have dv2:f' 74 = .pointer (some ⟨D,0,none⟩):=hdn 2 _ 74 rfl (hl3 2 (by rfl)) rfl
     clear hdn hl3
     rw[dv2]
     clear dv2 gs2 gs12
     have DD:=D1.o.step (HW1.o.trans (hb.o.mono HW1.o.size))
     have d0:=Zah.cell DD.prob 0 _ rfl
     have d1:=Zah.cell DD.prob 1 _ rfl
     clear DD
     refine Zac rfl ?_
     go_wp2_with fail
     exact Zaa ⟨_,rfl,Below.refl _ _,rfl⟩
    ·obtain rfl:=Option.some.inj hi
     clear hdn hl3
     rw[gs12]
     clear gs2 gs12
     have k0:=(Y1.o.step hb.o).cell 0 _ rfl
     have k1:=(Y1.o.step hb.o).cell 1 _ rfl
     have k2:=(Y1.o.step hb.o).cell 2 _ rfl
     refine Zac rfl ?_
     go_wp2_with fail
     exact Zaa ⟨_,rfl,Below.refl _ _,rfl⟩
    ·obtain rfl:=Option.some.inj hi
     have dv3:f' 75 = .agg #[.slice ao n cp,.int .i64 (M:Int)]:=hdn 3 _ 75 rfl (hl3 3 (by rfl)) rfl
     have dv4:f' 76 = .agg #[.string y1,.string y2,.int .i64 y3]:=hdn 4 _ 76 rfl (hl3 4 (by rfl)) rfl
     clear hdn hl3
     rw[dv3,dv4]
     clear dv3 dv4 gs2 gs12
     refine Zac rfl ?_
     go_wp2_with fail
     refine (HOF.o w' (D1.o.step (HW1.o.trans (hb.o.mono HW1.o.size))).spc).mono ?_
     rintro e w4 ⟨rfl,b4⟩
     have HB4:=ħ b4
     clear b4
     go_wp2_with fail
     exact Zaa ⟨_,rfl,HB4.o,rfl⟩
    ·obtain rfl:=Option.some.inj hi
     clear hdn hl3
     clear gs2 gs12
     refine Zac rfl ?_
     go_wp2_with fail
     exact Zaa ⟨_,rfl,(Below.refl w'.heap.size w').alloc (Nat.le_refl _) _,w'.heap.size,rfl,heap_alloc_new _ _,hb.o.size⟩
   case he =>
    intro listed a' w4 H hsn hall
    have hd5:c1F D wx.heap.size ao n cp (M:Int) y1 y2 y3 i1 i2 5 w4 (a'.tmps.getD 77 undef):=H.done 5 _ 77 rfl (hall 5 (by decide)) rfl
    have hd6:c1F D wx.heap.size ao n cp (M:Int) y1 y2 y3 i1 i2 6 w4 (a'.tmps.getD 13 undef):=H.done 6 _ 13 rfl (hall 6 (by decide)) rfl
    have hb4:=ħ H.below
    have hact:=H.actN hsn [72,73,74,75,76,77,13] (Zk7 (by kernel_rfl))
    clear H hall hsn
    simp only[List.foldl_cons,List.foldl_nil] at hact
    generalize a'.tmps.getD 72 undef=z72 at *
    generalize a'.tmps.getD 73 undef=z73 at *
    generalize a'.tmps.getD 74 undef=z74 at *
    generalize a'.tmps.getD 75 undef=z75 at *
    generalize a'.tmps.getD 76 undef=z76 at *
    generalize a'.tmps.getD 77 undef=z77 at *
    generalize a'.tmps.getD 13 undef=z13 at *
    subst hact
    have e5:z77 = .agg #[.int .i64 (i1:Int),.int .i64 (i2:Int),.int .i64 y3]:=hd5
    subst e5
    clear hd5
    obtain⟨A,e6,hA,hNA⟩:=hd6
    subst e6
    simp only[Act.put,List.setIfInBounds_toArray,List.set_cons_succ,List.set_cons_zero]
    have HA:=ħ hA
    have HNA:=ħ hNA
    clear hA hNA
    refine Zbp (Zac rfl ?_)
    refine Zab rfl 147 (.tmp 13) (.tmp 77) rfl A #[.int .i64 (i1:Int),.int .i64 (i2:Int),.int .i64 y3] ?s1 ?s2 147 _ HA.o (Zlp _ rfl) rfl (by simp[Value.oneCell']) ?_
    case s1=>rfl
    case s2=>rfl
    intro w9 s9 u9
    have S9:Hid (Zah w9 A 147 [.int .i64 (i1:Int),.int .i64 (i2:Int),.int .i64 y3]):=ħ s9
    have U9:=ħ u9
    clear s9 u9
    have HW9:=ħ (U9.o.below (HW1.o.trans (hb4.o.mono HW1.o.size)) (Nat.le_trans HW1.o.size HNA.o))
    have OT9:=ħ ((OT1.o.below hb4.o).upd U9.o (fun e=>by have:=(OT1.o.blk_lt e).2;have:=HNA.o;omega))
    clear HA hb4 HW1 OT1 U9 Y1 HOF
    go_wp2_with fail
    refine Zaa (Zd0 ?_)
    have q0:=S9.o.cell 0 _ rfl
    by_cases hi1:i1=n
    ·have hb1:((i1:Int)==(n:Int))=true:=by rw[hi1];simp
     rw[if_pos hi1] at HTN
     have HTJ:=HTN
     have hi2n:i2<n:=by omega
     have HVZ:=ħ (fun W (hW:Below w9.heap.size w9 W)=>HG2.o hi2n W (HW9.o.trans (hW.mono HW9.o.size)))
     clear HG1 HG2
     go_upto_region 22 with (fail)
     clear q0
     refine Zc6 11 1 (Z8w tq tn tc g off n vc A i2 z2 y3) (by kernel_rfl) rfl (Z0e tq tn tc g off n vc A i2 z2 y3) (Zei (by kernel_rfl)) (Zh4 (by kernel_rfl)) (Zc5 (by kernel_rfl)) (Zg4 (by kernel_rfl)) ?hs ?he
     case hs =>
      intro i o hin hi listed a' w' H hsn hl2
      have hl3:=Za7 hl2
      have hb:=ħ H.below
      have s1:=hsn 1 (Zbi (by kernel_rfl))
      have s10:=hsn 10 (Zbi (by kernel_rfl))
      have s13:=hsn 13 (Zbi (by kernel_rfl))
      have hdn:=H.done
      have hdf:=H.defers
      have hts:=H.tsize
      clear hl2 H hsn
      obtain⟨t',df⟩:=a'
      obtain⟨f',rfl⟩:=Zuw t' hts
      have hdf':df=[]:=hdf
      subst hdf'
      have gs1:f' 1 = .slice (some ⟨g,off,none⟩) n vc:=s1
      have gs10:f' 10 = .slice tq tn tc:=s10
      have gs13:f' 13 = .pointer (some ⟨A,0,none⟩):=s13
      clear s1 s10 s13
      clear hdf hts
      have hcases:i=0∨i=1∨i=2∨i=3∨i=4∨i=5∨i=6∨i=7∨i=8∨i=9∨i=10:=Znj i hin
      clear hin
      rcases hcases with rfl | rfl | rfl | rfl | rfl | rfl | rfl | rfl | rfl | rfl | rfl
      ·obtain rfl:=Option.some.inj hi
       clear hdn hl3
       rw[gs10]
       clear gs1 gs10 gs13
       refine Zac rfl ?_
       go_wp2_with fail
       exact Zaa ⟨_,rfl,Below.refl _ _,rfl⟩
      ·obtain rfl:=Option.some.inj hi
       clear hdn hl3
       rw[gs1]
       clear gs1 gs10 gs13
       refine Zac rfl ?_
       go_wp2_with fail
       exact Zaa ⟨_,rfl,Below.refl _ _,rfl⟩
      ·obtain rfl:=Option.some.inj hi
       clear hdn hl3
       rw[gs13]
       clear gs1 gs10 gs13
       refine Zac rfl ?_
       go_wp2_with fail
       exact Zaa ⟨_,rfl,Below.refl _ _,rfl⟩
      ·obtain rfl:=Option.some.inj hi
       have dv2:f' 85 = .pointer (some ⟨A,1,none⟩):=hdn 2 _ 85 rfl (hl3 2 (by rfl)) rfl
       clear hdn hl3
       rw[dv2]
       clear dv2 gs1 gs10 gs13
       have c0:=(S9.o.step hb.o).cell 1 _ rfl
       refine Zac rfl ?_
       go_wp2_with fail
       exact Zaa ⟨_,rfl,Below.refl _ _,rfl⟩
      ·obtain rfl:=Option.some.inj hi
       have dv1:f' 84 = .slice (some ⟨g,off,none⟩) n vc:=hdn 1 _ 84 rfl (hl3 1 (by rfl)) rfl
       have dv3:f' 86 = .int .i64 (i2:Int):=hdn 3 _ 86 rfl (hl3 3 (by rfl)) rfl
       clear hdn hl3
       rw[dv1,dv3]
       clear dv1 dv3 gs1 gs10 gs13
       have ixl:(i2:Int)<n:=by omega
       refine Zac rfl ?_
       go_wp2_with fail
       exact Zaa ⟨_,rfl,Below.refl _ _,rfl⟩
      ·obtain rfl:=Option.some.inj hi
       have dv4:f' 87 = .pointer (some ⟨g,off+i2,none⟩):=hdn 4 _ 87 rfl (hl3 4 (by rfl)) rfl
       clear hdn hl3
       rw[dv4]
       clear dv4 gs1 gs10 gs13
       have z0:=HVZ.o w' hb.o
       refine Zac rfl ?_
       go_wp2_with fail
       exact Zaa ⟨_,rfl,Below.refl _ _,rfl⟩
      ·obtain rfl:=Option.some.inj hi
       clear hdn hl3
       rw[gs13]
       clear gs1 gs10 gs13
       refine Zac rfl ?_
       go_wp2_with fail
       exact Zaa ⟨_,rfl,Below.refl _ _,rfl⟩
      ·obtain rfl:=Option.some.inj hi
       have dv6:f' 89 = .pointer (some ⟨A,2,none⟩):=hdn 6 _ 89 rfl (hl3 6 (by rfl)) rfl
       clear hdn hl3
       rw[dv6]
       clear dv6 gs1 gs10 gs13
       have c2:=(S9.o.step hb.o).cell 2 _ rfl
       refine Zac rfl ?_
       go_wp2_with fail
       exact Zaa ⟨_,rfl,Below.refl _ _,rfl⟩
      ·obtain rfl:=Option.some.inj hi
       have dv5:f' 88 = .int .i64 z2:=hdn 5 _ 88 rfl (hl3 5 (by rfl)) rfl
       have dv7:f' 90 = .int .i64 y3:=hdn 7 _ 90 rfl (hl3 7 (by rfl)) rfl
       clear hdn hl3
       rw[dv5,dv7]
       clear dv5 dv7 gs1 gs10 gs13
       have e5:IntKind.i64.wrap (z2+y3)=z2+y3:=IntWalk.i64_in _ (by omega)
       refine Zac rfl ?_
       go_wp2_with fail
       exact Zaa ⟨_,rfl,Below.refl _ _,rfl⟩
      ·obtain rfl:=Option.some.inj hi
       have dv8:f' 91 = .int .i64 (z2+y3):=hdn 8 _ 91 rfl (hl3 8 (by rfl)) rfl
       clear hdn hl3
       rw[dv8]
       clear dv8 gs1 gs10 gs13
       have e5:IntKind.i64.wrap (z2+y3+1)=z2+y3+1:=IntWalk.i64_in _ (by omega)
       refine Zac rfl ?_
       go_wp2_with fail
       exact Zaa ⟨_,rfl,Below.refl _ _,rfl⟩
      ·obtain rfl:=Option.some.inj hi
       have dv9:f' 92 = .int .i64 (z2+y3+1):=hdn 9 _ 92 rfl (hl3 9 (by rfl)) rfl
       clear hdn hl3
       rw[dv9]
       clear dv9 gs1 gs10 gs13
       refine Zac rfl ?_
       go_wp2_with fail
       exact Zaa ⟨_,rfl,(Below.refl w'.heap.size w').alloc (Nat.le_refl _) _,w'.heap.size,rfl,heap_alloc_new _ _⟩
     case he =>
      intro listed a' w4 H hsn hall
      have hd0:Z8w tq tn tc g off n vc A i2 z2 y3 0 w4 (a'.tmps.getD 83 undef):=H.done 0 _ 83 rfl (hall 0 (by decide)) rfl
      have hd10:Z8w tq tn tc g off n vc A i2 z2 y3 10 w4 (a'.tmps.getD 93 undef):=H.done 10 _ 93 rfl (hall 10 (by decide)) rfl
      have hb4:=ħ H.below
      have hact:=H.actN hsn [83,84,85,86,87,88,89,90,91,92,93] (Zk7 (by kernel_rfl))
      clear H hall hsn
      simp only[List.foldl_cons,List.foldl_nil] at hact
      generalize a'.tmps.getD 83 undef=z83 at *
      generalize a'.tmps.getD 84 undef=z84 at *
      generalize a'.tmps.getD 85 undef=z85 at *
      generalize a'.tmps.getD 86 undef=z86 at *
      generalize a'.tmps.getD 87 undef=z87 at *
      generalize a'.tmps.getD 88 undef=z88 at *
      generalize a'.tmps.getD 89 undef=z89 at *
      generalize a'.tmps.getD 90 undef=z90 at *
      generalize a'.tmps.getD 91 undef=z91 at *
      generalize a'.tmps.getD 92 undef=z92 at *
      generalize a'.tmps.getD 93 undef=z93 at *
      subst hact
      have e0:z83 = .slice tq tn tc:=hd0
      subst e0
      clear hd0
      obtain⟨A2,e10,hA2⟩:=hd10
      subst e10
      simp only[Act.put,List.setIfInBounds_toArray,List.set_cons_succ,List.set_cons_zero]
      have HA2:=ħ hA2
      have OT4:=ħ (OT9.o.below hb4.o)
      have HW4:=ħ (HW9.o.trans (hb4.o.mono HW9.o.size))
      clear hA2
      refine Zbp (Zac rfl ?_)
      refine Zz0 60 3 (.int .i64 0) 1 8 Tryz.underlying60 Zes rfl (by omega) (by omega) w4 w1.heap.size rfl (.tmp 83) (.tmp 93) rfl tq tc tn ((Zgc ns v n (M:Int) ks j).flatMap Zct) rfl OT4.o HW4.o.size A2 1 1 [.int .i64 (z2+y3+1)] 3 rfl HA2.o rfl (by omega) (by simp[Value.oneCell']) (by omega) ?_
      intro g5 off5 c5 w8 ho8 hb8
      have O8:Hid (OwnK w8 w1.heap.size 1 (tn+1) c5 ((Zgc ns v n (M:Int) ks (j+1)).flatMap Zct) (some ⟨g5,off5,none⟩)):=ħ (by rw[HTJ.o,List.flatMap_append];exact ho8)
      have B8:=ħ (HW4.o.trans hb8)
      clear ho8 hb8
      go_wp2_with fail
      refine Zaa (Zbp (Zac rfl ?_))
      go_wp2_with fail
      refine Zaa (Zd0 ?_)
      go_wp2_with fail
      go_roundw
      case rel=>exact⟨j+1,tn+1,some ⟨g5,off5,none⟩,c5,by go_num,rfl,by omega,by omega,O8,B8⟩
      case measure=>simp only[intOf];omega
    ·have hb1:((i1:Int)==(n:Int))=false:=by rw[beq_eq_false_iff_ne];omega
     rw[if_neg hi1] at HTN
     have q1:=S9.o.cell 1 _ rfl
     have hi1n:i1<n:=by omega
     by_cases hi2:i2=n
     ·have hb2:((i2:Int)==(n:Int))=true:=by rw[hi2];simp
      rw[if_pos hi2] at HTN
      have HTJ:=HTN
      have HVZ:=ħ (fun W (hW:Below w9.heap.size w9 W)=>HG1.o hi1n W (HW9.o.trans (hW.mono HW9.o.size)))
      clear HG1 HG2
      go_upto_region 24 with (fail)
      clear q0 q1
      refine Zc6 10 1 (Z8x tq tn tc g off n vc A i1 z1 y3) (by kernel_rfl) rfl (Z0f tq tn tc g off n vc A i1 z1 y3) (Zei (by kernel_rfl)) (Zh4 (by kernel_rfl)) (Zc5 (by kernel_rfl)) (Zg4 (by kernel_rfl)) ?hs ?he
      case hs =>
       intro i o hin hi listed a' w' H hsn hl2
       have hl3:=Za7 hl2
       have hb:=ħ H.below
       have s1:=hsn 1 (Zbi (by kernel_rfl))
       have s10:=hsn 10 (Zbi (by kernel_rfl))
       have s13:=hsn 13 (Zbi (by kernel_rfl))
       have hdn:=H.done
       have hdf:=H.defers
       have hts:=H.tsize
       clear hl2 H hsn
       obtain⟨t',df⟩:=a'
       obtain⟨f',rfl⟩:=Zuw t' hts
       have hdf':df=[]:=hdf
       subst hdf'
       have gs1:f' 1 = .slice (some ⟨g,off,none⟩) n vc:=s1
       have gs10:f' 10 = .slice tq tn tc:=s10
       have gs13:f' 13 = .pointer (some ⟨A,0,none⟩):=s13
       clear s1 s10 s13
       clear hdf hts
       have hcases:i=0∨i=1∨i=2∨i=3∨i=4∨i=5∨i=6∨i=7∨i=8∨i=9:=Zv6 i hin
       clear hin
       rcases hcases with rfl | rfl | rfl | rfl | rfl | rfl | rfl | rfl | rfl | rfl
       ·obtain rfl:=Option.some.inj hi
        clear hdn hl3
        rw[gs10]
        clear gs1 gs10 gs13
        refine Zac rfl ?_
        go_wp2_with fail
        exact Zaa ⟨_,rfl,Below.refl _ _,rfl⟩
       ·obtain rfl:=Option.some.inj hi
        clear hdn hl3
        rw[gs1]
        clear gs1 gs10 gs13
        refine Zac rfl ?_
        go_wp2_with fail
        exact Zaa ⟨_,rfl,Below.refl _ _,rfl⟩
       ·obtain rfl:=Option.some.inj hi
        clear hdn hl3
        rw[gs13]
        clear gs1 gs10 gs13
        refine Zac rfl ?_
        go_wp2_with fail
        exact Zaa ⟨_,rfl,Below.refl _ _,rfl⟩
       ·obtain rfl:=Option.some.inj hi
        have dv2:f' 102 = .pointer (some ⟨A,0,none⟩):=hdn 2 _ 102 rfl (hl3 2 (by rfl)) rfl
        clear hdn hl3
        rw[dv2]
        clear dv2 gs1 gs10 gs13
        have c0:=(S9.o.step hb.o).cell 0 _ rfl
        refine Zac rfl ?_
        go_wp2_with fail
        exact Zaa ⟨_,rfl,Below.refl _ _,rfl⟩
       ·obtain rfl:=Option.some.inj hi
        have dv1:f' 101 = .slice (some ⟨g,off,none⟩) n vc:=hdn 1 _ 101 rfl (hl3 1 (by rfl)) rfl
        have dv3:f' 103 = .int .i64 (i1:Int):=hdn 3 _ 103 rfl (hl3 3 (by rfl)) rfl
        clear hdn hl3
        rw[dv1,dv3]
        clear dv1 dv3 gs1 gs10 gs13
        have ixl:(i1:Int)<n:=by omega
        refine Zac rfl ?_
        go_wp2_with fail
        exact Zaa ⟨_,rfl,Below.refl _ _,rfl⟩
       ·obtain rfl:=Option.some.inj hi
        have dv4:f' 104 = .pointer (some ⟨g,off+i1,none⟩):=hdn 4 _ 104 rfl (hl3 4 (by rfl)) rfl
        clear hdn hl3
        rw[dv4]
        clear dv4 gs1 gs10 gs13
        have z0:=HVZ.o w' hb.o
        refine Zac rfl ?_
        go_wp2_with fail
        exact Zaa ⟨_,rfl,Below.refl _ _,rfl⟩
       ·obtain rfl:=Option.some.inj hi
        clear hdn hl3
        rw[gs13]
        clear gs1 gs10 gs13
        refine Zac rfl ?_
        go_wp2_with fail
        exact Zaa ⟨_,rfl,Below.refl _ _,rfl⟩
       ·obtain rfl:=Option.some.inj hi
        have dv6:f' 106 = .pointer (some ⟨A,2,none⟩):=hdn 6 _ 106 rfl (hl3 6 (by rfl)) rfl
        clear hdn hl3
        rw[dv6]
        clear dv6 gs1 gs10 gs13
        have c2:=(S9.o.step hb.o).cell 2 _ rfl
        refine Zac rfl ?_
        go_wp2_with fail
        exact Zaa ⟨_,rfl,Below.refl _ _,rfl⟩
       ·obtain rfl:=Option.some.inj hi
        have dv5:f' 105 = .int .i64 z1:=hdn 5 _ 105 rfl (hl3 5 (by rfl)) rfl
        have dv7:f' 107 = .int .i64 y3:=hdn 7 _ 107 rfl (hl3 7 (by rfl)) rfl
        clear hdn hl3
        rw[dv5,dv7]
        clear dv5 dv7 gs1 gs10 gs13
        have e5:IntKind.i64.wrap (z1-y3)=z1-y3:=IntWalk.i64_in _ (by omega)
        refine Zac rfl ?_
        go_wp2_with fail
        exact Zaa ⟨_,rfl,Below.refl _ _,rfl⟩
       ·obtain rfl:=Option.some.inj hi
        have dv8:f' 108 = .int .i64 (z1-y3):=hdn 8 _ 108 rfl (hl3 8 (by rfl)) rfl
        clear hdn hl3
        rw[dv8]
        clear dv8 gs1 gs10 gs13
        refine Zac rfl ?_
        go_wp2_with fail
        exact Zaa ⟨_,rfl,(Below.refl w'.heap.size w').alloc (Nat.le_refl _) _,w'.heap.size,rfl,heap_alloc_new _ _⟩
      case he =>
       intro listed a' w4 H hsn hall
       have hd0:Z8x tq tn tc g off n vc A i1 z1 y3 0 w4 (a'.tmps.getD 100 undef):=H.done 0 _ 100 rfl (hall 0 (by decide)) rfl
       have hd9:Z8x tq tn tc g off n vc A i1 z1 y3 9 w4 (a'.tmps.getD 109 undef):=H.done 9 _ 109 rfl (hall 9 (by decide)) rfl
       have hb4:=ħ H.below
       have hact:=H.actN hsn [100,101,102,103,104,105,106,107,108,109] (Zk7 (by kernel_rfl))
       clear H hall hsn
       simp only[List.foldl_cons,List.foldl_nil] at hact
       generalize a'.tmps.getD 100 undef=z100 at *
       generalize a'.tmps.getD 101 undef=z101 at *
       generalize a'.tmps.getD 102 undef=z102 at *
       generalize a'.tmps.getD 103 undef=z103 at *
       generalize a'.tmps.getD 104 undef=z104 at *
       generalize a'.tmps.getD 105 undef=z105 at *
       generalize a'.tmps.getD 106 undef=z106 at *
       generalize a'.tmps.getD 107 undef=z107 at *
       generalize a'.tmps.getD 108 undef=z108 at *
       generalize a'.tmps.getD 109 undef=z109 at *
       subst hact
       have e0:z100 = .slice tq tn tc:=hd0
       subst e0
       clear hd0
       obtain⟨A2,e9,hA2⟩:=hd9
       subst e9
       simp only[Act.put,List.setIfInBounds_toArray,List.set_cons_succ,List.set_cons_zero]
       have HA2:=ħ hA2
       have OT4:=ħ (OT9.o.below hb4.o)
       have HW4:=ħ (HW9.o.trans (hb4.o.mono HW9.o.size))
       clear hA2
       refine Zbp (Zac rfl ?_)
       refine Zz0 60 3 (.int .i64 0) 1 8 Tryz.underlying60 Zes rfl (by omega) (by omega) w4 w1.heap.size rfl (.tmp 100) (.tmp 109) rfl tq tc tn ((Zgc ns v n (M:Int) ks j).flatMap Zct) rfl OT4.o HW4.o.size A2 1 1 [.int .i64 (z1-y3)] 3 rfl HA2.o rfl (by omega) (by simp[Value.oneCell']) (by omega) ?_
       intro g5 off5 c5 w8 ho8 hb8
       have O8:Hid (OwnK w8 w1.heap.size 1 (tn+1) c5 ((Zgc ns v n (M:Int) ks (j+1)).flatMap Zct) (some ⟨g5,off5,none⟩)):=ħ (by rw[HTJ.o,List.flatMap_append];exact ho8)
       have B8:=ħ (HW4.o.trans hb8)
       clear ho8 hb8
       go_wp2_with fail
       refine Zaa (Zbp (Zac rfl ?_))
       go_wp2_with fail
       refine Zaa (Zd0 ?_)
       go_wp2_with fail
       go_roundw
       case rel=>exact⟨j+1,tn+1,some ⟨g5,off5,none⟩,c5,by go_num,rfl,by omega,by omega,O8,B8⟩
       case measure=>simp only[intOf];omega
     ·have hb2:((i2:Int)==(n:Int))=false:=by rw[beq_eq_false_iff_ne];omega
      rw[if_neg hi2] at HTN
      have O9:Hid (OwnK w9 w1.heap.size 1 tn tc ((Zgc ns v n (M:Int) ks (j+1)).flatMap Zct) tq):=ħ (by rw[HTN.o,List.append_nil];exact OT9.o)
      clear HG1 HG2 OT9
      go_wp2_with fail
      go_roundw
      case rel=>exact⟨j+1,tn,tq,tc,by go_num,rfl,by omega,by omega,O9,HW9⟩
      case measure=>simp only[intOf];omega
  ·have jj:¬ ((j:Int)<m):=by omega
   obtain rfl:j=m:=by omega
   have HU:Hid (Zgc ns v n (M:Int) ks j=Zec ns v n (M:Int) ks):=ħ (Zv3 (by rw[HM.o];exact Nat.le_refl _))
   have hto2:=hto.o
   rw[HU.o] at hto2
   have htl:tn=(Zec ns v n (M:Int) ks).length:=by have:=hto2.count;rw[Zbe Zct 1 Zci] at this;omega
   have htl2:2≤(Zec ns v n (M:Int) ks).length:=by unfold Zec;rw[List.length_append];simp
   obtain⟨g5,off5,htq,hg5B,hg5l,-⟩:=hto2.readsAt (by omega)
   subst htq
   have HX2:=ħ (X1.o.step hw.o)
   have HD2:=ħ (D1.o.step hw.o)
   have HXN:Hid (w.heap.size≠g5∧D≠g5):=ħ ⟨by have:=X1.o.lt;omega,by have:=Zah.lt D1.o.prob;omega⟩
   have egd:∀ args w,(callFunc 193 args).run Tryz.prog w = .ok (.enter 193 args) w:=enters_of Tryz.func193 (by kernel_rfl) rfl
   have HDL:=ħ (Z4g wr w1.heap.size tc tn g5 off5 (Zec ns v n (M:Int) ks) htl hto2 (by omega) 193 #[.pointer (some ⟨w.heap.size,0,none⟩)] (fun x=>!inT (M:Int) x) egd (fun W x hW=>Z4m W w.heap.size D ao n cp (M:Int) (.slice po pn pc) (.slice ro ks.length rc) x ((hW.block _ HX2.o.lt HXN.o.1).trans HX2.o) ((hW.block _ (Zah.lt HD2.o.prob) HXN.o.2).trans HD2.o.prob) (by omega)))
   have HFL:Hid ((Zec ns v n (M:Int) ks).filter (fun x=>!!inT (M:Int) x)=(Zec ns v n (M:Int) ks).filter (inT (M:Int))):=ħ (by simp only[Bool.not_not])
   rw[HFL.o] at HDL
   have HTP:Hid (Zch ns v n (M:Int) ks=((Zec ns v n (M:Int) ks).filter (inT (M:Int))).mergeSort leI):=ħ rfl
   have HTL:=ħ (Zz5 ns v n (M:Int) (by omega) ks)
   have HTG:=ħ (fun i hi=>Zz4 (ns:=ns) (v:=v) (at':=n) (most:=(M:Int)) (ks:=ks) i hi)
   have HTM:=ħ (fun t ht=>((Zg7 ns v n (M:Int) ks t).1 ht).2)
   have HSS:=ħ (Zz3 (fun x=>Zas (fK ns (gv (v++[x]))) p) (Zch ns v n (M:Int) ks))
   rw[HS.o] at HSS
   obtain⟨FL,hFL⟩:∃ L,(Zec ns v n (M:Int) ks).filter (inT (M:Int))=L:=⟨_,rfl⟩
   rw[hFL] at HDL HTP
   obtain⟨TL,hTL⟩:∃ L,Zch ns v n (M:Int) ks=L:=⟨_,rfl⟩
   rw[hTL] at HTP HTL HTG HTM HSS
   obtain⟨N1,hN1⟩:∃ N1,FL.length=N1+1:=⟨FL.length-1,by have h:=HTL.o.1;rw[HTP.o,List.length_mergeSort] at h;omega⟩
   have HNT:Hid (TL.length=N1+1):=ħ (by rw[HTP.o,List.length_mergeSort,hN1])
   have HNF:=ħ hN1
   have hN10:N1≤9:=by have h:=HTL.o.2;rw[HNT.o,HM.o] at h;omega
   have HSB:=ħ (fun i hi=>Zqr (g:=fun x=>Zas (fK ns (gv (v++[x]))) p) (L:=TL) (M:=65536) (by omega) (fun i hi=>by have:=HTG.o i hi;omega) i hi)
   rw[HNT.o] at HSB HTG HSS
   have hs1:N1+1-1=N1:=by omega
   rw[hs1] at HSS
   have hw1:=ħ hw.o
   clear hs1 hFL hTL hto hto2 htl htl2 hg5l htn HFL HTL HU hw HKNW
   rw[hN1] at HDL
   clear hN1
   go_wp2_with fail
   refine HDL.o.mono ?_
   rintro e w5 ⟨rfl,ho5,on5⟩
   have O5:=ħ ho5
   have B5:=ħ (Only.later hw1.o on5 (fun x hx=>by rw[hx];exact hg5B))
   clear ho5 on5 HDL hw1 HX2 HD2
   have HST:=ħ (Zz1 w5 w1.heap.size (N1+1) tc g5 off5 FL HNF.o.symm O5.o (by omega))
   rw[← HTP.o] at HST
   clear O5 HTP HNF
   go_wp2_with fail
   refine HST.o.mono ?_
   rintro e w6 ⟨rfl,ho6,on6⟩
   have O6:=ħ ho6
   have B6:=ħ (Only.later B5.o on6 (fun x hx=>by rw[hx];exact hg5B))
   clear ho6 on6 HST B5
   have hcap:=O6.o.len_le.1
   have FT:=ħ (O6.o.flatR Zci HNT.o.symm)
   have eN:IntKind.i64.wrap (((N1+1:Nat):Int)-1)=(N1:Int):=by
    rw[show (((N1+1:Nat):Int)-1)=(N1:Int) by omega]
    exact IntWalk.i64_in _ (by omega)
   have eN2:IntKind.i64.wrap (((N1:Int)+1)-1)=(N1:Int):=by
    rw[show (((N1:Int)+1)-1)=(N1:Int) by omega]
    exact IntWalk.i64_in _ (by omega)
   have c1:(0:Int)≤(N1:Int):=by omega
   have c2:(N1:Int)≤(tc:Int):=by omega
   clear O6
   go_wp2_with fail
   clear eN eN2 c1 c2
   have egs:∀ args w,(callFunc 189 args).run Tryz.prog w = .ok (.enter 189 args) w:=enters_of Tryz.func189 (by kernel_rfl) rfl
   go_loopw [7,123] (fun sv iv wr=>∃ (i:Nat) (s:Int),iv = .int .i64 i∧sv = .int .i64 s∧i≤N1∧Hid (s=Zhw (fun x=>Zas (fK ns (gv (v++[x]))) p) TL i)∧Hid (Below w6.heap.size w6 wr)) (fun _ i _=>(N1-intOf i).toNat)
   case atStart=>exact⟨0,0,rfl,rfl,by omega,ħ rfl,ħ (Below.refl _ _)⟩
   case round =>
    obtain⟨i,s,rfl,rfl,hi,hs,hw⟩:=hrel
    have e2:IntKind.i64.wrap ((i:Int)+1)=((i+1:Nat):Int):=IntWalk.i64_in _ (by omega)
    have hsb:=HSB.o i (by omega)
    rw[← hs.o] at hsb
    by_cases hil:i<N1
    ·have ii:(i:Int)<N1:=by omega
     have i1:((i+1:Nat):Int)<((N1+1:Nat):Int):=by omega
     have i1':(i:Int)+1<(N1:Int)+1:=by omega
     have HT1:=Zhc (show i<TL.length by rw[HNT.o];omega)
     have HT2:=Zhc (show i+1<TL.length by rw[HNT.o];omega)
     have ht1:=HTM.o _ (List.mem_of_getElem? HT1)
     have hgap:=HTG.o i (by omega)
     have HSN:Hid (Zhw (fun x=>Zas (fK ns (gv (v++[x]))) p) TL (i+1)=s+(if Zas (fK ns (gv (v++[gv TL i]))) p=true then gv TL (i+1)-gv TL i else 0)):=ħ (by rw[hs.o];rfl)
     obtain⟨ga,oa,hga,hgl1,t0⟩:=(FT.o.below hw.o).int i _ HT1
     obtain⟨gb,ob,hgb,hgl2,t1⟩:=(FT.o.below hw.o).int (i+1) _ HT2
     cases hga
     cases hgb
     have B8:=ħ (B6.o.trans (hw.o.mono B6.o.size))
     have HVW:=ħ (HV1.o.of_block (B8.o.block g HGL.o))
     have HGW:=ħ (Nat.lt_of_lt_of_le HGL.o B8.o.size)
     have HVV:Hid (∀ z,0≤gv (v++[gv TL i]) z∧gv (v++[gv TL i]) z≤100000):=ħ (fun z=>by
      have h:=HVB.o z
      rw[Zjp]
      split
      ·omega
      ·split<;>omega)
     have HIS:=ħ (fun W (hW:Below w1.heap.size w1 W) va vcap (hf:Za8 Zct W va (v++[gv TL i]))=>Z4l W P w.heap.size D ns ao n cp (M:Int) ps p po pn pc ks ro rc va (n+1) vcap (v++[gv TL i]) (X1.o.step hW) (D1.o.step hW) HP.o HPN.o HPK.o HPC.o hf (by rw[List.length_append,HVL.o];rfl) (by rw[List.length_append,HVL.o];rfl) HVV.o)
     have HFV:Hid ((v++[gv TL i]).flatMap Zct=v.flatMap Zct++[.int .i64 (gv TL i)]):=ħ (by rw[List.flatMap_append];rfl)
     have HVF:Hid ((v.flatMap Zct).length=n*1):=ħ (by rw[Zbe Zct 1 Zci,HVL.o])
     have HVS:Hid ((v++[gv TL i]).length=n+1):=ħ (by rw[List.length_append,HVL.o];rfl)
     obtain⟨tv,htv⟩:∃ b,Zas (fK ns (gv (v++[gv TL i]))) p=b:=⟨_,rfl⟩
     rw[htv] at HSN HIS
     clear HT1 HT2 HVV htv
     generalize v++[gv TL i]=vx at *
     generalize v.flatMap Zct=vf at *
     generalize gv TL i=z1 at *
     generalize gv TL (i+1)=z2 at *
     have HCP:=ħ (Zqq wr g off n vc hvc hvm)
     go_wp2_with fail
     refine HCP.o.mono ?_
     rintro e w7 ⟨rfl,rfl⟩
     have bq:=(Below.refl w7.heap.size w7).alloc (Nat.le_refl _) (.cells #[.int .i64 z1] 3)
     have AX:Hid (Zah (w7.alloc (.cells #[.int .i64 z1] 3)) w7.heap.size 3 [.int .i64 z1]):=ħ (heap_alloc_new _ _)
     have BQ:=ħ bq
     have t0':=(World.cell?_of_block (a:=⟨g5,off5+i,none⟩) (bq.block g5 hgl1)).trans t0
     have t1':=(World.cell?_of_block (a:=⟨g5,off5+(i+1),none⟩) (bq.block g5 hgl1)).trans t1
     clear bq HCP
     go_wp2_with (at_builtin;refine Zuq 60 3 (.int .i64 0) 1 8 Tryz.underlying60 Zes rfl (by omega) (by omega) _ rfl (.tmp 130) (.tmp 132) rfl g off n vf rfl HVF.o (HVW.o.of_block (BQ.o.block g HGW.o)) w7.heap.size 1 1 [.int .i64 z1] 3 rfl AX.o rfl (by omega) (by simp[Value.oneCell']) (by omega) ?_;intro g8 cap8 w8 o8 b8;have O8:=ħ o8;have B88:=ħ (BQ.o.trans (b8.mono BQ.o.size));clear o8 b8)
     have HQ:=ħ (HIS.o w8 (B8.o.trans (B88.o.mono B8.o.size)) (some ⟨g8,0,none⟩) cap8 (by have h:=O8.o;rw[← HFV.o] at h;exact h.flatR Zci HVS.o.symm))
     have t2':=(World.cell?_of_block (a:=⟨g5,off5+(i+1),none⟩) (B88.o.block g5 hgl1)).trans t1
     have HW8:=ħ (hw.o.trans (B88.o.mono hw.o.size))
     have hgl8:g5<w8.heap.size:=Nat.lt_of_lt_of_le hgl1 B88.o.size
     clear t0' t1' t0 t1 AX BQ O8 HIS B88 B8 hw HVW HGW
     go_wp2_with fail
     refine HQ.o.mono ?_
     rintro e w9 ⟨rfl,b9⟩
     have t3':=(World.cell?_of_block (a:=⟨g5,off5+(i+1),none⟩) (b9.block g5 hgl8)).trans t2'
     have HW9:=ħ (HW8.o.trans (b9.mono HW8.o.size))
     clear b9 HQ t2' HW8
     cases tv with
     | false =>
      have HS2:Hid (s=Zhw (fun x=>Zas (fK ns (gv (v++[x]))) p) TL (i+1)):=ħ (by rw[HSN.o];simp)
      go_wp2_with fail
      go_roundw
      case rel=>exact⟨i+1,s,by go_num,rfl,by omega,HS2,HW9⟩
      case measure=>simp only[intOf];omega
     | true =>
      have HS2:Hid (s+(z2-z1)=Zhw (fun x=>Zas (fK ns (gv (v++[x]))) p) TL (i+1)):=ħ (by rw[HSN.o];simp)
      have e6:IntKind.i64.wrap (z2-z1)=z2-z1:=IntWalk.i64_in _ (by omega)
      have e7:IntKind.i64.wrap (s+(z2-z1))=s+(z2-z1):=IntWalk.i64_in _ (by omega)
      go_wp2_with fail
      go_roundw
      case rel=>exact⟨i+1,s+(z2-z1),by go_num,rfl,by omega,HS2,HW9⟩
      case measure=>simp only[intOf];omega
    ·have ii:¬ ((i:Int)<N1):=by omega
     have HE:Hid (S=s):=ħ (by rw[HSS.o,hs.o,show i=N1 by omega])
     have B9:=ħ (B1.o.trans ((B6.o.trans (hw.o.mono B6.o.size)).mono B1.o.size))
     go_wp2
     go_ret
     exact⟨Za0 HE.o.symm,B9.o⟩
end
section
open Go.RowKit Go.Sort
theorem Z0g (f:List Int→Bool) (M:Nat):∀ (r:Nat) (v:List Int),Zit f M r v≤(M+1)^r
 | 0,v=>by unfold Zit;split<;>simp
 | r+1,v=>by
  have h:∀ m,Zit.sumA (fun x=>Zit f M r (v++[(x:Int)])) m≤m*(M+1)^r:=by
   intro m
   induction m with
   | zero=>simp[Zit.sumA]
   | succ m ih =>
    unfold Zit.sumA
    have:=Z0g f M r (v++[(m:Int)])
    rw[Nat.add_mul,Nat.one_mul]
    omega
  unfold Zit
  have:=h (M+1)
  rw[Nat.pow_succ,Nat.mul_comm]
  exact this
theorem Z7n (f:List Int→Bool) (M r:Nat) (v:List Int) (m:Nat):Zit.sumA (fun x=>Zit f M r (v++[(x:Int)])) m≤m*(M+1)^r:=by
 induction m with
 | zero=>simp[Zit.sumA]
 | succ m ih =>
  unfold Zit.sumA
  have:=Z0g f M r (v++[(m:Int)])
  rw[Nat.add_mul,Nat.one_mul]
  omega
theorem Z0h (i:Nat) (h:i<9):i=0∨i=1∨i=2∨i=3∨i=4∨i=5∨i=6∨i=7∨i=8:=by omega
def cnF (D g off vn vc x cc:Nat) (acc:Int) (vf:List Value) (i:Nat) (W:World) (v:Value):Prop:=match i with
 | 0=>v = .int .i64 acc
 | 1=>v = .pointer (some ⟨D,0,none⟩)
 | 2=>v = .slice (some ⟨g,off,none⟩) vn vc
 | 3=>v = .slice (some ⟨g,off,none⟩) vn vn
 | 4=>v = .int .i64 (x:Int)
 | 5=>∃ A2,v = .slice (some ⟨A2,0,none⟩) 1 1∧Zah W A2 3 [.int .i64 (x:Int)]
 | 6=>∃ g8 cap8,v = .slice (some ⟨g8,0,none⟩) (vn+1) cap8∧vn+1≤cap8∧cap8≤maxLen∧g8<W.heap.size∧Za2 W g8 0 (vf++[.int .i64 (x:Int)])
 | 7=>v = .int .i64 (cc:Int)
 | 8=>v = .int .i64 (acc+(cc:Int))
 | _=>True
theorem Z4o (D g off vn vc x cc:Nat) (acc:Int) (vf:List Value):∀ i w w' v,cnF D g off vn vc x cc acc vf i w v→Below w.heap.size w w'→cnF D g off vn vc x cc acc vf i w' v:=by
 intro i w w' v h hb
 match i with
 | 0=>exact h
 | 1=>exact h
 | 2=>exact h
 | 3=>exact h
 | 4=>exact h
 | 5=>obtain⟨A2,h1,h2⟩:=h;exact⟨A2,h1,h2.step hb⟩
 | 6=>obtain⟨g8,cap8,h1,h2,h3,h4,h5⟩:=h;exact⟨g8,cap8,h1,h2,h3,Nat.lt_of_lt_of_le h4 hb.size,h5.of_block (hb.block g8 h4)⟩
 | 7=>exact h
 | 8=>exact h
 | k+9=>trivial
theorem Zqw (P:Nat→Prop) (D:Nat) (ns:List (List Nat)) (ao:Option Addr) (n cp M:Nat) (ps:List Prd) (p:Prd) (po:Option Addr) (pn pc:Nat) (ro:Option Addr) (rc:Nat)
  (hp:ps[0]?=some p) (hpn:pn=ps.length) (hpk:∀ k∈Zbx p,Zmn ns k) (hpc:Za5 p≤1000000) (hkc:∀ k∈Zal ps,Zmn ns k) (hk8:(Zal ps).length≤8) (hM:M≤65535) (hB:(M+1)^n≤1099511627776) :
  ∀ (r:Nat) (w:World) (g off vc:Nat) (v:List Int),DecR w P D ns ao n cp (M:Int) ps po pn pc (Zal ps) ro rc→v.length+r=n→1≤v.length→Za2 w g off (v.flatMap Zct)→g<w.heap.size→v.length≤vc→vc≤maxLen→(∀ i,0≤gv v i∧gv v i≤65536) →
  Calls Tryz.prog 130 #[.pointer (some ⟨D,0,none⟩),.slice (some ⟨g,off,none⟩) v.length vc] w fun e w'=>e = .returned (.int .i64 (Zit (fun u=>Zas (fK ns (gv u)) p) M (r+1) v:Nat))∧Below w.heap.size w w'
 | 0,w,g,off,vc,v,hd,hr,h1,hv,hgl,hvc,hvm,hvb=>by
  have hvl:v.length=n:=by omega
  have hkn:∀ k∈Zal ps,Zmf k=false:=fun k hk=>((Ze9 _ k).1 hk).1
  have hcn:=hd.spc.cnt
  have hl:=Zy5 (ns:=ns) (ps:=ps) (p:=p) (List.mem_of_getElem? hp) (fun k hk=>(hkc k hk).2.1) (v:=v) (by rw[hvl,hcn]) M
  rw[← hl,← hcn,hvl]
  rw[hvl] at hvc
  exact Z4n w P D ns ao n cp M ps p po pn pc (Zal ps) ro rc g off vc v hd hp hpn hpk hpc hkc hkn hk8 hM (by omega) hv hgl hvl hvc hvm hvb
 | r+1,w,g,off,vc,v,hd,hr,h1,hv,hgl,hvc,hvm,hvb=>by
  have hn100:n≤100:=hd.spc.big
  have bx:=(Below.refl w.heap.size w).alloc (Nat.le_refl _) (.cells #[.pointer (some ⟨D,0,none⟩)] 151)
  have B1:=ħ bx
  have D1:=ħ (hd.step bx)
  have X1:Hid (Zah (w.alloc (.cells #[.pointer (some ⟨D,0,none⟩)] 151)) w.heap.size 151 [.pointer (some ⟨D,0,none⟩)]):=ħ (heap_alloc_new w _)
  have HV1:=ħ (hv.of_block (bx.block g hgl))
  have HGL:=ħ (Nat.lt_of_lt_of_le hgl bx.size)
  have HIH0:=ħ (fun W (hW:Below (w.alloc (.cells #[.pointer (some ⟨D,0,none⟩)] 151)).heap.size (w.alloc (.cells #[.pointer (some ⟨D,0,none⟩)] 151)) W) (x:Nat) (hx:x≤M) (g8 cap8:Nat) (h1:g8<W.heap.size) (h2:v.length+1≤cap8) (h3:cap8≤maxLen) (h4:Za2 W g8 0 ((v++[(x:Int)]).flatMap Zct))=>Zqw P D ns ao n cp M ps p po pn pc ro rc hp hpn hpk hpc hkc hk8 hM hB r W g8 0 cap8 (v++[(x:Int)]) ((hd.step bx).step hW) (by rw[List.length_append];simp;omega) (by rw[List.length_append];simp) h4 h1 (by rw[List.length_append];exact h2) h3 (fun i=>by
   have:=hvb i
   rw[Zjp]
   split
   ·omega
   ·split<;>omega))
  obtain⟨F,hF⟩:∃ F:Nat→Nat,F=fun (x:Nat)=>Zit (fun u=>Zas (fK ns (gv u)) p) M (r+1) (v++[(x:Int)]):=⟨_,rfl⟩
  have HFX:Hid (∀ x:Nat,F x=Zit (fun u=>Zas (fK ns (gv u)) p) M (r+1) (v++[(x:Int)])):=ħ (fun x=>by rw[hF])
  have HSA:Hid (Zit (fun u=>Zas (fK ns (gv u)) p) M (r+1+1) v=Zit.sumA F (M+1)):=ħ (by rw[hF];rfl)
  have HSB:Hid (∀ m,m≤M+1→Zit.sumA F m≤1099511627776):=ħ (fun m hm=>by
   rw[hF]
   refine Nat.le_trans (Z7n _ M (r+1) v m) (Nat.le_trans ?_ hB)
   have h2:m*(M+1)^(r+1)≤(M+1)*(M+1)^(r+1):=Nat.mul_le_mul_right _ hm
   refine Nat.le_trans h2 ?_
   rw[Nat.mul_comm,← Nat.pow_succ]
   exact Nat.pow_le_pow_right (by omega) (by omega))
  rw[HSA.o]
  obtain⟨vn,hvn⟩:∃ vn,v.length=vn:=⟨_,rfl⟩
  have HVF:Hid ((v.flatMap Zct).length=vn*1):=ħ (by rw[Zbe Zct 1 Zci,hvn])
  have HVA:Hid (∀ x:Nat,(v++[(x:Int)]).length=vn+1∧(v++[(x:Int)]).flatMap Zct=v.flatMap Zct++[.int .i64 (x:Int)]):=ħ (fun x=>⟨by rw[List.length_append,hvn];rfl,by rw[List.flatMap_append];rfl⟩)
  rw[hvn] at hr h1 hvc HIH0 ⊢
  have n1:¬ ((n:Int)<(vn:Int)):=by omega
  have n2:(vn:Int)<(n:Int):=by omega
  have eM:IntKind.i64.wrap ((M:Int)+1)=(M:Int)+1:=IntWalk.i64_in _ (by omega)
  clear bx hd hp hpn hpk hpc hkc hk8 hB hv hgl hvb hF HSA hvn
  go_enter Tryz.func130,Tryz.ntmps130
  go_upto_region 4 with (fail)
  generalize w.alloc (.cells #[.pointer (some ⟨D,0,none⟩)] 151)=w1 at *
  have x0:=X1.o.cell 0 _ rfl
  have d0:=Zah.cell D1.o.prob 0 _ rfl
  have d1:=Zah.cell D1.o.prob 1 _ rfl
  go_wp2_with fail
  clear x0 d0 d1 n1 n2 eM
  go_loopw [7,42] (fun sv iv wr=>∃ (x:Nat),iv = .int .i64 x∧sv = .int .i64 ((Zit.sumA F x:Nat):Int)∧x≤M+1∧Hid (Below w1.heap.size w1 wr)) (fun _ i _=>(M+1-intOf i).toNat)
  case atStart=>exact⟨0,rfl,rfl,by omega,ħ (Below.refl _ _)⟩
  case round =>
   obtain⟨x,rfl,rfl,hx,hw⟩:=hrel
   have e2:IntKind.i64.wrap ((x:Int)+1)=((x+1:Nat):Int):=IntWalk.i64_in _ (by omega)
   by_cases hxl:x<M+1
   ·have ii:(x:Int)<(M:Int)+1:=by omega
    have HSN:Hid (((Zit.sumA F (x+1):Nat):Int)=((Zit.sumA F x:Nat):Int)+((F x:Nat):Int)):=ħ (by rw[Zit.sumA];omega)
    have hs1:=HSB.o (x+1) (by omega)
    have hs0:=HSB.o x (by omega)
    have hs3:=HSN.o
    have HIH:=ħ (fun W (hW:Below w1.heap.size w1 W) (g8 cap8:Nat) (h1:g8<W.heap.size) (h2:vn+1≤cap8) (h3:cap8≤maxLen) (h4:Za2 W g8 0 (v.flatMap Zct++[.int .i64 (x:Int)]))=>HIH0.o W hW x (by omega) g8 cap8 h1 h2 h3 (by rw[(HVA.o x).2];exact h4))
    rw[(HVA.o x).1] at HIH
    have HFE:=HFX.o x
    rw[← HFE] at HIH
    have HVR:=ħ (fun W (hW:Below w1.heap.size w1 W)=>HV1.o.of_block (hW.block g HGL.o))
    clear HFE
    generalize F x=cc at *
    obtain⟨acc,hacc⟩:∃ a:Int,((Zit.sumA F x:Nat):Int)=a:=⟨_,rfl⟩
    rw[hacc] at HSN hs3 ⊢
    have ha0:0≤acc∧acc≤1099511627776:=by omega
    have hc0:cc≤1099511627776:=by omega
    clear hs1 hs0 hs3 hacc
    generalize v.flatMap Zct=vf at *
    go_upto_region 13 with (fail)
    refine Zc6 9 0 (cnF D g off vn vc x cc acc vf) (by kernel_rfl) rfl (Z4o D g off vn vc x cc acc vf) (Zei (by kernel_rfl)) (Zh4 (by kernel_rfl)) (Zc5 (by kernel_rfl)) (Zg4 (by kernel_rfl)) ?hs ?he
    case hs =>
     intro i o hin hi listed a' w' H hsn hl2
     have hl3:=Za7 hl2
     have hb:=ħ H.below
     have s1:=hsn 1 (Zbi (by kernel_rfl))
     have s2:=hsn 2 (Zbi (by kernel_rfl))
     have s7:=hsn 7 (Zbi (by kernel_rfl))
     have s9:=hsn 9 (Zbi (by kernel_rfl))
     have hdn:=H.done
     have hdf:=H.defers
     have hts:=H.tsize
     clear hl2 H hsn
     obtain⟨t',df⟩:=a'
     obtain⟨f',rfl⟩:=Zuw t' hts
     have hdf':df=[]:=hdf
     subst hdf'
     have gs1:f' 1 = .slice (some ⟨g,off,none⟩) vn vc:=s1
     have gs2:f' 2 = .pointer (some ⟨w.heap.size,0,none⟩):=s2
     have gs7:f' 7 = .int .i64 acc:=s7
     have gs9:f' 9 = .int .i64 (x:Int):=s9
     clear s1 s2 s7 s9
     clear hdf hts
     have hcases:i=0∨i=1∨i=2∨i=3∨i=4∨i=5∨i=6∨i=7∨i=8:=Z0h i hin
     clear hin
     rcases hcases with rfl | rfl | rfl | rfl | rfl | rfl | rfl | rfl | rfl
     ·obtain rfl:=Option.some.inj hi
      clear hdn hl3
      rw[gs7]
      clear gs1 gs2 gs7 gs9
      refine Zac rfl ?_
      go_wp2_with fail
      exact Zaa ⟨_,rfl,Below.refl _ _,rfl⟩
     ·obtain rfl:=Option.some.inj hi
      clear hdn hl3
      rw[gs2]
      clear gs1 gs2 gs7 gs9
      have x0:=(X1.o.step (hw.o.trans (hb.o.mono hw.o.size))).cell 0 _ rfl
      refine Zac rfl ?_
      go_wp2_with fail
      exact Zaa ⟨_,rfl,Below.refl _ _,rfl⟩
     ·obtain rfl:=Option.some.inj hi
      clear hdn hl3
      rw[gs1]
      clear gs1 gs2 gs7 gs9
      refine Zac rfl ?_
      go_wp2_with fail
      exact Zaa ⟨_,rfl,Below.refl _ _,rfl⟩
     ·obtain rfl:=Option.some.inj hi
      have dv2:f' 47 = .slice (some ⟨g,off,none⟩) vn vc:=hdn 2 _ 47 rfl (hl3 2 (by rfl)) rfl
      clear hdn hl3
      rw[dv2]
      clear dv2 gs1 gs2 gs7 gs9
      refine Zac rfl ?_
      go_wp2_with fail
      refine (Zqq w' g off vn vc hvc hvm).mono ?_
      rintro e w4 ⟨rfl,e4⟩
      subst e4
      go_wp2_with fail
      exact Zaa ⟨_,rfl,Below.refl _ _,rfl⟩
     ·obtain rfl:=Option.some.inj hi
      clear hdn hl3
      rw[gs9]
      clear gs1 gs2 gs7 gs9
      refine Zac rfl ?_
      go_wp2_with fail
      exact Zaa ⟨_,rfl,Below.refl _ _,rfl⟩
     ·obtain rfl:=Option.some.inj hi
      have dv4:f' 49 = .int .i64 (x:Int):=hdn 4 _ 49 rfl (hl3 4 (by rfl)) rfl
      clear hdn hl3
      rw[dv4]
      clear dv4 gs1 gs2 gs7 gs9
      refine Zac rfl ?_
      go_wp2_with fail
      exact Zaa ⟨_,rfl,(Below.refl w'.heap.size w').alloc (Nat.le_refl _) _,w'.heap.size,rfl,heap_alloc_new _ _⟩
     ·obtain rfl:=Option.some.inj hi
      have dv3:f' 48 = .slice (some ⟨g,off,none⟩) vn vn:=hdn 3 _ 48 rfl (hl3 3 (by rfl)) rfl
      have dv5:cnF D g off vn vc x cc acc vf 5 w' (f' 50):=hdn 5 _ 50 rfl (hl3 5 (by rfl)) rfl
      obtain⟨A2,dv5,hA2⟩:=dv5
      clear hdn hl3
      rw[dv3,dv5]
      clear dv3 dv5 gs1 gs2 gs7 gs9
      have HA2:=ħ hA2
      clear hA2
      refine Zac rfl ?_
      refine Zuq 60 3 (.int .i64 0) 1 8 Tryz.underlying60 Zes rfl (by omega) (by omega) w' rfl (.tmp 48) (.tmp 50) rfl g off vn vf rfl HVF.o (HVR.o w' (hw.o.trans (hb.o.mono hw.o.size))) A2 1 1 [.int .i64 (x:Int)] 3 rfl HA2.o rfl (by omega) (by simp[Value.oneCell']) (by omega) ?_
      intro g8 cap8 w8 o8 b8
      obtain⟨r1,r2,r3,r4⟩:=o8.reads
      exact wpList_nil (Zaa ⟨_,rfl,b8,g8,cap8,rfl,o8.len_le.1,o8.len_le.2,r2,r1⟩)
     ·obtain rfl:=Option.some.inj hi
      have dv1:f' 46 = .pointer (some ⟨D,0,none⟩):=hdn 1 _ 46 rfl (hl3 1 (by rfl)) rfl
      have dv6:cnF D g off vn vc x cc acc vf 6 w' (f' 51):=hdn 6 _ 51 rfl (hl3 6 (by rfl)) rfl
      obtain⟨g8,cap8,dv6,hc1,hc2,hg8,hr8⟩:=dv6
      clear hdn hl3
      rw[dv1,dv6]
      clear dv1 dv6 gs1 gs2 gs7 gs9
      have HR8:=ħ hr8
      have HG8:=ħ hg8
      clear hr8 hg8
      have HCQ:=ħ (HIH.o w' (hw.o.trans (hb.o.mono hw.o.size)) g8 cap8 HG8.o hc1 hc2 HR8.o)
      refine Zac rfl ?_
      go_wp2_with fail
      refine HCQ.o.mono ?_
      rintro e w4 ⟨rfl,b4⟩
      have HB4:=ħ b4
      clear b4 HCQ
      go_wp2_with fail
      exact Zaa ⟨_,rfl,HB4.o,rfl⟩
     ·obtain rfl:=Option.some.inj hi
      have dv0:f' 45 = .int .i64 acc:=hdn 0 _ 45 rfl (hl3 0 (by rfl)) rfl
      have dv7:f' 52 = .int .i64 (cc:Int):=hdn 7 _ 52 rfl (hl3 7 (by rfl)) rfl
      clear hdn hl3
      rw[dv0,dv7]
      clear dv0 dv7 gs1 gs2 gs7 gs9
      have e5:IntKind.i64.wrap (acc+(cc:Int))=acc+(cc:Int):=IntWalk.i64_in _ (by omega)
      refine Zac rfl ?_
      go_wp2_with fail
      exact Zaa ⟨_,rfl,Below.refl _ _,rfl⟩
    case he =>
     intro listed a' w4 H hsn hall
     have hd8:cnF D g off vn vc x cc acc vf 8 w4 (a'.tmps.getD 53 undef):=H.done 8 _ 53 rfl (hall 8 (by decide)) rfl
     have hb4:=ħ H.below
     have hact:=H.actN hsn [45,46,47,48,49,50,51,52,53] (Zk7 (by kernel_rfl))
     clear H hall hsn
     simp only[List.foldl_cons,List.foldl_nil] at hact
     generalize a'.tmps.getD 45 undef=z45 at *
     generalize a'.tmps.getD 46 undef=z46 at *
     generalize a'.tmps.getD 47 undef=z47 at *
     generalize a'.tmps.getD 48 undef=z48 at *
     generalize a'.tmps.getD 49 undef=z49 at *
     generalize a'.tmps.getD 50 undef=z50 at *
     generalize a'.tmps.getD 51 undef=z51 at *
     generalize a'.tmps.getD 52 undef=z52 at *
     generalize a'.tmps.getD 53 undef=z53 at *
     subst hact
     have e8:z53 = .int .i64 (acc+(cc:Int)):=hd8
     subst e8
     clear hd8
     simp only[Act.put,List.setIfInBounds_toArray,List.set_cons_succ,List.set_cons_zero]
     have HW4:=ħ (hw.o.trans (hb4.o.mono hw.o.size))
     refine Zbp (Zac rfl ?_)
     go_wp2_with fail
     refine Zaa (Zd0 ?_)
     go_wp2_with fail
     go_roundw
     case rel=>exact⟨x+1,by go_num,by rw[HSN.o],by omega,HW4⟩
     case measure=>simp only[intOf];omega
   ·have ii:¬ ((x:Int)<(M:Int)+1):=by omega
    obtain rfl:x=M+1:=by omega
    have B9:=ħ (B1.o.trans (hw.o.mono B1.o.size))
    go_wp2
    go_ret
    exact⟨rfl,B9.o⟩
end
section
open Go.RowKit Go.Sort
def cntP' (ns:List (List Nat)) (most:Int) (p:Prd):Nat:=Zit (fun u=>Zas (fK ns (gv u)) p) most.toNat ns.length [0]
def Z2x (w:World) (c:Int) (k:Nat) (e:Ending) (w':World):Prop:=e = .returned (.tuple #[.int .i64 (if c=0 then (k:Int) else 0),.int .i64 c])∧Below w.heap.size w w'
theorem Z4p {M n:Nat} (hM:M≤255) (hn:n≤3):(M+1)^n≤1099511627776 :=
 Nat.le_trans (Nat.pow_le_pow_left (show M+1≤256 by omega) n) (Nat.le_trans (Nat.pow_le_pow_right (by decide) hn) (by decide))
theorem Z2x.bad {w w':World} {c:Int} {k:Nat} (h:c≠0) (hb:Below w.heap.size w w'):Z2x w c k (.returned (.tuple #[.int .i64 0,.int .i64 c])) w':=⟨by rw[if_neg h],hb⟩
theorem Z2x.good {w w':World} {c:Int} {k:Nat} (h:c=0) (hb:Below w.heap.size w w'):Z2x w c k (.returned (.tuple #[.int .i64 (k:Int),.int .i64 0])) w':=⟨by rw[h,if_pos rfl],hb⟩
theorem Z7o (w:World) (P:Nat→Prop) (p:Prd) (vs:List Value) (ao:Option Addr) (n cp:Nat) (most:Int) (ns:List (List Nat)) (B:Nat) (hT:Tab w B) (hp:Zai w P p vs) (hpb:Zhu p) (hpc:Za5 p≤1000000)
  (hn:n=ns.length) (h:Zcm w ao ns) (hb:∀ s∈ns,NmB s) (hasc:Zkd ns) (hn1:1≤n) (hn3:n≤3) (hm:most≤255) :
  Calls Tryz.prog 62 #[.agg vs.toArray,.slice ao n cp,.int .i64 most] w fun e w'=>Z2x w (Zb5 ns most [p]) (cntP' ns most p) e w':=by
 have PC:=ħ hp.wide
 obtain⟨xa,xn,xc,rfl,-⟩:=hp.form
 have HT:=ħ (fun W (hW:Below w.heap.size w W)=>Tab.keep hT (fun k hk=>hW.block k (Nat.lt_of_lt_of_le hk hT.size)) hW.size)
 have HOP:=ħ (fun W (hW:Below w.heap.size w W) po (hps:Zcr W (fun _=>True) [p] po)=>Zkp W (fun _=>True) [p] po 1 1 ao n cp most ns B (HT.o W hW) hps rfl (fun q hq=>by rw[List.mem_singleton.1 hq];exact hpb) (fun q hq=>by rw[List.mem_singleton.1 hq];exact hpc) (by omega) hn (h.below hW) hb hasc (by omega))
 have HFI:=ħ (fun (hz:Zb5 ns most [p]=0) W D po ro rc g (hd:DecR W (fun _=>True) D ns ao n cp most [p] po 1 1 (Zal [p]) ro rc) (hr:Zah W g 3 [.int .i64 0])=>by
  obtain⟨h1,h2,h3,h4,h5⟩:=Zee hz
  have hmm:((most.toNat:Nat):Int)=most:=Int.toNat_of_nonneg h4.1
  have hq:=Zqw (fun _=>True) D ns ao n cp most.toNat [p] p po 1 1 ro rc rfl rfl (h3 p (List.mem_singleton.2 rfl)) hpc h2 h1 (by omega) (Z4p (by omega) hn3) (n-1) W g 0 1 [0] (by rw[hmm];exact hd) (by show 1+(n-1)=n;omega) (by simp) (by rw[← Zgn];exact hr.readsR) hr.lt (Nat.le_refl 1) (by decide) (fun i=>by
   cases i with
   | zero=>exact⟨by decide,by decide⟩
   | succ i=>exact⟨by simp[gv],by simp[gv]⟩)
  rw[show n-1+1=ns.length by omega] at hq
  exact hq)
 have HSP:=ħ (fun W (hW:Below w.heap.size w W)=>(⟨hn,h.below hW,hb,hasc,by omega⟩:SpcR W ns ao n))
 have HK:Hid (cntP' ns most p=Zit (fun u=>Zas (fK ns (gv u)) p) most.toNat ns.length [0]):=ħ rfl
 rw[← HK.o] at HFI
 generalize cntP' ns most p=KK at *
 obtain⟨EC,hEC⟩:∃ c,Zb5 ns most [p]=c:=⟨_,rfl⟩
 rw[hEC] at HOP HFI ⊢
 obtain⟨CS,hCS⟩:∃ c,Zal [p]=c:=⟨_,rfl⟩
 rw[hCS] at HOP HFI
 have n3:¬ (3:Int)<(n:Int):=by omega
 have m255:¬ (255:Int)<most:=by omega
 clear hT hp hpb hpc hn h hb hasc hEC hCS HK
 have bx:=(Below.refl w.heap.size w).alloc (Nat.le_refl _) (.cells #[.int .i64 p.k,.string (Zad p.l),.string (Zad p.r),.int .i64 p.c,.slice xa xn xc] 25)
 have B1:=ħ bx
 have X1:Hid (Zah (w.alloc (.cells #[.int .i64 p.k,.string (Zad p.l),.string (Zad p.r),.int .i64 p.c,.slice xa xn xc] 25)) w.heap.size 25 [.int .i64 p.k,.string (Zad p.l),.string (Zad p.r),.int .i64 p.c,.slice xa xn xc]):=ħ (heap_alloc_new w _)
 clear bx
 generalize p.k=q0 at *
 generalize Zad p.l=q1 at *
 generalize Zad p.r=q2 at *
 generalize p.c=q3 at *
 go_enter Tryz.func62,Tryz.ntmps62
 go_upto_region 1 with (fail)
 generalize w.alloc (.cells #[.int .i64 q0,.string q1,.string q2,.int .i64 q3,.slice xa xn xc] 25)=w1 at *
 have by1:=(Below.refl w1.heap.size w1).alloc (Nat.le_refl _) (.cells #[.int .i64 q0,.string q1,.string q2,.int .i64 q3,.slice xa xn xc] 25)
 have Y2:Hid (Zah (w1.alloc (.cells #[.int .i64 q0,.string q1,.string q2,.int .i64 q3,.slice xa xn xc] 25)) w1.heap.size 25 [.int .i64 q0,.string q1,.string q2,.int .i64 q3,.slice xa xn xc]):=ħ (heap_alloc_new w1 _)
 have B2:=ħ (B1.o.trans (by1.mono B1.o.size))
 clear by1
 go_wp2_with (refine wpList_load_row rfl 25 (.tmp 3) rfl w.heap.size ?x1 25 #[.int .i64 q0,.string q1,.string q2,.int .i64 q3,.slice xa xn xc] (0,0) _ X1.o Tryz.underlying25 rfl (Zae _ rfl) ?_;(case x1=>rfl))
 have HPR:=ħ (Zkq (PC.o.below B2.o) Y2.o)
 have HOQ:=ħ (HOP.o _ B2.o _ HPR.o)
 generalize w1.alloc (.cells #[.int .i64 q0,.string q1,.string q2,.int .i64 q3,.slice xa xn xc] 25)=w2 at *
 refine HOQ.o.mono ?_
 intro e w3 hq
 rcases hq.open with ⟨hc,rfl,b3⟩ | ⟨hc,D,ro,rc,rfl,hD,hpv,hok,b3⟩
 ·have HC:=ħ hc
  have HC2:¬ (EC=0):=hc
  have B3:=ħ (B2.o.trans (b3.mono B2.o.size))
  clear hq hc b3 HOQ
  go_wp2
  go_ret2
  exact Z2x.bad HC.o B3.o
 ·have B3:=ħ (B2.o.trans (b3.mono B2.o.size))
  have HDR:Hid (DecR w3 (fun _=>True) D ns ao n cp most [p] (some ⟨w1.heap.size,0,none⟩) 1 1 CS ro rc):=ħ ⟨hpv,HSP.o w3 B3.o,HPR.o.below b3,hok.flatR Zon rfl⟩
  have b4:=(Below.refl w3.heap.size w3).alloc (Nat.le_refl _) (.cells #[.int .i64 0] 3)
  have HFQ:=ħ (HFI.o hc (w3.alloc (.cells #[.int .i64 0] 3)) D _ ro rc w3.heap.size (HDR.o.step b4) (heap_alloc_new _ _))
  have B4:=ħ (B3.o.trans (b4.mono B3.o.size))
  have HC:=ħ hc
  clear hq hc b3 b4 hD hpv hok HOQ HDR HFI HOP
  by_cases h3:n=3
  ·have nb:((n:Int)==3)=true:=by rw[h3];rfl
   clear h3
   go_wp2_with fail
   refine HFQ.o.mono ?_
   rintro e w5 ⟨rfl,b5⟩
   have B5:=ħ (B4.o.trans (b5.mono B4.o.size))
   clear b5 HFQ
   go_wp2
   go_ret2
   exact Z2x.good HC.o B5.o
  ·have nb:((n:Int)==3)=false:=by rw[beq_eq_false_iff_ne];omega
   clear h3
   go_wp2_with fail
   refine HFQ.o.mono ?_
   rintro e w5 ⟨rfl,b5⟩
   have B5:=ħ (B4.o.trans (b5.mono B4.o.size))
   clear b5 HFQ
   go_wp2
   go_ret2
   exact Z2x.good HC.o B5.o
end
section
open Go.RowKit Go.Sort Go.Maps
theorem Zhe {fn:Func} {t u v x:Tmp} (h:fn.results=#[.tmp t,.tmp u,.tmp v,.tmp x]) (tmps:Array Value) (P:Program) (w:World) :
  (results fn tmps).run P w = .ok (.tuple #[tmps.getD t undef,tmps.getD u undef,tmps.getD v undef,tmps.getD x undef]) w:=by
 simp[results,h]
theorem Zlx {P:Program} (w:World) (t ty e:TypeId) (i:TypeInfo) (ht:P.underlying t=some (.slice e)) (hi:P.info? e=some i) (b:Addr) (n cap:Nat) (ao:Option Addr) (c:Nat) (hn:n≤cap) :
  (Builtin.append_ #[t,t] ty #[.slice (some b) n cap,.slice ao 0 c]).run P w = .ok (.slice (some b) n cap) w:=by
 cases ao with
 | none=>simp[Builtin.append_,run_underlying ht,sizeOf,typeInfo,hi,Builtin.lenOf,hn,Builtin.firstCells,storeCells]
 | some a=>simp[Builtin.append_,run_underlying ht,sizeOf,typeInfo,hi,Builtin.lenOf,hn,Builtin.firstCells,storeCells,loadCells,loadCellsFrom]
theorem Z0i {ops:Array Oper} {rest:List Oper} {o:Oper} {a:Act} {Q:Exit→Act→World→Prop} (w:World) (hg:o.guard=none) (s x:Operand) (hop:o.op=Op.call { callee:=Callee.builtin Builtin.append,args:=#[s,x],argTypes:=#[23,23] })
  (p:Prd) (vs:List Value) (P:Nat→Prop) (ls:List Prd) (A ln lc:Nat) (lo:Option Addr) (hs:a.eval s = .slice (some ⟨A,0,none⟩) 1 1) (hx:a.eval x = .slice lo ln lc) (hp:Zai w (fun _=>True) p vs) (hA:Zah w A 25 vs) (hls:Zcr w P ls lo) (hln:ln=ls.length) (hl:ln≤100)
  (hK:∀ g off cap w',Zcr w' (fun _=>True) (p::ls) (some ⟨g,off,none⟩)→Below w.heap.size w w'→wpList Tryz.prog ops Q rest (a.put o.dst (.slice (some ⟨g,off,none⟩) (1+ln) cap)) w') :
  wpList Tryz.prog ops Q (o::rest) a w:=by
 obtain⟨i0,hi,hz0,hz1,hz2⟩:=Zhg Zdn
 rcases Nat.eq_zero_or_pos ln with h0 | h0
 ·have hl0:ls=[]:=List.eq_nil_of_length_eq_zero (by omega)
  subst h0
  subst hl0
  have hrun:=Zlx (P:=Tryz.prog) w 23 o.type 25 i0 Tryz.underlying23 hi ⟨A,0,none⟩ 1 1 lo lc (Nat.le_refl _)
  refine wpList_plain hg fun K hK'=>?_
  unfold Oper.wp
  simp[execOp,hop,resolve,invoke,builtin,hs,hx,hrun,Result.andThen]
  exact hK' _ _ (hK A 0 1 w (Zkq hp hA) (Below.refl _ _))
 ·rcases hls with hls | ⟨g,off,rfl,hPg,hgl,hkc⟩
  ·rw[hls] at hln;simp at hln;omega
  obtain⟨vss,hv1,hv2,hv3,hv4,hv5⟩:=Za4.cells ls g off hkc
  refine wpList_append_grows w hg s x 23 hop 25 i0 Zmq 5 72 Tryz.underlying23 hi hz0 hz1 hz2 rfl (by omega) (some ⟨A,0,none⟩) 1 1 vs hs (fun h=>by cases h) (by rw[hp.len5]) (fun b hb j u hj=>by cases hb;exact hA.addr j u hj) ⟨g,off,none⟩ ln lc vss.flatten hx (by rw[hln];exact hv4) (fun j u hj=>by rw[Addr.add_lit];exact hv3 j u hj) hv5 (by omega)
   (by simp only[maxLen];omega) (by omega) ?_
  intro v' w' ho hgr
  obtain⟨g',cap',rfl,hw,hl',hcm,hle⟩:=OwnK.of_row ho (by omega)
  have hb:Below w.heap.size w w':=⟨hgr.os,hgr.tape,hgr.output,hgr.size,fun k hk=>hgr.block k hk (by simp)⟩
  refine hK g' 0 cap' w' (.inr ⟨g',0,rfl,trivial,hw.lt,Za4.of (p::ls) (vs::vss) g' 0 (by simp[hv1]) (fun i q us hq hu=>?_) (by rw[List.flatten_cons];exact hw.cells)⟩) hb
  cases i with
  | zero=>simp at hq hu;subst hq;subst hu;exact hp.below hb
  | succ i=>exact ((hv2 i q us (by simpa using hq) (by simpa using hu)).below hb).wide
theorem Z4q (w:World) (base lo:Nat) (bad:Nat→Prop) (ao:Option Addr) (n cap:Nat) (l:List Cel) (vss:List (List Value)) (hrm:RowM Zjt 2 base w lo bad ao n cap l vss) (hbig:n≤1000000)
  (fg:Nat) (cb:Array Value) (f:Cel→Bool) (eg:∀ args w,(callFunc fg args).run Tryz.prog w = .ok (.enter fg args) w) (hf:∀ W c x1 bo bc,c∈l→Below w.heap.size w W→x1.oneCell'=true→Za8 Zhd W bo c.2→c.2.length≤bc→Calls Tryz.prog fg (#[.agg #[x1,.slice bo c.2.length bc]]++cb) W fun e w'=>e = .returned (.bool (f c))∧Below W.heap.size W w') :
  Calls Tryz.prog 124 #[.slice ao n cap,.func (.func fg) #[] cb] w fun e w'=>e = .returned (.int .i64 (Zqo f l))∧Below w.heap.size w w':=by
 have HL:=ħ hrm
 have HN:=ħ hrm.cnt
 have HCA:=ħ hf
 have HI:Hid (Zqo f l=match l.findIdx? f with | some i=>(i:Int) | none=>-1):=ħ rfl
 obtain⟨V,hV⟩:∃ V,Zqo f l=V:=⟨_,rfl⟩
 rw[hV] at HI ⊢
 have B0:=ħ (Below.refl w.heap.size w)
 clear hrm hf hV
 go_enter Tryz.func124,Tryz.ntmps124
 go_wp2_with fail
 go_loopw [8] (fun cc wr=>∃ (i:Nat),cc = .int .i64 i∧i≤n∧Hid (Below w.heap.size w wr)∧Hid (∀ j k,j<i→l[j]?=some k→f k=false)) (fun c _=>(n-intOf c).toNat)
 case atStart=>exact⟨0,rfl,by omega,B0,ħ (fun j k hj=>absurd hj (Nat.not_lt_zero j))⟩
 case round =>
  clear B0
  obtain⟨i,rfl,hi,hw,hno⟩:=hrel
  have e2:IntKind.i64.wrap ((i:Int)+1)=((i+1:Nat):Int):=IntWalk.i64_in _ (by omega)
  by_cases hlt:i<n
  ·have ii:(i:Int)<n:=by omega
   obtain⟨x,hx⟩:∃ x,l[i]?=some x:=⟨_,List.getElem?_eq_getElem (by rw[← HN.o];exact hlt)⟩
   have HX:=ħ hx
   obtain⟨gc,off,vs,hao,hgl,hlo,hvs,hvl,hrd,hel⟩:=(HL.o.step Zjt.keeps hw.o).at i x hx
   obtain⟨vo,vc,bo,bc,rfl,hv1,hv2,hbc⟩:=hel.open
   have s0:=hrd 0 _ rfl
   have s1:=hrd 1 _ rfl
   rw[Nat.add_zero] at s0
   have HV2:=ħ hv2
   have HBC:=ħ hbc
   have HCX:=ħ (HCA.o wr x (.slice vo x.1.length vc) bo bc (List.mem_of_getElem? HX.o) hw.o rfl HV2.o HBC.o)
   clear hx hrd hel hvs hvl hlo hgl hv1 hv2 hbc HV2 HBC
   subst hao
   generalize x.1.length=xl at *
   generalize x.2.length=yl at *
   go_wp2_with fail
   refine HCX.o.mono ?_
   rintro e w3 ⟨rfl,b3⟩
   have hw3:=ħ (hw.o.trans (b3.mono hw.o.size))
   clear b3 s0 s1 hw HCX
   obtain⟨fv,hfv⟩:∃ v,f x=v:=⟨_,rfl⟩
   rw[hfv]
   have HFV:=ħ hfv
   clear hfv
   cases fv with
   | true =>
    have HY:Hid (V=(i:Int)):=ħ (by rw[HI.o,Zuo HX.o HFV.o hno.o])
    go_wp2
    go_ret
    exact⟨Za0 HY.o.symm,hw3.o⟩
   | false =>
    go_wp2
    go_roundw
    case rel=>exact⟨i+1,by go_num,by omega,hw3,ħ (fun j k' hj hk'=>by
     rcases Nat.lt_or_ge j i with h | h
     ·exact hno.o j k' h hk'
     ·obtain rfl:j=i:=by omega
      rw[HX.o] at hk'
      obtain rfl:=Option.some.inj hk'
      exact HFV.o)⟩
    case measure=>simp only[intOf];omega
  ·have ii:¬ ((i:Int)<n):=by omega
   have HY:Hid (V = -1):=ħ (by rw[HI.o,Zqp (fun j k hj hk=>hno.o j k (by rw[← HN.o] at hj;omega) hk)])
   go_wp2
   go_ret
   exact⟨Za0 HY.o.symm,hw.o⟩
def Z9n (CL:List Cel):Option (List Int×List Int):=CL.findSome? (fun x=>(CL.find? (fun y=>Z0c x.2 y.2)).map (fun y=>(x.1,y.1)))
def Zxg (w:World) (ns:List (List Nat)) (c:Int) (r:Option (List Int×List Int)) (e:Ending) (w':World):Prop :=
 (if c=0 then (match r with
  | none=>e = .returned (.tuple #[.slice none 0 0,.slice none 0 0,.bool false,.int .i64 0])
  | some uv=>∃ x y,e = .returned (.tuple #[x,y,.bool true,.int .i64 0])∧Zh0 w w' ns (some uv.1) x∧Zh0 w w' ns (some uv.2) y)
  else e = .returned (.tuple #[.slice none 0 0,.slice none 0 0,.bool false,.int .i64 c]))∧Below w.heap.size w w'
theorem Zxg.bad {w w':World} {ns:List (List Nat)} {c:Int} {r:Option (List Int×List Int)} (h:c≠0) (hb:Below w.heap.size w w'):Zxg w ns c r (.returned (.tuple #[.slice none 0 0,.slice none 0 0,.bool false,.int .i64 c])) w':=by
 refine⟨?_,hb⟩
 rw[if_neg h]
theorem Zxg.no {w w':World} {ns:List (List Nat)} {c:Int} {r:Option (List Int×List Int)} (h:c=0) (hr:r=none) (hb:Below w.heap.size w w'):Zxg w ns c r (.returned (.tuple #[.slice none 0 0,.slice none 0 0,.bool false,.int .i64 0])) w':=by
 refine⟨?_,hb⟩
 rw[if_pos h,hr]
theorem Zxg.yes {w w':World} {ns:List (List Nat)} {c:Int} {r:Option (List Int×List Int)} {u v:List Int} {x y:Value} (h:c=0) (hr:r=some (u,v)) (hx:Zh0 w w' ns (some u) x) (hy:Zh0 w w' ns (some v) y) (hb:Below w.heap.size w w'):Zxg w ns c r (.returned (.tuple #[x,y,.bool true,.int .i64 0])) w':=by
 refine⟨?_,hb⟩
 rw[if_pos h,hr]
 exact⟨x,y,rfl,hx,hy⟩
theorem Z4r {α:Type} {f:α→Bool} {l:List α} {i:Nat} (h:l.findIdx? f=some i):∃ y,l[i]?=some y∧l.find? f=some y:=by
 rw[List.findIdx?_eq_some_iff_getElem] at h
 obtain⟨h1,h2,h3⟩:=h
 refine⟨l[i],List.getElem?_eq_getElem h1,?_⟩
 rw[List.find?_eq_some_iff_getElem]
 exact⟨h2,i,h1,rfl,fun j hj=>by simpa using h3 j hj⟩
theorem Z0j {α:Type} {f:α→Bool} {l:List α} (h:l.findIdx? f=none):l.find? f=none:=by
 rw[List.findIdx?_eq_none_iff] at h
 rw[List.find?_eq_none]
 intro x hx
 simp[h x hx]
theorem Z9o (t:Array Value) (h:t.size=65):∃ f:Nat→Value,t=#[f 0,f 1,f 2,f 3,f 4,f 5,f 6,f 7,f 8,f 9,f 10,f 11,f 12,f 13,f 14,f 15,f 16,f 17,f 18,f 19,f 20,f 21,f 22,f 23,f 24,f 25,f 26,f 27,f 28,f 29,f 30,f 31,f 32,f 33,f 34,f 35,f 36,f 37,f 38,f 39,f 40,f 41,f 42,f 43,f 44,f 45,f 46,f 47,f 48,f 49,f 50,f 51,f 52,f 53,f 54,f 55,f 56,f 57,f 58,f 59,f 60,f 61,f 62,f 63,f 64]:=by
 obtain⟨l⟩:=t
 have hl:l.length=65:=h
 have e:l=(List.range 65).map (fun i=>l.getD i undef):=by
  apply List.ext_getElem
  ·simp[hl]
  ·intro i h1 h2
   simp[List.getD,h1]
 exact⟨fun i=>l.getD i undef,congrArg List.toArray e⟩
def dsF (D X gc off N cc k B:Nat) (ns:List (List Nat)) (ao:Option Addr) (n cp:Nat) (most:Int) (vo uo:Option Addr) (vc uc:Nat) (cx cy:List Int) (i:Nat) (W:World) (v:Value):Prop:=match i with
 | 0=>v = .pointer (some ⟨D,0,none⟩)
 | 1=>v = .pointer (some ⟨D,0,none⟩)
 | 2=>v = .pointer (some ⟨D,0,none⟩)
 | 3=>v = .agg #[.slice ao n cp,.int .i64 most]
 | 4=>v = .pointer (some ⟨X,0,none⟩)
 | 5=>v = .slice vo (n+1) vc
 | 6=>∃ ro rc,v = .slice ro n rc∧OwnK W B 2 n rc ((Zfd ns cx).flatMap Zfb) ro
 | 7=>v = .pointer (some ⟨D,0,none⟩)
 | 8=>v = .pointer (some ⟨D,0,none⟩)
 | 9=>v = .pointer (some ⟨D,0,none⟩)
 | 10=>v = .agg #[.slice ao n cp,.int .i64 most]
 | 11=>v = .slice (some ⟨gc,off,none⟩) N cc
 | 12=>v = .int .i64 (k:Int)
 | 13=>v = .pointer (some ⟨gc,off+k*2,none⟩)
 | 14=>v = .pointer (some ⟨gc,off+k*2,none⟩)
 | 15=>v = .slice uo (n+1) uc
 | 16=>∃ ro rc,v = .slice ro n rc∧OwnK W B 2 n rc ((Zfd ns cy).flatMap Zfb) ro
 | _=>True
theorem Z4s (D X gc off N cc k B:Nat) (ns:List (List Nat)) (ao:Option Addr) (n cp:Nat) (most:Int) (vo uo:Option Addr) (vc uc:Nat) (cx cy:List Int):∀ i w w' v,dsF D X gc off N cc k B ns ao n cp most vo uo vc uc cx cy i w v→Below w.heap.size w w'→dsF D X gc off N cc k B ns ao n cp most vo uo vc uc cx cy i w' v:=by
 intro i w w' v h hb
 match i with
 | 0=>exact h
 | 1=>exact h
 | 2=>exact h
 | 3=>exact h
 | 4=>exact h
 | 5=>exact h
 | 6=>obtain⟨ro,rc,h1,h2⟩:=h;exact⟨ro,rc,h1,h2.below hb⟩
 | 7=>exact h
 | 8=>exact h
 | 9=>exact h
 | 10=>exact h
 | 11=>exact h
 | 12=>exact h
 | 13=>exact h
 | 14=>exact h
 | 15=>exact h
 | 16=>obtain⟨ro,rc,h1,h2⟩:=h;exact⟨ro,rc,h1,h2.below hb⟩
 | k+17=>trivial
theorem Z4t (w:World) (P:Nat→Prop) (p:Prd) (vs:List Value) (ls:List Prd) (lo:Option Addr) (ln lc:Nat) (most:Int) (B:Nat) (hT:Tab w B) (hp:Zai w P p vs) (hls:Zcr w P ls lo) (hln:ln=ls.length) (hl100:ln≤4) (hv:∀ x∈p::ls,Zap x=true) (hpb:∀ x∈p::ls,Zhu x) (hpc:∀ x∈p::ls,Za5 x≤1000000) :
  Calls Tryz.prog 56 #[.agg vs.toArray,.slice lo ln lc,.int .i64 most] w fun e w'=>Zxg w (Zd4 (p::ls)) (Zb5 (Zd4 (p::ls)) most (p::ls)) (Z9n (Zbn (Zd4 (p::ls)) most (Zal (p::ls)) (p::ls))) e w':=by
 have PCp:=ħ hp.wide
 obtain⟨xa,xn,xc,rfl,-⟩:=hp.form
 obtain⟨pn,hpn⟩:∃ pn,(p::ls).length=pn:=⟨_,rfl⟩
 have HPN:Hid (pn=ln+1):=ħ (by rw[← hpn,hln];rfl)
 have hpl:pn≤5:=by rw[HPN.o];omega
 have hp1:1≤pn:=by rw[HPN.o];omega
 have HT:=ħ (fun W (hW:Below w.heap.size w W)=>Tab.keep hT (fun k hk=>hW.block k (Nat.lt_of_lt_of_le hk hT.size)) hW.size)
 have HNA:=ħ (fun W po pc (hW:Below w.heap.size w W) (hr:Zcr W (fun _=>True) (p::ls) po)=>Zqv W (fun _=>True) (p::ls) po pn pc B (HT.o W hW) hr hpn.symm (by omega) (by omega) hv hpb hpc)
 have hasc:=Zut (p::ls)
 have hnb:=Zqu hv
 have hnl:(Zd4 (p::ls)).length≤1000:=Nat.le_trans (Zuv hv) (by rw[hpn];omega)
 have HOP:=ħ (fun W no nc po pc (hW:Below w.heap.size w W) (hn:Zcm W no (Zd4 (p::ls))) (hr:Zcr W (fun _=>True) (p::ls) po)=>Zkp W (fun _=>True) (p::ls) po pn pc no (Zd4 (p::ls)).length nc most (Zd4 (p::ls)) B (HT.o W hW) hr hpn.symm hpb hpc (by omega) rfl hn hnb hasc hnl)
 have HSP:=ħ (fun W no (hn:Zcm W no (Zd4 (p::ls))) (hz:Zb5 (Zd4 (p::ls)) most (p::ls)=0)=>(⟨rfl,hn,hnb,hasc,by have:=(Zee hz).2.2.2.2;omega⟩:SpcR W (Zd4 (p::ls)) no (Zd4 (p::ls)).length))
 have HCE:=ħ (fun (hz:Zb5 (Zd4 (p::ls)) most (p::ls)=0) W D no nc po pc ro rc (hd:DecR W (fun _=>True) D (Zd4 (p::ls)) no (Zd4 (p::ls)).length nc most (p::ls) po pn pc (Zal (p::ls)) ro rc)=>by
  obtain⟨h1,h2,h3,h4,h5⟩:=Zee hz
  exact Zqs W (fun _=>True) D (Zd4 (p::ls)) no (Zd4 (p::ls)).length nc most (p::ls) po pn pc (Zal (p::ls)) ro rc hd hpn.symm (by omega) h1 h2 h3 hpc h4)
 have HLN0:=ħ (fun (hz:Zb5 (Zd4 (p::ls)) most (p::ls)=0)=>(show (∀ c∈Zbn (Zd4 (p::ls)) most (Zal (p::ls)) (p::ls),c.1.length=(Zd4 (p::ls)).length+1∧c.2.length=pn)∧(Zbn (Zd4 (p::ls)) most (Zal (p::ls)) (p::ls)).length≤256 from by
  obtain⟨h1,h2,h3,h4,h5⟩:=Zee hz
  refine⟨fun c hc=>by rw[← hpn];exact Znh (fun k hk=>(h2 k hk).2.1) c hc,?_⟩
  unfold Zbn
  rw[List.length_mergeSort]
  exact Nat.le_trans (Zht _ _ _ _ _) (Nat.le_trans (Nat.pow_le_pow_right (by decide) h1) (by decide))))
 have HLS:=ħ (fun W (hW:Below w.heap.size w W)=>hls.below hW)
 obtain⟨NS,hNS⟩:∃ N,Zd4 (p::ls)=N:=⟨_,rfl⟩
 rw[hNS] at HNA HOP HSP HCE HLN0 ⊢
 obtain⟨EC,hEC⟩:∃ c,Zb5 NS most (p::ls)=c:=⟨_,rfl⟩
 rw[hEC] at HOP HSP HCE HLN0 ⊢
 obtain⟨CS,hCS⟩:∃ c,Zal (p::ls)=c:=⟨_,rfl⟩
 rw[hCS] at HOP HCE HLN0 ⊢
 obtain⟨CL,hCL⟩:∃ c,Zbn NS most CS (p::ls)=c:=⟨_,rfl⟩
 rw[hCL] at HCE HLN0 ⊢
 obtain⟨FR,hFR⟩:∃ c,Z9n CL=c:=⟨_,rfl⟩
 have HFR:Hid (CL.findSome? (fun x=>(CL.find? (fun y=>Z0c x.2 y.2)).map (fun y=>(x.1,y.1)))=FR):=ħ hFR
 rw[hFR]
 have HLC:=ħ hln
 have HLL:=ħ hl100
 have l128:¬ (128:Int)<(ln:Int):=by omega
 clear hT hp hls hln hl100 hv hpb hpc hasc hnb hnl hNS hEC hCS hCL hFR hpn
 have bx:=(Below.refl w.heap.size w).alloc (Nat.le_refl _) (.cells #[.int .i64 p.k,.string (Zad p.l),.string (Zad p.r),.int .i64 p.c,.slice xa xn xc] 25)
 have B1:=ħ bx
 have X1:Hid (Zah (w.alloc (.cells #[.int .i64 p.k,.string (Zad p.l),.string (Zad p.r),.int .i64 p.c,.slice xa xn xc] 25)) w.heap.size 25 [.int .i64 p.k,.string (Zad p.l),.string (Zad p.r),.int .i64 p.c,.slice xa xn xc]):=ħ (heap_alloc_new w _)
 clear bx
 generalize p.k=q0 at *
 generalize Zad p.l=q1 at *
 generalize Zad p.r=q2 at *
 generalize p.c=q3 at *
 go_enter Tryz.func56,Tryz.ntmps56
 go_upto_region 3 with (fail)
 generalize w.alloc (.cells #[.int .i64 q0,.string q1,.string q2,.int .i64 q3,.slice xa xn xc] 25)=w1 at *
 have by1:=(Below.refl w1.heap.size w1).alloc (Nat.le_refl _) (.cells #[.int .i64 q0,.string q1,.string q2,.int .i64 q3,.slice xa xn xc] 25)
 have Y2:Hid (Zah (w1.alloc (.cells #[.int .i64 q0,.string q1,.string q2,.int .i64 q3,.slice xa xn xc] 25)) w1.heap.size 25 [.int .i64 q0,.string q1,.string q2,.int .i64 q3,.slice xa xn xc]):=ħ (heap_alloc_new w1 _)
 have B2:=ħ (B1.o.trans (by1.mono B1.o.size))
 clear by1
 go_wp2_with (first | (refine wpList_load_row rfl 25 (.tmp 3) rfl w.heap.size ?x1 25 #[.int .i64 q0,.string q1,.string q2,.int .i64 q3,.slice xa xn xc] (0,0) _ X1.o Tryz.underlying25 rfl (Zae _ rfl) ?_;(case x1=>rfl)) | (at_builtin;refine Z0i _ rfl (.tmp 20) (.tmp 21) rfl p _ P ls w1.heap.size ln lc lo rfl rfl (PCp.o.below B2.o) Y2.o (HLS.o _ B2.o) HLC.o (by have:=HLL.o;omega) ?_;intro g0 off0 cap0 w3 hpr b3;have HPR:=ħ hpr;have B3:=ħ (B2.o.trans (b3.mono B2.o.size));clear hpr b3))
 clear Y2 X1 PCp
 have HNQ:=ħ (HNA.o w3 _ cap0 B3.o HPR.o)
 rw[HPN.o,Nat.add_comm ln 1] at HNQ
 refine HNQ.o.mono ?_
 rintro e w4 ⟨no,nc,rfl,ho4,b4⟩
 have B4:=ħ (B3.o.trans (b4.mono B3.o.size))
 have HNR:=ħ (ho4.strsR rfl)
 have HPR4:=ħ (HPR.o.below b4)
 have HOQ:=ħ (HOP.o w4 no nc _ cap0 B4.o HNR.o HPR4.o)
 rw[HPN.o,Nat.add_comm ln 1] at HOQ
 clear ho4 b4 HNQ HNA HOP HPR
 go_wp2_with fail
 refine HOQ.o.mono ?_
 intro e w5 hq
 rcases hq.open with ⟨hc,rfl,b5⟩ | ⟨hc,D,ro,rc,rfl,hD,hpv,hok,b5⟩
 ·have HC:=ħ hc
  have HC2:¬ (EC=0):=hc
  have B5:=ħ (B4.o.trans (b5.mono B4.o.size))
  clear hq hc b5 HOQ
  go_wp2
  ((try simp only[Exit.inBlock,Exit.then]);refine bodyPost_ret (Zhe rfl _ _ _) rfl ?_)
  exact Zxg.bad HC.o B5.o
 ·have B5:=ħ (B4.o.trans (b5.mono B4.o.size))
  have HDR:Hid (DecR w5 (fun _=>True) D NS no NS.length nc most (p::ls) (some ⟨g0,off0,none⟩) pn cap0 CS ro rc):=ħ ⟨by rw[HPN.o,Nat.add_comm ln 1];exact hpv,HSP.o w5 no (HNR.o.below b5) hc,HPR4.o.below b5,hok.flatR Zon rfl⟩
  have HCQ:=ħ (HCE.o hc w5 D no nc _ cap0 ro rc HDR.o)
  have HLN:=ħ (HLN0.o hc)
  have HC:=ħ hc
  clear hq hc b5 hD hpv hok HOQ HCE HLN0 HSP HPR4 HNR
  go_wp2_with fail
  refine HCQ.o.mono ?_
  rintro e w6 ⟨r1,cc,vss,rfl,hrm,b6⟩
  have B6:=ħ (B5.o.trans (b6.mono B5.o.size))
  have HRM:=ħ hrm
  have HDR6:=ħ (HDR.o.step b6)
  clear hrm b6 HCQ HDR
  obtain⟨N,hN⟩:∃ N,CL.length=N:=⟨_,rfl⟩
  have HN:=ħ hN
  have hN2:N≤256:=by rw[← hN];exact HLN.o.2
  rw[hN] at HRM ⊢
  clear hN
  go_wp2_with fail
  go_loopw [38] (fun iv wr=>∃ i:Nat,iv = .int .i64 i∧i≤N∧Hid ((CL.take i).findSome? (fun x=>(CL.find? (fun y=>Z0c x.2 y.2)).map (fun y=>(x.1,y.1)))=none)∧Hid (Below w6.heap.size w6 wr)) (fun iv _=>(N-intOf iv).toNat)
  case atStart=>exact⟨0,rfl,by omega,ħ rfl,ħ (Below.refl _ _)⟩
  case round =>
   obtain⟨i,rfl,hi,hno,hw⟩:=hrel
   have e3:IntKind.i64.wrap ((i:Int)+1)=((i+1:Nat):Int):=IntWalk.i64_in _ (by omega)
   by_cases hil:i<N
   ·have ii:(i:Int)<N:=by omega
    obtain⟨c,hc⟩:∃ c,CL[i]?=some c:=⟨_,List.getElem?_eq_getElem (by rw[HN.o];exact hil)⟩
    have HCI:=ħ hc
    have HRW:=ħ (HRM.o.step Zjt.keeps hw.o)
    obtain⟨gc,off,vs,hao,hgl,hlo,hvs,hvl,hrd,hel⟩:=HRW.o.at i c hc
    obtain⟨vo,vc,bo,bc,rfl,hv1,hv2,hbc⟩:=hel.open
    have HLC2:=ħ (HLN.o.1 c (List.mem_of_getElem? hc))
    rw[HLC2.o.2] at hbc
    rw[HLC2.o.1,HLC2.o.2] at hrd
    have s0:=hrd 0 _ rfl
    have s1:=hrd 1 _ rfl
    rw[Nat.add_zero] at s0
    have bq:=(Below.refl wr.heap.size wr).alloc (Nat.le_refl _) (.cells #[.slice vo (NS.length+1) vc,.slice bo pn bc] 157)
    have Y1:Hid (Zah (wr.alloc (.cells #[.slice vo (NS.length+1) vc,.slice bo pn bc] 157)) wr.heap.size 157 [.slice vo (NS.length+1) vc,.slice bo pn bc]):=ħ (heap_alloc_new _ _)
    have HV3:=ħ (hv1.below bq)
    have HV4:=ħ (hv2.below bq)
    have HBC:=ħ hbc
    have HR1:=ħ (HRW.o.step Zjt.keeps bq)
    have HW1:=ħ (hw.o.trans (bq.mono hw.o.size))
    clear hv1 hv2 hbc hrd hel hc bq hvs hvl hlo hgl hw HRW
    have HAO:=ħ hao
    subst hao
    go_upto_region 11 with (fail)
    clear s0 s1
    generalize wr.alloc (.cells #[.slice vo (NS.length+1) vc,.slice bo pn bc] 157)=wx at *
    generalize wr.heap.size=X at *
    have eg:∀ args w,(callFunc 125 args).run Tryz.prog w = .ok (.enter 125 args) w:=enters_of Tryz.func125 (by kernel_rfl) rfl
    have HIX:=ħ (Z4q wx _ _ _ (some ⟨gc,off,none⟩) N cc CL vss HR1.o (by omega) 125 #[.pointer (some ⟨X,0,none⟩)] (fun y=>Z0c c.2 y.2) eg (fun W y x1 bo2 bc2 hy hW hx1 hf2 hb2=>by
     have hy2:=(HLN.o.1 y hy).2
     rw[hy2] at hb2 ⊢
     exact Z0d W X (.slice vo (NS.length+1) vc) x1 bo bo2 bc bc2 pn c.2 y.2 (Y1.o.step hW) hx1 (HV4.o.below hW) hf2 HLC2.o.2.symm hy2.symm (by omega) (by omega) HBC.o hb2))
    go_wp2_with fail
    refine HIX.o.mono ?_
    rintro e w7 ⟨rfl,b7⟩
    have HW7:=ħ (HW1.o.trans (b7.mono HW1.o.size))
    have Y7:=ħ (Y1.o.step b7)
    have HV7:=ħ (HV3.o.below b7)
    have HR7:=ħ (HR1.o.step Zjt.keeps b7)
    clear HIX b7 HW1 Y1 HV3 HV4 HR1
    cases hfi:CL.findIdx? (fun y=>Z0c c.2 y.2) with
    | none =>
     have hix:Zqo (fun y:Cel=>Z0c c.2 y.2) CL = -1:=by unfold Zqo;rw[hfi]
     have HNO:Hid ((CL.take (i+1)).findSome? (fun x=>(CL.find? (fun y=>Z0c x.2 y.2)).map (fun y=>(x.1,y.1)))=none):=ħ (by
      rw[List.take_add_one,HCI.o,List.findSome?_append,hno.o]
      simp[Z0j hfi])
     rw[hix]
     clear hfi hix
     go_wp2_with fail
     go_roundw
     case rel=>exact⟨i+1,by go_num,by omega,HNO,HW7⟩
     case measure=>simp only[intOf];omega
    | some k =>
     have hix:Zqo (fun y:Cel=>Z0c c.2 y.2) CL=(k:Int):=by unfold Zqo;rw[hfi]
     obtain⟨y,hyk,hyf⟩:=Z4r hfi
     have HYE:Hid (FR=some (c.1,y.1)):=ħ (by
      rw[← HFR.o]
      have h2:i<CL.length:=by rw[HN.o];exact hil
      have h3:CL[i]=c:=by have:=HCI.o;rw[List.getElem?_eq_getElem h2] at this;exact Option.some.inj this
      have h1:CL=CL.take i++(c::CL.drop (i+1)):=by rw[← h3,← List.drop_eq_getElem_cons h2,List.take_append_drop]
      have h5:∀ F:Cel→Option (List Int×List Int),(CL.take i).findSome? F=none→F c=some (c.1,y.1)→CL.findSome? F=some (c.1,y.1):=fun F hn hF=>by
       rw[h1,List.findSome?_append,hn,List.findSome?_cons,hF];rfl
      exact h5 _ hno.o (by rw[hyf];rfl))
     have hkN:k<N:=by rw[← HN.o];exact (List.getElem?_eq_some_iff.1 hyk).1
     have kk:(0:Int)≤(k:Int):=by omega
     rw[hix]
     have HUC:Hid (∃ uo uc,Za8 Zct w7 uo y.1∧y.1.length=NS.length+1∧∀ W,Below w7.heap.size w7 W→W.cell? ⟨gc,off+k*2,none⟩=some (.slice uo (NS.length+1) uc)):=ħ (by
      obtain⟨gc',off',vs',hao',hgl',-,-,-,hrd',hel'⟩:=HR7.o.at k y hyk
      cases hao'
      obtain⟨uo,uc,bo',bc',rfl,hu1,-,-⟩:=hel'.open
      have hyl:=(HLN.o.1 y (List.mem_of_getElem? hyk)).1
      refine⟨uo,uc,hu1,hyl,fun W hW=>?_⟩
      have:=hrd'.of_block (hW.block gc hgl') 0 _ rfl
      rw[hyl] at this
      exact this)
     obtain⟨uo,uc,huy,huyl,huc⟩:=HUC.o
     have HUD:=ħ huc
     have HVY:=ħ huy
     have HVX:=HV7
     have XC:=Y7
     have D1:=ħ (HDR6.o.step HW7.o)
     have HL2:Hid (c.1.length=NS.length+1∧y.1.length=NS.length+1):=ħ ⟨HLC2.o.1,huyl⟩
     have B7:=ħ (B6.o.trans (HW7.o.mono B6.o.size))
     have HNL:Hid (∀ z,z=c.1∨z=y.1→z.length=NS.length+1):=ħ (fun z hz=>by cases hz with | inl h=>rw[h];exact HL2.o.1 | inr h=>rw[h];exact HL2.o.2)
     clear hfi hix hyk hyf huy huyl huc HV7 Y7 HR7 HRM HDR6 HLC2 HW7 hno
     generalize hcx:c.1=cx at *
     generalize hcy:y.1=cy at *
     clear hcx hcy
     have HLN:=HNL
     go_upto_region 13 with (fail)
     clear kk
     refine Zc6 17 3 (dsF D X gc off N cc k w7.heap.size NS no NS.length nc most vo uo vc uc cx cy) (by kernel_rfl) rfl (Z4s D X gc off N cc k w7.heap.size NS no NS.length nc most vo uo vc uc cx cy) (Zei (by kernel_rfl)) (Zh4 (by kernel_rfl)) (Zc5 (by kernel_rfl)) (Zg4 (by kernel_rfl)) ?hs ?he
     case hs =>
      intro i o hin hi listed a' w' H hsn hl2
      have hl3:=Za7 hl2
      have hb:=ħ H.below
      have s11:=hsn 11 (Zbi (by kernel_rfl))
      have s12:=hsn 12 (Zbi (by kernel_rfl))
      have s14:=hsn 14 (Zbi (by kernel_rfl))
      have s15:=hsn 15 (Zbi (by kernel_rfl))
      have hdn:=H.done
      have hdf:=H.defers
      have hts:=H.tsize
      clear hl2 H hsn
      obtain⟨t',df⟩:=a'
      obtain⟨f',rfl⟩:=Z9o t' hts
      have hdf':df=[]:=hdf
      subst hdf'
      have gs11:f' 11 = .pointer (some ⟨D,0,none⟩):=s11
      have gs12:f' 12 = .slice (some ⟨gc,off,none⟩) N cc:=s12
      have gs14:f' 14 = .pointer (some ⟨X,0,none⟩):=s14
      have gs15:f' 15 = .int .i64 (k:Int):=s15
      clear s11 s12 s14 s15
      clear hdf hts
      have hcases:i=0∨i=1∨i=2∨i=3∨i=4∨i=5∨i=6∨i=7∨i=8∨i=9∨i=10∨i=11∨i=12∨i=13∨i=14∨i=15∨i=16:=Zng i hin
      clear hin
      rcases hcases with rfl | rfl | rfl | rfl | rfl | rfl | rfl | rfl | rfl | rfl | rfl | rfl | rfl | rfl | rfl | rfl | rfl
      ·obtain rfl:=Option.some.inj hi
       clear hdn hl3
       rw[gs11]
       clear gs11 gs12 gs14 gs15
       refine Zac rfl ?_
       go_wp2_with fail
       exact Zaa ⟨_,rfl,Below.refl _ _,rfl⟩
      ·obtain rfl:=Option.some.inj hi
       have dv0:f' 47 = .pointer (some ⟨D,0,none⟩):=hdn 0 _ 47 rfl (hl3 0 (by rfl)) rfl
       clear hdn hl3
       rw[dv0]
       clear dv0 gs11 gs12 gs14 gs15
       refine Zac rfl ?_
       go_wp2_with fail
       exact Zaa ⟨_,rfl,Below.refl _ _,rfl⟩
      ·obtain rfl:=Option.some.inj hi
       have dv1:f' 48 = .pointer (some ⟨D,0,none⟩):=hdn 1 _ 48 rfl (hl3 1 (by rfl)) rfl
       clear hdn hl3
       rw[dv1]
       clear dv1 gs11 gs12 gs14 gs15
       refine Zac rfl ?_
       go_wp2_with fail
       exact Zaa ⟨_,rfl,Below.refl _ _,rfl⟩
      ·obtain rfl:=Option.some.inj hi
       have dv2:f' 49 = .pointer (some ⟨D,0,none⟩):=hdn 2 _ 49 rfl (hl3 2 (by rfl)) rfl
       clear hdn hl3
       rw[dv2]
       clear dv2 gs11 gs12 gs14 gs15
       have d0:=Zah.cell (D1.o.step hb.o).prob 0 _ rfl
       have d1:=Zah.cell (D1.o.step hb.o).prob 1 _ rfl
       refine Zac rfl ?_
       go_wp2_with fail
       exact Zaa ⟨_,rfl,Below.refl _ _,rfl⟩
      ·obtain rfl:=Option.some.inj hi
       clear hdn hl3
       rw[gs14]
       clear gs11 gs12 gs14 gs15
       refine Zac rfl ?_
       go_wp2_with fail
       exact Zaa ⟨_,rfl,Below.refl _ _,rfl⟩
      ·obtain rfl:=Option.some.inj hi
       have dv4:f' 51 = .pointer (some ⟨X,0,none⟩):=hdn 4 _ 51 rfl (hl3 4 (by rfl)) rfl
       clear hdn hl3
       rw[dv4]
       clear dv4 gs11 gs12 gs14 gs15
       have x0:=(XC.o.step hb.o).cell 0 _ rfl
       refine Zac rfl ?_
       go_wp2_with fail
       exact Zaa ⟨_,rfl,Below.refl _ _,rfl⟩
      ·obtain rfl:=Option.some.inj hi
       have dv3:f' 50 = .agg #[.slice no NS.length nc,.int .i64 most]:=hdn 3 _ 50 rfl (hl3 3 (by rfl)) rfl
       have dv5:f' 52 = .slice vo (NS.length+1) vc:=hdn 5 _ 52 rfl (hl3 5 (by rfl)) rfl
       clear hdn hl3
       rw[dv3,dv5]
       clear dv3 dv5 gs11 gs12 gs14 gs15
       refine Zac rfl ?_
       go_wp2_with fail
       refine (Zlr w' no NS.length nc most NS vo (NS.length+1) vc cx rfl (D1.o.step hb.o).spc.strs (by have:=(D1.o.step hb.o).spc.big;omega) (HVX.o.below hb.o) (HLN.o cx (.inl rfl)).symm (HLN.o cx (.inl rfl))).mono ?_
       rintro e w4 ⟨⟨r5,c5,rfl,ho5⟩,b5⟩
       have HB4:=ħ b5
       have HO4:=ħ (ho5.lower hb.o.size)
       clear b5 ho5
       go_wp2_with fail
       exact Zaa ⟨_,rfl,HB4.o,r5,c5,rfl,HO4.o⟩
      ·obtain rfl:=Option.some.inj hi
       clear hdn hl3
       rw[gs11]
       clear gs11 gs12 gs14 gs15
       refine Zac rfl ?_
       go_wp2_with fail
       exact Zaa ⟨_,rfl,Below.refl _ _,rfl⟩
      ·obtain rfl:=Option.some.inj hi
       have dv7:f' 54 = .pointer (some ⟨D,0,none⟩):=hdn 7 _ 54 rfl (hl3 7 (by rfl)) rfl
       clear hdn hl3
       rw[dv7]
       clear dv7 gs11 gs12 gs14 gs15
       refine Zac rfl ?_
       go_wp2_with fail
       exact Zaa ⟨_,rfl,Below.refl _ _,rfl⟩
      ·obtain rfl:=Option.some.inj hi
       have dv8:f' 55 = .pointer (some ⟨D,0,none⟩):=hdn 8 _ 55 rfl (hl3 8 (by rfl)) rfl
       clear hdn hl3
       rw[dv8]
       clear dv8 gs11 gs12 gs14 gs15
       refine Zac rfl ?_
       go_wp2_with fail
       exact Zaa ⟨_,rfl,Below.refl _ _,rfl⟩
      ·obtain rfl:=Option.some.inj hi
       have dv9:f' 56 = .pointer (some ⟨D,0,none⟩):=hdn 9 _ 56 rfl (hl3 9 (by rfl)) rfl
       clear hdn hl3
       rw[dv9]
       clear dv9 gs11 gs12 gs14 gs15
       have d0:=Zah.cell (D1.o.step hb.o).prob 0 _ rfl
       have d1:=Zah.cell (D1.o.step hb.o).prob 1 _ rfl
       refine Zac rfl ?_
       go_wp2_with fail
       exact Zaa ⟨_,rfl,Below.refl _ _,rfl⟩
      ·obtain rfl:=Option.some.inj hi
       clear hdn hl3
       rw[gs12]
       clear gs11 gs12 gs14 gs15
       refine Zac rfl ?_
       go_wp2_with fail
       exact Zaa ⟨_,rfl,Below.refl _ _,rfl⟩
      ·obtain rfl:=Option.some.inj hi
       clear hdn hl3
       rw[gs15]
       clear gs11 gs12 gs14 gs15
       refine Zac rfl ?_
       go_wp2_with fail
       exact Zaa ⟨_,rfl,Below.refl _ _,rfl⟩
      ·obtain rfl:=Option.some.inj hi
       have dv11:f' 58 = .slice (some ⟨gc,off,none⟩) N cc:=hdn 11 _ 58 rfl (hl3 11 (by rfl)) rfl
       have dv12:f' 59 = .int .i64 (k:Int):=hdn 12 _ 59 rfl (hl3 12 (by rfl)) rfl
       clear hdn hl3
       rw[dv11,dv12]
       clear dv11 dv12 gs11 gs12 gs14 gs15
       have kk:(k:Int)<N:=by omega
       refine Zac rfl ?_
       go_wp2_with fail
       exact Zaa ⟨_,rfl,Below.refl _ _,rfl⟩
      ·obtain rfl:=Option.some.inj hi
       have dv13:f' 60 = .pointer (some ⟨gc,off+k*2,none⟩):=hdn 13 _ 60 rfl (hl3 13 (by rfl)) rfl
       clear hdn hl3
       rw[dv13]
       clear dv13 gs11 gs12 gs14 gs15
       refine Zac rfl ?_
       go_wp2_with fail
       exact Zaa ⟨_,rfl,Below.refl _ _,rfl⟩
      ·obtain rfl:=Option.some.inj hi
       have dv14:f' 61 = .pointer (some ⟨gc,off+k*2,none⟩):=hdn 14 _ 61 rfl (hl3 14 (by rfl)) rfl
       clear hdn hl3
       rw[dv14]
       clear dv14 gs11 gs12 gs14 gs15
       have x0:=HUD.o w' hb.o
       refine Zac rfl ?_
       go_wp2_with fail
       exact Zaa ⟨_,rfl,Below.refl _ _,rfl⟩
      ·obtain rfl:=Option.some.inj hi
       have dv10:f' 57 = .agg #[.slice no NS.length nc,.int .i64 most]:=hdn 10 _ 57 rfl (hl3 10 (by rfl)) rfl
       have dv15:f' 62 = .slice uo (NS.length+1) uc:=hdn 15 _ 62 rfl (hl3 15 (by rfl)) rfl
       clear hdn hl3
       rw[dv10,dv15]
       clear dv10 dv15 gs11 gs12 gs14 gs15
       refine Zac rfl ?_
       go_wp2_with fail
       refine (Zlr w' no NS.length nc most NS uo (NS.length+1) uc cy rfl (D1.o.step hb.o).spc.strs (by have:=(D1.o.step hb.o).spc.big;omega) (HVY.o.below hb.o) (HLN.o cy (.inr rfl)).symm (HLN.o cy (.inr rfl))).mono ?_
       rintro e w4 ⟨⟨r5,c5,rfl,ho5⟩,b5⟩
       have HB4:=ħ b5
       have HO4:=ħ (ho5.lower hb.o.size)
       clear b5 ho5
       go_wp2_with fail
       exact Zaa ⟨_,rfl,HB4.o,r5,c5,rfl,HO4.o⟩
     case he =>
      intro listed a' w4 H hsn hall
      have hd6:dsF D X gc off N cc k w7.heap.size NS no NS.length nc most vo uo vc uc cx cy 6 w4 (a'.tmps.getD 53 undef):=H.done 6 _ 53 rfl (hall 6 (by decide)) rfl
      have hd16:dsF D X gc off N cc k w7.heap.size NS no NS.length nc most vo uo vc uc cx cy 16 w4 (a'.tmps.getD 63 undef):=H.done 16 _ 63 rfl (hall 16 (by decide)) rfl
      have hb4:=ħ H.below
      have hact:=H.actN hsn [47,48,49,50,51,52,53,54,55,56,57,58,59,60,61,62,63] (Zk7 (by kernel_rfl))
      clear H hall hsn
      simp only[List.foldl_cons,List.foldl_nil] at hact
      generalize a'.tmps.getD 47 undef=z47 at *
      generalize a'.tmps.getD 48 undef=z48 at *
      generalize a'.tmps.getD 49 undef=z49 at *
      generalize a'.tmps.getD 50 undef=z50 at *
      generalize a'.tmps.getD 51 undef=z51 at *
      generalize a'.tmps.getD 52 undef=z52 at *
      generalize a'.tmps.getD 53 undef=z53 at *
      generalize a'.tmps.getD 54 undef=z54 at *
      generalize a'.tmps.getD 55 undef=z55 at *
      generalize a'.tmps.getD 56 undef=z56 at *
      generalize a'.tmps.getD 57 undef=z57 at *
      generalize a'.tmps.getD 58 undef=z58 at *
      generalize a'.tmps.getD 59 undef=z59 at *
      generalize a'.tmps.getD 60 undef=z60 at *
      generalize a'.tmps.getD 61 undef=z61 at *
      generalize a'.tmps.getD 62 undef=z62 at *
      generalize a'.tmps.getD 63 undef=z63 at *
      subst hact
      obtain⟨za,zb,e6,hRA⟩:=hd6
      subst e6
      obtain⟨zc,zd,e16,hRC⟩:=hd16
      subst e16
      have HRA:=ħ hRA
      have HRC:=ħ hRC
      have B8:=ħ (B7.o.trans (hb4.o.mono B7.o.size))
      clear hRA hRC
      refine Zbp (Zac rfl ?_)
      go_wp2_with fail
      refine Zaa (Zbp (Zac rfl ?_))
      go_wp2_with fail
      refine Zaa (Zbp (Zac rfl ?_))
      go_wp2_with fail
      refine Zaa (Zbp (Zac rfl ?_))
      go_wp2_with fail
      refine Zaa (Zd0 ?_)
      go_wp2
      ((try simp only[Exit.inBlock,Exit.then]);refine bodyPost_ret (Zhe rfl _ _ _) rfl ?_)
      exact Zxg.yes HC.o HYE.o ⟨za,zb,rfl,HRA.o.lower B7.o.size⟩ ⟨zc,zd,rfl,HRC.o.lower B7.o.size⟩ B8.o
   ·have ii:¬ ((i:Int)<N):=by omega
    have HNO:Hid (FR=none):=ħ (by
     rw[← HFR.o]
     have:=hno.o
     rw[List.take_of_length_le (by rw[HN.o];omega)] at this
     exact this)
    have B9:=ħ (B6.o.trans (hw.o.mono B6.o.size))
    go_wp2
    ((try simp only[Exit.inBlock,Exit.then]);refine bodyPost_ret (Zhe rfl _ _ _) rfl ?_)
    exact Zxg.no HC.o HNO.o B9.o
end
end Go.Proofs.YtmkdfbelbcocpaaGreatDoor
