import Derived.Test.YtmkdfbelbcocpaaGreatDoorCD27
import Derived.Test.YtmkdfbelbcocpaaGreatDoorCD28
import Derived.Test.YtmkdfbelbcocpaaGreatDoorCD10
import Derived.BigQuiet
set_option linter.unusedVariables false
set_option linter.unusedSimpArgs false
set_option maxHeartbeats 16000000
set_option maxRecDepth 100000
namespace Go.Proofs.YtmkdfbelbcocpaaGreatDoor
section
open Go.RowKit Go.Sort
theorem Zz3 (X Y D:Nat) (ns:List (List Nat)) (ao:Option Addr) (n cp:Nat) (most:Int) (c2 c3:Value) (vo:Option Addr) (vc:Nat) (v:List Int) (k:Ky) (w:World) (h:TruB X Y D ns ao n cp most c2 c3 vo vc v w) (hk:NmB k.l∧NmB k.r) (hkn:Ze4 ns k.l=true∧Ze4 ns k.r=true) (hvl:v.length=n+1) (hvb:∀ i,0≤gv v i∧gv v i≤100000) :
  Calls Tryz.prog 190 #[.agg (kyC k).toArray,.pointer (some ⟨X,0,none⟩),.pointer (some ⟨Y,0,none⟩)] w fun e w'=>e = .returned (.bool (fK ns (gv v) k))∧Below w.heap.size w w':=by
 have bx:=(Below.refl w.heap.size w).alloc (Nat.le_refl _) (.cells (kyC k).toArray 123)
 have B1:=ħ bx
 have H1:=ħ (h.step bx)
 have X1:Hid (Zah (w.alloc (.cells (kyC k).toArray 123)) w.heap.size 123 (kyC k)):=ħ (heap_alloc_new w _)
 have HOF:=ħ (fun W (hs:SpcR W ns ao n)=>Zu2 W ao n cp most ns k hs.cnt hs.strs hs.byts hs.asc (by have:=hs.big;omega) hk.1 hk.2)
 have HVL:=ħ hvl
 have HVB:=ħ hvb
 have HV:Hid (fK ns (gv v) k=decide (gv v (Zco ns k.l)-gv v (Zco ns k.r)≤k.c)):=ħ rfl
 have e1:Zh3 ns k.l=(Zco ns k.l:Int):=by unfold Zh3;rw[if_pos hkn.1]
 have e2:Zh3 ns k.r=(Zco ns k.r:Int):=by unfold Zh3;rw[if_pos hkn.2]
 have hi1:=Zfs hkn.1
 have hi2:=Zfs hkn.2
 rw[← h.spc.cnt] at hi1 hi2
 rw[e1,e2] at HOF
 have HG1:=ħ (Zg7 (l:=v) (i:=Zco ns k.l) (by omega))
 have HG2:=ħ (Zg7 (l:=v) (i:=Zco ns k.r) (by omega))
 have g1:=hvb (Zco ns k.l)
 have g2:=hvb (Zco ns k.r)
 rw[HV.o]
 clear HV e1 e2 hk hkn hvb bx h
 generalize gv v (Zco ns k.l)=z1 at *
 generalize gv v (Zco ns k.r)=z2 at *
 generalize Zco ns k.l=i1 at *
 generalize Zco ns k.r=i2 at *
 have HKX:Hid (kyC k=[.string (Zad k.l),.string (Zad k.r),.int .i64 k.c]):=ħ rfl
 rw[HKX.o] at B1 X1 H1 HOF ⊢
 clear HKX
 generalize Zad k.l=y1 at *
 generalize Zad k.r=y2 at *
 generalize k.c=y3 at *
 go_enter Tryz.func190,Tryz.ntmps190
 go_upto_region 1 with (fail)
 generalize w.alloc (.cells #[.string y1,.string y2,.int .i64 y3] 123)=w1 at *
 refine Zhv 7 0 (c1F D w1.heap.size ao n cp most y1 y2 y3 i1 i2) (by kernel_rfl) rfl (Zph D w1.heap.size ao n cp most y1 y2 y3 i1 i2) (Ze0 (by kernel_rfl)) (Zh0 (by kernel_rfl)) (Zo0 (by kernel_rfl)) (Zp8 (by kernel_rfl)) ?hs ?he
 case hs =>
  intro i o hin hi listed a' w' H hl2
  have hl3:=Za9 hl2
  have hb:=ħ H.below
  have s1:=H.same 1 (Zap (by kernel_rfl))
  have s3:=H.same 3 (Zap (by kernel_rfl))
  have hdn:=H.done
  have hdf:=H.defers
  have hts:=H.tsize
  clear hl2 H
  obtain⟨t',df⟩:=a'
  obtain⟨f',rfl⟩:=Z3o t' hts
  have hdf':df=[]:=hdf
  subst hdf'
  have gs1:f' 1 = .pointer (some ⟨X,0,none⟩):=s1
  have gs3:f' 3 = .pointer (some ⟨w.heap.size,0,none⟩):=s3
  clear s1 s3
  clear hdf hts
  have hcases:i=0∨i=1∨i=2∨i=3∨i=4∨i=5∨i=6:=Zmm i hin
  clear hin
  rcases hcases with rfl | rfl | rfl | rfl | rfl | rfl | rfl
  ·obtain rfl:=Option.some.inj hi
   clear hdn hl3
   rw[gs1]
   clear gs1 gs3
   have x0:=(H1.o.step hb.o).bx.cell 0 _ rfl
   refine Zac rfl ?_
   go_wp2_with fail
   exact Zaa ⟨_,rfl,Below.refl _ _,rfl⟩
  ·obtain rfl:=Option.some.inj hi
   have dv0:f' 6 = .pointer (some ⟨D,0,none⟩):=hdn 0 _ 6 rfl (hl3 0 (by rfl)) rfl
   clear hdn hl3
   rw[dv0]
   clear dv0 gs1 gs3
   refine Zac rfl ?_
   go_wp2_with fail
   exact Zaa ⟨_,rfl,Below.refl _ _,rfl⟩
  ·obtain rfl:=Option.some.inj hi
   have dv1:f' 7 = .pointer (some ⟨D,0,none⟩):=hdn 1 _ 7 rfl (hl3 1 (by rfl)) rfl
   clear hdn hl3
   rw[dv1]
   clear dv1 gs1 gs3
   refine Zac rfl ?_
   go_wp2_with fail
   exact Zaa ⟨_,rfl,Below.refl _ _,rfl⟩
  ·obtain rfl:=Option.some.inj hi
   have dv2:f' 8 = .pointer (some ⟨D,0,none⟩):=hdn 2 _ 8 rfl (hl3 2 (by rfl)) rfl
   clear hdn hl3
   rw[dv2]
   clear dv2 gs1 gs3
   have d0:=(H1.o.step hb.o).bd.cell 0 _ rfl
   have d1:=(H1.o.step hb.o).bd.cell 1 _ rfl
   refine Zac rfl ?_
   go_wp2_with fail
   exact Zaa ⟨_,rfl,Below.refl _ _,rfl⟩
  ·obtain rfl:=Option.some.inj hi
   clear hdn hl3
   rw[gs3]
   clear gs1 gs3
   have k0:=(X1.o.step hb.o).cell 0 _ rfl
   have k1:=(X1.o.step hb.o).cell 1 _ rfl
   have k2:=(X1.o.step hb.o).cell 2 _ rfl
   refine Zac rfl ?_
   go_wp2_with fail
   exact Zaa ⟨_,rfl,Below.refl _ _,rfl⟩
  ·obtain rfl:=Option.some.inj hi
   have dv3:f' 9 = .agg #[.slice ao n cp,.int .i64 most]:=hdn 3 _ 9 rfl (hl3 3 (by rfl)) rfl
   have dv4:f' 10 = .agg #[.string y1,.string y2,.int .i64 y3]:=hdn 4 _ 10 rfl (hl3 4 (by rfl)) rfl
   clear hdn hl3
   rw[dv3,dv4]
   clear dv3 dv4 gs1 gs3
   refine Zac rfl ?_
   go_wp2_with fail
   refine (HOF.o w' (H1.o.step hb.o).spc).mono ?_
   rintro e w4 ⟨rfl,b4⟩
   have HB4:=ħ b4
   clear b4
   go_wp2_with fail
   exact Zaa ⟨_,rfl,HB4.o,rfl⟩
  ·obtain rfl:=Option.some.inj hi
   clear hdn hl3
   clear gs1 gs3
   refine Zac rfl ?_
   go_wp2_with fail
   exact Zaa ⟨_,rfl,(Below.refl w'.heap.size w').alloc (Nat.le_refl _) _,w'.heap.size,rfl,heap_alloc_new _ _,hb.o.size⟩
 case he =>
  intro listed a' w4 H hall
  have hd5:c1F D w1.heap.size ao n cp most y1 y2 y3 i1 i2 5 w4 (a'.tmps.getD 11 undef):=H.done 5 _ 11 rfl (hall 5 (by decide)) rfl
  have hd6:c1F D w1.heap.size ao n cp most y1 y2 y3 i1 i2 6 w4 (a'.tmps.getD 5 undef):=H.done 6 _ 5 rfl (hall 6 (by decide)) rfl
  have hb4:=ħ H.below
  have s2:=H.same 2 (Zap (by kernel_rfl))
  have s4:=H.same 4 (Zap (by kernel_rfl))
  have hdf:=H.defers
  have hts:=H.tsize
  clear H hall
  obtain⟨t',df⟩:=a'
  obtain⟨f',rfl⟩:=Z3o t' hts
  have hdf':df=[]:=hdf
  subst hdf'
  have gs2:f' 2 = .pointer (some ⟨Y,0,none⟩):=s2
  have gs4:f' 4 = .bool false:=s4
  have e5:f' 11 = .agg #[.int .i64 (i1:Int),.int .i64 (i2:Int),.int .i64 y3]:=hd5
  have e6:c1F D w1.heap.size ao n cp most y1 y2 y3 i1 i2 6 w4 (f' 5):=hd6
  clear hd6
  obtain⟨A,e6,hA,hNA⟩:=e6
  rw[gs2,gs4,e5,e6]
  clear s2 s4 gs2 gs4 hdf hts hd5 e5 e6
  have HA:=ħ hA
  have HNA:=ħ hNA
  clear hA hNA
  refine Zbn (Zac rfl ?_)
  refine Zab rfl 147 (.tmp 5) (.tmp 11) rfl A #[.int .i64 (i1:Int),.int .i64 (i2:Int),.int .i64 y3] ?s1 ?s2 147 _ HA.o (Zmg _ rfl) rfl (by simp[Value.oneCell']) ?_
  case s1=>rfl
  case s2=>rfl
  intro w9 s9 u9
  have S9:Hid (Zah w9 A 147 [.int .i64 (i1:Int),.int .i64 (i2:Int),.int .i64 y3]):=ħ s9
  have U9:=ħ u9
  clear s9 u9
  have B4:=ħ (B1.o.trans (hb4.o.mono B1.o.size))
  have H4:=ħ (H1.o.step (U9.o.below hb4.o HNA.o))
  have B9:=ħ (U9.o.below B4.o (Nat.le_trans B1.o.size HNA.o))
  clear HA H1 hb4 B4
  go_wp2_with fail
  refine Zaa (Zd1 ?_)
  change Exit.then _ _ Exit.normal ⟨#[f' 0,f' 1,.pointer (some ⟨Y,0,none⟩),f' 3,.bool false,.pointer (some ⟨A,0,none⟩),f' 6,f' 7,f' 8,f' 9,f' 10,.agg #[.int .i64 (i1:Int),.int .i64 (i2:Int),.int .i64 y3],f' 12,f' 13,f' 14,f' 15,f' 16,f' 17,f' 18,f' 19,f' 20,f' 21,f' 22,f' 23,f' 24,f' 25],[]⟩ w9
  have e3:IntKind.i64.wrap (z1-z2)=z1-z2:=IntWalk.i64_in _ (by omega)
  have j1:(0:Int)≤(i1:Int):=by omega
  have j2:(0:Int)≤(i2:Int):=by omega
  have j3:(i1:Int)<(n:Int)+1:=by omega
  have j4:(i2:Int)<(n:Int)+1:=by omega
  have c0:=S9.o.cell 0 _ rfl
  have c1:=S9.o.cell 1 _ rfl
  have c2:=S9.o.cell 2 _ rfl
  have v0:=H4.o.bv.cell 0 _ rfl
  obtain⟨g,off,hvo,hg,w1'⟩:=H4.o.vals.int i1 z1 HG1.o
  obtain⟨g',off',hvo',hg',w2'⟩:=H4.o.vals.int i2 z2 HG2.o
  rw[hvo] at hvo'
  simp only[Option.some.injEq,Addr.mk.injEq] at hvo'
  obtain⟨rfl,rfl,-⟩:=hvo'
  rw[hvo] at v0
  go_upto_region 2 with (fail)
  have c0':=cell_regrown c0
  have c1':=cell_regrown c1
  have c2':=cell_regrown c2
  have v0':=cell_regrown v0
  have q1':=cell_regrown w1'
  have q2':=cell_regrown w2'
  clear c0 c1 c2 v0 w1' w2'
  refine wp_region_quiet_below (by kernel_rfl) (by kernel_rfl) ?_
  repeat (go_big_quiet_step (fail))
  refine wpQuiet_nil ?_
  intro _ hw'
  obtain⟨⟨dq,osq⟩,hw''⟩:=hw'
  subst hw''
  have BB:=ħ (B9.o.trans ((below_regrown w9 dq osq).mono B9.o.size))
  clear c0' c1' c2' v0' q1' q2'
  generalize grow (redrawn w9 dq) osq=wy at *
  go_wp2
  go_ret
  exact⟨rfl,BB.o⟩
theorem Z3v (w:World) (P:Nat→Prop) (X D:Nat) (ns:List (List Nat)) (ao:Option Addr) (n cp:Nat) (most:Int) (ps:List Prd) (p:Prd) (po:Option Addr) (pn pc:Nat) (ks:List Ky) (ro:Option Addr) (rc:Nat) (vo:Option Addr) (vn vc:Nat) (v:List Int)
  (hx:Zah w X 151 [.pointer (some ⟨D,0,none⟩)]) (hd:DecR w P D ns ao n cp most ps po pn pc ks ro rc) (hp:ps[0]?=some p) (hpn:pn=ps.length) (hpk:∀ k∈Zcl p,Znj ns k) (hpc:Za8 p≤1000000) (hv:Za7 Zcc w vo v) (hvn:vn=v.length) (hvl:v.length=n+1) (hvb:∀ i,0≤gv v i∧gv v i≤100000) :
  Calls Tryz.prog 189 #[.slice vo vn vc,.pointer (some ⟨X,0,none⟩)] w fun e w'=>e = .returned (.bool (Zav (fK ns (gv v)) p))∧Below w.heap.size w w':=by
 have bx:=(Below.refl w.heap.size w).alloc (Nat.le_refl _) (.cells #[.slice vo vn vc] 60)
 have B1:=ħ bx
 have D1:=ħ (hd.step bx)
 have X1:=ħ (hx.step bx)
 have V1:=ħ (hv.below bx)
 have Y1:Hid (Zah (w.alloc (.cells #[.slice vo vn vc] 60)) w.heap.size 60 [.slice vo vn vc]):=ħ (heap_alloc_new w _)
 have hp0:0<pn:=by rw[hpn];exact (List.getElem?_eq_some_iff.1 hp).1
 have HVN:=ħ hvn
 have HTR:=ħ (fun (W:World) (vs:List Value) (C:World→Prop) (g:Nat) (cb:Array Value) (f:Ky→Bool) (S:Ky→Prop) h1 h2 h3 h4=>Zin (Za8 p) p W P vs C g cb f S (Nat.le_refl _) hpc h1 h2 h3 h4)
 have HPK:=ħ hpk
 have HP:=ħ hp
 have HVL:=ħ hvl
 have HVB:=ħ hvb
 obtain⟨tv,htv⟩:∃ b,Zav (fK ns (gv v)) p=b:=⟨_,rfl⟩
 have HTV:=ħ htv
 rw[htv]
 clear bx hd hx hv hpk hpc hp hpn hvl hvb hvn htv
 go_enter Tryz.func189,Tryz.ntmps189
 go_upto_region 1 with (fail)
 generalize w.alloc (.cells #[.slice vo vn vc] 60)=w1 at *
 obtain⟨gk,off,vs,hao,hgl,hpcq,hrd⟩:=D1.o.prds.at 0 p HP.o
 obtain⟨xa,xn,xc,hvf,-⟩:=hpcq.form
 subst hvf
 have PC:=ħ hpcq
 have s0:=hrd 0 _ rfl
 have s1:=hrd 1 _ rfl
 have s2:=hrd 2 _ rfl
 have s3:=hrd 3 _ rfl
 have s4:=hrd 4 _ rfl
 rw[Nat.zero_mul,Nat.add_zero] at s0 s1 s2 s3 s4
 clear hrd hpcq hgl
 have x0:=X1.o.cell 0 _ rfl
 have d2:=Zah.cell D1.o.prob 2 _ rfl
 rw[hao] at d2
 have pp:(0:Int)<pn:=by omega
 have HIF:Hid (IsF (TruB X w.heap.size D ns ao n cp most (.slice po pn pc) (.slice ro ks.length rc) vo vc v) 190 #[.pointer (some ⟨X,0,none⟩),.pointer (some ⟨w.heap.size,0,none⟩)] (fK ns (gv v)) (Znj ns)):=ħ
  ⟨enters_of Tryz.func190 (by kernel_rfl) rfl,fun w w' h hb=>h.step hb,fun k w' hk hC=>Zz3 X w.heap.size D ns ao n cp most _ _ vo vc v k w' hC hk.1 hk.2.1 HVL.o HVB.o⟩
 have HTB:Hid (TruB X w.heap.size D ns ao n cp most (.slice po pn pc) (.slice ro ks.length rc) vo vc v w1):=ħ ⟨X1.o,D1.o.prob,by rw[← HVN.o];exact Y1.o,V1.o,D1.o.spc⟩
 have HTQ:=ħ (HTR.o w1 _ _ _ _ _ _ HIF.o HPK.o PC.o HTB.o)
 rw[HTV.o] at HTQ
 clear HTR HIF HTB PC
 generalize p.k=q0 at *
 generalize Zad p.l=q1 at *
 generalize Zad p.r=q2 at *
 generalize p.c=q3 at *
 go_wp2_with fail
 refine HTQ.o.mono ?_
 rintro e w2 ⟨rfl,b2⟩
 have B2:=ħ (B1.o.trans (b2.mono B1.o.size))
 clear b2
 go_wp2
 go_ret
 exact⟨rfl,B2.o⟩
theorem Z3w (w:World) (X D:Nat) (ao:Option Addr) (n cp:Nat) (most:Int) (c2 c3:Value) (x:Int) (hx:Zah w X 151 [.pointer (some ⟨D,0,none⟩)]) (hd:Zah w D 162 [.slice ao n cp,.int .i64 most,c2,c3]) (hm:0≤most∧most≤65535) :
  Calls Tryz.prog 193 #[.int .i64 x,.pointer (some ⟨X,0,none⟩)] w fun e w'=>e = .returned (.bool (!inT most x))∧Below w.heap.size w w':=by
 have x0:=hx.cell 0 _ rfl
 have d1:=hd.cell 1 _ rfl
 have e1:IntKind.i64.wrap (most+1)=most+1:=IntWalk.i64_in _ (by omega)
 have HI:(!inT most x)=(decide (x<0)||decide (most+1<x)):=by unfold inT;rw[Bool.not_not]
 rw[HI]
 clear hx hd HI
 go_enter Tryz.func193,Tryz.ntmps193
 by_cases h0:x<0
 ·rw[decide_eq_true h0]
  go_wp2
  go_ret
  exact⟨rfl,Below.refl _ _⟩
 ·rw[decide_eq_false h0]
  go_wp2
  go_ret
  exact⟨rfl,Below.refl _ _⟩
end
section
open Go.RowKit Go.Sort
theorem OwnK.two (w:World) (a b:Int) (T:TypeId):OwnK (w.alloc (.cells #[.int .i64 a,.int .i64 b] T)) w.heap.size 1 2 2 ([a,b].flatMap Zcc) (some ⟨w.heap.size,0,none⟩) :=
 have hA:Zah (w.alloc (.cells #[.int .i64 a,.int .i64 b] T)) w.heap.size T [.int .i64 a,.int .i64 b]:=heap_alloc_new w _
 .at w.heap.size 0 ⟨Nat.le_refl _,hA.lt,by simp[Zcc],fun j u h=>by rw[Nat.zero_add];exact hA.cell j u (by simpa [Zcc] using h),fun j h=>by
  rw[Nat.zero_add]
  have h2:j<2:=by omega
  rcases (show j=0∨j=1 by omega) with rfl | rfl
  ·rw[hA.cell 0 _ rfl];rfl
  ·rw[hA.cell 1 _ rfl];rfl,fun j h=>by rw[Nat.zero_add];exact hA.warm j⟩ (by simp[Zcc]) (by simp[maxLen]) (Nat.le_refl _)
theorem Zvi (t:Array Value) (h:t.size=146):∃ f:Nat→Value,t=#[f 0,f 1,f 2,f 3,f 4,f 5,f 6,f 7,f 8,f 9,f 10,f 11,f 12,f 13,f 14,f 15,f 16,f 17,f 18,f 19,f 20,f 21,f 22,f 23,f 24,f 25,f 26,f 27,f 28,f 29,f 30,f 31,f 32,f 33,f 34,f 35,f 36,f 37,f 38,f 39,f 40,f 41,f 42,f 43,f 44,f 45,f 46,f 47,f 48,f 49,f 50,f 51,f 52,f 53,f 54,f 55,f 56,f 57,f 58,f 59,f 60,f 61,f 62,f 63,f 64,f 65,f 66,f 67,f 68,f 69,f 70,f 71,f 72,f 73,f 74,f 75,f 76,f 77,f 78,f 79,f 80,f 81,f 82,f 83,f 84,f 85,f 86,f 87,f 88,f 89,f 90,f 91,f 92,f 93,f 94,f 95,f 96,f 97,f 98,f 99,f 100,f 101,f 102,f 103,f 104,f 105,f 106,f 107,f 108,f 109,f 110,f 111,f 112,f 113,f 114,f 115,f 116,f 117,f 118,f 119,f 120,f 121,f 122,f 123,f 124,f 125,f 126,f 127,f 128,f 129,f 130,f 131,f 132,f 133,f 134,f 135,f 136,f 137,f 138,f 139,f 140,f 141,f 142,f 143,f 144,f 145]:=by
 obtain⟨l⟩:=t
 have hl:l.length=146:=h
 have e:l=(List.range 146).map (fun i=>l.getD i undef):=by
  apply List.ext_getElem
  ·simp[hl]
  ·intro i h1 h2
   simp[List.getD,h1]
 exact⟨fun i=>l.getD i undef,congrArg List.toArray e⟩
theorem Zwq (i:Nat) (h:i<11):i=0∨i=1∨i=2∨i=3∨i=4∨i=5∨i=6∨i=7∨i=8∨i=9∨i=10:=by omega
theorem Zwr (i:Nat) (h:i<10):i=0∨i=1∨i=2∨i=3∨i=4∨i=5∨i=6∨i=7∨i=8∨i=9:=by omega
def Z79 (tq:Option Addr) (tn tc g off n vc A i2:Nat) (z2 y3:Int) (i:Nat) (W:World) (v:Value):Prop:=match i with
 | 0=>v = .slice tq tn tc
 | 1=>v = .slice (some ⟨g,off,none⟩) n vc
 | 2=>v = .pointer (some ⟨A,1,none⟩)
 | 3=>v = .int .i64 (i2:Int)
 | 4=>v = .pointer (some ⟨g,off+i2,none⟩)
 | 5=>v = .int .i64 z2
 | 6=>v = .pointer (some ⟨A,2,none⟩)
 | 7=>v = .int .i64 y3
 | 8=>v = .int .i64 (z2+y3)
 | 9=>v = .int .i64 (z2+y3+1)
 | 10=>∃ A2,v = .slice (some ⟨A2,0,none⟩) 1 1∧Zah W A2 3 [.int .i64 (z2+y3+1)]
 | _=>True
theorem Zz4 (tq:Option Addr) (tn tc g off n vc A i2:Nat) (z2 y3:Int):∀ i w w' v,Z79 tq tn tc g off n vc A i2 z2 y3 i w v→Below w.heap.size w w'→Z79 tq tn tc g off n vc A i2 z2 y3 i w' v:=by
 intro i w w' v h hb
 match i with
 | 0=>exact h
 | 1=>exact h
 | 2=>exact h
 | 3=>exact h
 | 4=>exact h
 | 5=>exact h
 | 6=>exact h
 | 7=>exact h
 | 8=>exact h
 | 9=>exact h
 | 10=>obtain⟨A2,h1,h2⟩:=h;exact⟨A2,h1,h2.step hb⟩
 | k+11=>trivial
def Z8a (tq:Option Addr) (tn tc g off n vc A i1:Nat) (z1 y3:Int) (i:Nat) (W:World) (v:Value):Prop:=match i with
 | 0=>v = .slice tq tn tc
 | 1=>v = .slice (some ⟨g,off,none⟩) n vc
 | 2=>v = .pointer (some ⟨A,0,none⟩)
 | 3=>v = .int .i64 (i1:Int)
 | 4=>v = .pointer (some ⟨g,off+i1,none⟩)
 | 5=>v = .int .i64 z1
 | 6=>v = .pointer (some ⟨A,2,none⟩)
 | 7=>v = .int .i64 y3
 | 8=>v = .int .i64 (z1-y3)
 | 9=>∃ A2,v = .slice (some ⟨A2,0,none⟩) 1 1∧Zah W A2 3 [.int .i64 (z1-y3)]
 | _=>True
theorem Zz5 (tq:Option Addr) (tn tc g off n vc A i1:Nat) (z1 y3:Int):∀ i w w' v,Z8a tq tn tc g off n vc A i1 z1 y3 i w v→Below w.heap.size w w'→Z8a tq tn tc g off n vc A i1 z1 y3 i w' v:=by
 intro i w w' v h hb
 match i with
 | 0=>exact h
 | 1=>exact h
 | 2=>exact h
 | 3=>exact h
 | 4=>exact h
 | 5=>exact h
 | 6=>exact h
 | 7=>exact h
 | 8=>exact h
 | 9=>obtain⟨A2,h1,h2⟩:=h;exact⟨A2,h1,h2.step hb⟩
 | k+10=>trivial
theorem Z3x (w:World) (P:Nat→Prop) (D:Nat) (ns:List (List Nat)) (ao:Option Addr) (n cp M:Nat) (ps:List Prd) (p:Prd) (po:Option Addr) (pn pc:Nat) (ks:List Ky) (ro:Option Addr) (rc:Nat) (g off vc:Nat) (v:List Int)
  (hd:DecR w P D ns ao n cp (M:Int) ps po pn pc ks ro rc) (hp:ps[0]?=some p) (hpn:pn=ps.length) (hpk:∀ k∈Zcl p,Znj ns k) (hpc:Za8 p≤1000000) (hkc:∀ k∈ks,Znj ns k) (hkn:∀ k∈ks,Zsr k=false) (hk8:ks.length≤8) (hM:M≤65535) (hn1:1≤n)
  (hv:Za3 w g off (v.flatMap Zcc)) (hgl:g<w.heap.size) (hvl:v.length=n) (hvc:n≤vc) (hvm:vc≤maxLen) (hvb:∀ i,0≤gv v i∧gv v i≤65536) :
  Calls Tryz.prog 130 #[.pointer (some ⟨D,0,none⟩),.slice (some ⟨g,off,none⟩) n vc] w fun e w'=>e = .returned (.int .i64 (Z5q (fun x=>Zav (fK ns (gv (v++[x]))) p) (Zcf ns v n (M:Int) ks)))∧Below w.heap.size w w':=by
 have bx:=(Below.refl w.heap.size w).alloc (Nat.le_refl _) (.cells #[.pointer (some ⟨D,0,none⟩)] 151)
 have B1:=ħ bx
 have D1:=ħ (hd.step bx)
 have X1:Hid (Zah (w.alloc (.cells #[.pointer (some ⟨D,0,none⟩)] 151)) w.heap.size 151 [.pointer (some ⟨D,0,none⟩)]):=ħ (heap_alloc_new w _)
 have HV1:=ħ (hv.of_block (bx.block g hgl))
 have HGL:=ħ (Nat.lt_of_lt_of_le hgl bx.size)
 have HP:=ħ hp
 have HPN:=ħ hpn
 have HPK:=ħ hpk
 have HPC:=ħ hpc
 have HKC:=ħ hkc
 have HKN:=ħ hkn
 have HVL:=ħ hvl
 have HVB:=ħ hvb
 obtain⟨S,hS⟩:∃ S,Z5q (fun x=>Zav (fK ns (gv (v++[x]))) p) (Zcf ns v n (M:Int) ks)=S:=⟨_,rfl⟩
 have HS:=ħ hS
 rw[hS]
 obtain⟨m,hm⟩:∃ m,ks.length=m:=⟨_,rfl⟩
 have HM:=ħ hm
 have m8:m≤8:=by omega
 have hn100:n≤100:=D1.o.spc.big
 have nn:¬ ((n:Int)<(n:Int)):=by omega
 have eM:IntKind.i64.wrap ((M:Int)+1)=(M:Int)+1:=IntWalk.i64_in _ (by omega)
 clear bx hd hp hpn hpk hpc hkc hkn hk8 hv hgl hvl hvb hS hm
 go_enter Tryz.func130,Tryz.ntmps130
 go_upto_region 4 with (fail)
 generalize w.alloc (.cells #[.pointer (some ⟨D,0,none⟩)] 151)=w1 at *
 have x0:=X1.o.cell 0 _ rfl
 have d0:=Zah.cell D1.o.prob 0 _ rfl
 have d1:=Zah.cell D1.o.prob 1 _ rfl
 go_upto_region 17 with (fail)
 clear x0 d0 d1
 have bt:=(Below.refl w1.heap.size w1).alloc (Nat.le_refl _) (.cells #[.int .i64 0,.int .i64 ((M:Int)+1)] 3)
 have OT:Hid (OwnK (w1.alloc (.cells #[.int .i64 0,.int .i64 ((M:Int)+1)] 3)) w1.heap.size 1 2 2 ((Zf8 ns v n (M:Int) ks 0).flatMap Zcc) (some ⟨w1.heap.size,0,none⟩)):=ħ (OwnK.two w1 _ _ _)
 have BT:=ħ bt
 have X2:=ħ (X1.o.step bt)
 have D2:=ħ (D1.o.step bt)
 clear bt
 generalize w1.alloc (.cells #[.int .i64 0,.int .i64 ((M:Int)+1)] 3)=w2 at *
 have x0:=X2.o.cell 0 _ rfl
 have d3:=Zah.cell D2.o.prob 3 _ rfl
 rw[HM.o] at d3
 go_wp2_with fail
 clear x0 d3
 have HKNW:Hid (∀ k∈ks,Zco ns k.l≤n∧Zco ns k.r≤n∧Zco ns k.l≠Zco ns k.r):=ħ (fun k hk=>by
  obtain⟨-,⟨h1,h2⟩,-⟩:=HKC.o k hk
  have h3:=Zfs h1
  have h4:=Zfs h2
  have h5:=D1.o.spc.cnt
  refine⟨by omega,by omega,fun e=>?_⟩
  have h6:=HKN.o k hk
  have h7:=Zuq h1 h2 e
  unfold Zsr at h6
  rw[h7] at h6
  simp at h6)
 clear X2 D2
 go_loopw [10,68] (fun tv jv wr=>∃ (j tn:Nat) (tq:Option Addr) (tc:Nat),jv = .int .i64 j∧tv = .slice tq tn tc∧j≤m∧tn≤2+j∧Hid (OwnK wr w1.heap.size 1 tn tc ((Zf8 ns v n (M:Int) ks j).flatMap Zcc) tq)∧Hid (Below w1.heap.size w1 wr)) (fun _ j _=>(m-intOf j).toNat)
 case atStart=>exact⟨0,2,some ⟨w1.heap.size,0,none⟩,2,rfl,rfl,by omega,by omega,OT,BT⟩
 case round =>
  clear OT BT
  obtain⟨j,tn,tq,tc,rfl,rfl,hj,htn,hto,hw⟩:=hrel
  have e2:IntKind.i64.wrap ((j:Int)+1)=((j+1:Nat):Int):=IntWalk.i64_in _ (by omega)
  by_cases hjl:j<m
  ·have jj:(j:Int)<m:=by omega
   obtain⟨k,hk⟩:∃ k,ks[j]?=some k:=⟨_,List.getElem?_eq_getElem (by rw[HM.o];exact hjl)⟩
   have HKI:=ħ hk
   have hkm:=List.mem_of_getElem? hk
   have HKQ:=ħ (HKC.o k hkm)
   have HIX:=ħ (HKNW.o k hkm)
   obtain⟨gk,offk,hao,hgk,hcl⟩:=(D1.o.step hw.o).keys.at (k:=3) (fun _=>rfl) j k hk
   have k0:=hcl 0 _ rfl
   have k1:=hcl 1 _ rfl
   have k2:=hcl 2 _ rfl
   rw[Nat.add_zero] at k0
   have HAO:=ħ hao
   have bx:=(Below.refl wr.heap.size wr).alloc (Nat.le_refl _) (.cells (kyC k).toArray 123)
   have OT1:=ħ (hto.o.below bx)
   have HW1:=ħ (hw.o.trans (bx.mono hw.o.size))
   have Y1:Hid (Zah (wr.alloc (.cells (kyC k).toArray 123)) wr.heap.size 123 (kyC k)):=ħ (heap_alloc_new _ _)
   have HKY:Hid (kyC k=[.string (Zad k.l),.string (Zad k.r),.int .i64 k.c]):=ħ rfl
   rw[HKY.o] at OT1 HW1 Y1
   have HTN:=ħ (Ztc (ns:=ns) (v:=v) (at':=n) (most:=(M:Int)) HKI.o)
   have HTK:Hid (Zpb ns v n k=if Zco ns k.l=n then [gv v (Zco ns k.r)+k.c+1] else if Zco ns k.r=n then [gv v (Zco ns k.l)-k.c] else []):=ħ rfl
   have e1':Zh3 ns k.l=(Zco ns k.l:Int):=by unfold Zh3;rw[if_pos HKQ.o.2.1.1]
   have e2':Zh3 ns k.r=(Zco ns k.r:Int):=by unfold Zh3;rw[if_pos HKQ.o.2.1.2]
   have HOF:=ħ (fun W (hs:SpcR W ns ao n)=>Zu2 W ao n cp (M:Int) ns k hs.cnt hs.strs hs.byts hs.asc (by have:=hs.big;omega) HKQ.o.1.1 HKQ.o.1.2)
   rw[e1',e2',HKY.o] at HOF
   have HBC:=HKQ.o.2.2
   unfold inC at HBC
   simp only[Bool.and_eq_true,decide_eq_true_eq] at HBC
   obtain⟨hx1,hx2,hx3⟩:=HIX.o
   have g1:=HVB.o (Zco ns k.l)
   have g2:=HVB.o (Zco ns k.r)
   have HG1:=ħ (fun (h:Zco ns k.l<n) W (hW:Below w1.heap.size w1 W)=>(HV1.o.of_block (hW.block g HGL.o)) (Zco ns k.l) (.int .i64 (gv v (Zco ns k.l))) (by rw[← Zgi,ivs,List.getElem?_map,Zg7 (by rw[HVL.o];exact h)];rfl))
   have HG2:=ħ (fun (h:Zco ns k.r<n) W (hW:Below w1.heap.size w1 W)=>(HV1.o.of_block (hW.block g HGL.o)) (Zco ns k.r) (.int .i64 (gv v (Zco ns k.r))) (by rw[← Zgi,ivs,List.getElem?_map,Zg7 (by rw[HVL.o];exact h)];rfl))
   rw[HTK.o] at HTN
   clear hk hkm bx hcl hto hw HKQ HIX HTK e1' e2' HAO HKY hgk HKNW
   subst hao
   generalize Zad k.l=y1 at *
   generalize Zad k.r=y2 at *
   generalize gv v (Zco ns k.l)=z1 at *
   generalize gv v (Zco ns k.r)=z2 at *
   generalize Zco ns k.l=i1 at *
   generalize Zco ns k.r=i2 at *
   generalize k.c=y3 at *
   go_upto_region 20 with (fail)
   clear k0 k1 k2
   generalize wr.alloc (.cells #[.string y1,.string y2,.int .i64 y3] 123)=wx at *
   generalize wr.heap.size=K at *
   refine Zc4 7 0 (c1F D wx.heap.size ao n cp (M:Int) y1 y2 y3 i1 i2) (by kernel_rfl) rfl (Zph D wx.heap.size ao n cp (M:Int) y1 y2 y3 i1 i2) (Ze0 (by kernel_rfl)) (Zh0 (by kernel_rfl)) (Zdi (by kernel_rfl)) (Zgz (by kernel_rfl)) ?hs ?he
   case hs =>
    intro i o hin hi listed a' w' H hsn hl2
    have hl3:=Za9 hl2
    have hb:=ħ H.below
    have s2:=hsn 2 (Zbh (by kernel_rfl))
    have s12:=hsn 12 (Zbh (by kernel_rfl))
    have hdn:=H.done
    have hdf:=H.defers
    have hts:=H.tsize
    clear hl2 H hsn
    obtain⟨t',df⟩:=a'
    obtain⟨f',rfl⟩:=Zvi t' hts
    have hdf':df=[]:=hdf
    subst hdf'
    have gs2:f' 2 = .pointer (some ⟨w.heap.size,0,none⟩):=s2
    have gs12:f' 12 = .pointer (some ⟨K,0,none⟩):=s12
    clear s2 s12
    clear hdf hts
    have hcases:i=0∨i=1∨i=2∨i=3∨i=4∨i=5∨i=6:=Zmm i hin
    clear hin
    rcases hcases with rfl | rfl | rfl | rfl | rfl | rfl | rfl
    ·obtain rfl:=Option.some.inj hi
     clear hdn hl3
     rw[gs2]
     clear gs2 gs12
     have x0:=(X1.o.step (HW1.o.trans (hb.o.mono HW1.o.size))).cell 0 _ rfl
     refine Zac rfl ?_
     go_wp2_with fail
     exact Zaa ⟨_,rfl,Below.refl _ _,rfl⟩
    ·obtain rfl:=Option.some.inj hi
     have dv0:f' 72 = .pointer (some ⟨D,0,none⟩):=hdn 0 _ 72 rfl (hl3 0 (by rfl)) rfl
     clear hdn hl3
     rw[dv0]
     clear dv0 gs2 gs12
     refine Zac rfl ?_
     go_wp2_with fail
     exact Zaa ⟨_,rfl,Below.refl _ _,rfl⟩
    ·obtain rfl:=Option.some.inj hi
     have dv1:f' 73 = .pointer (some ⟨D,0,none⟩):=hdn 1 _ 73 rfl (hl3 1 (by rfl)) rfl
     clear hdn hl3
     rw[dv1]
     clear dv1 gs2 gs12
     refine Zac rfl ?_
     go_wp2_with fail
     exact Zaa ⟨_,rfl,Below.refl _ _,rfl⟩
    ·obtain rfl:=Option.some.inj hi
     have dv2:f' 74 = .pointer (some ⟨D,0,none⟩):=hdn 2 _ 74 rfl (hl3 2 (by rfl)) rfl
     clear hdn hl3
     rw[dv2]
     clear dv2 gs2 gs12
     have DD:=D1.o.step (HW1.o.trans (hb.o.mono HW1.o.size))
     have d0:=Zah.cell DD.prob 0 _ rfl
     have d1:=Zah.cell DD.prob 1 _ rfl
     clear DD
     refine Zac rfl ?_
     go_wp2_with fail
     exact Zaa ⟨_,rfl,Below.refl _ _,rfl⟩
    ·obtain rfl:=Option.some.inj hi
     clear hdn hl3
     rw[gs12]
     clear gs2 gs12
     have k0:=(Y1.o.step hb.o).cell 0 _ rfl
     have k1:=(Y1.o.step hb.o).cell 1 _ rfl
     have k2:=(Y1.o.step hb.o).cell 2 _ rfl
     refine Zac rfl ?_
     go_wp2_with fail
     exact Zaa ⟨_,rfl,Below.refl _ _,rfl⟩
    ·obtain rfl:=Option.some.inj hi
     have dv3:f' 75 = .agg #[.slice ao n cp,.int .i64 (M:Int)]:=hdn 3 _ 75 rfl (hl3 3 (by rfl)) rfl
     have dv4:f' 76 = .agg #[.string y1,.string y2,.int .i64 y3]:=hdn 4 _ 76 rfl (hl3 4 (by rfl)) rfl
     clear hdn hl3
     rw[dv3,dv4]
     clear dv3 dv4 gs2 gs12
     refine Zac rfl ?_
     go_wp2_with fail
     refine (HOF.o w' (D1.o.step (HW1.o.trans (hb.o.mono HW1.o.size))).spc).mono ?_
     rintro e w4 ⟨rfl,b4⟩
     have HB4:=ħ b4
     clear b4
     go_wp2_with fail
     exact Zaa ⟨_,rfl,HB4.o,rfl⟩
    ·obtain rfl:=Option.some.inj hi
     clear hdn hl3
     clear gs2 gs12
     refine Zac rfl ?_
     go_wp2_with fail
     exact Zaa ⟨_,rfl,(Below.refl w'.heap.size w').alloc (Nat.le_refl _) _,w'.heap.size,rfl,heap_alloc_new _ _,hb.o.size⟩
   case he =>
    intro listed a' w4 H hsn hall
    have hd5:c1F D wx.heap.size ao n cp (M:Int) y1 y2 y3 i1 i2 5 w4 (a'.tmps.getD 77 undef):=H.done 5 _ 77 rfl (hall 5 (by decide)) rfl
    have hd6:c1F D wx.heap.size ao n cp (M:Int) y1 y2 y3 i1 i2 6 w4 (a'.tmps.getD 13 undef):=H.done 6 _ 13 rfl (hall 6 (by decide)) rfl
    have hb4:=ħ H.below
    have hact:=H.actN hsn [72,73,74,75,76,77,13] (Zly (by kernel_rfl))
    clear H hall hsn
    simp only[List.foldl_cons,List.foldl_nil] at hact
    generalize a'.tmps.getD 72 undef=z72 at *
    generalize a'.tmps.getD 73 undef=z73 at *
    generalize a'.tmps.getD 74 undef=z74 at *
    generalize a'.tmps.getD 75 undef=z75 at *
    generalize a'.tmps.getD 76 undef=z76 at *
    generalize a'.tmps.getD 77 undef=z77 at *
    generalize a'.tmps.getD 13 undef=z13 at *
    subst hact
    have e5:z77 = .agg #[.int .i64 (i1:Int),.int .i64 (i2:Int),.int .i64 y3]:=hd5
    subst e5
    clear hd5
    obtain⟨A,e6,hA,hNA⟩:=hd6
    subst e6
    simp only[Act.put,List.setIfInBounds_toArray,List.set_cons_succ,List.set_cons_zero]
    have HA:=ħ hA
    have HNA:=ħ hNA
    clear hA hNA
    refine Zbn (Zac rfl ?_)
    refine Zab rfl 147 (.tmp 13) (.tmp 77) rfl A #[.int .i64 (i1:Int),.int .i64 (i2:Int),.int .i64 y3] ?s1 ?s2 147 _ HA.o (Zmg _ rfl) rfl (by simp[Value.oneCell']) ?_
    case s1=>rfl
    case s2=>rfl
    intro w9 s9 u9
    have S9:Hid (Zah w9 A 147 [.int .i64 (i1:Int),.int .i64 (i2:Int),.int .i64 y3]):=ħ s9
    have U9:=ħ u9
    clear s9 u9
    have HW9:=ħ (U9.o.below (HW1.o.trans (hb4.o.mono HW1.o.size)) (Nat.le_trans HW1.o.size HNA.o))
    have OT9:=ħ ((OT1.o.below hb4.o).upd U9.o (fun e=>by have:=(OT1.o.blk_lt e).2;have:=HNA.o;omega))
    clear HA hb4 HW1 OT1 U9 Y1 HOF
    go_wp2_with fail
    refine Zaa (Zd1 ?_)
    have q0:=S9.o.cell 0 _ rfl
    by_cases hi1:i1=n
    ·have hb1:((i1:Int)==(n:Int))=true:=by rw[hi1];simp
     rw[if_pos hi1] at HTN
     have HTJ:=HTN
     have hi2n:i2<n:=by omega
     have HVZ:=ħ (fun W (hW:Below w9.heap.size w9 W)=>HG2.o hi2n W (HW9.o.trans (hW.mono HW9.o.size)))
     clear HG1 HG2
     go_upto_region 22 with (fail)
     clear q0
     refine Zc4 11 1 (Z79 tq tn tc g off n vc A i2 z2 y3) (by kernel_rfl) rfl (Zz4 tq tn tc g off n vc A i2 z2 y3) (Ze0 (by kernel_rfl)) (Zh0 (by kernel_rfl)) (Zdi (by kernel_rfl)) (Zgz (by kernel_rfl)) ?hs ?he
     case hs =>
      intro i o hin hi listed a' w' H hsn hl2
      have hl3:=Za9 hl2
      have hb:=ħ H.below
      have s1:=hsn 1 (Zbh (by kernel_rfl))
      have s10:=hsn 10 (Zbh (by kernel_rfl))
      have s13:=hsn 13 (Zbh (by kernel_rfl))
      have hdn:=H.done
      have hdf:=H.defers
      have hts:=H.tsize
      clear hl2 H hsn
      obtain⟨t',df⟩:=a'
      obtain⟨f',rfl⟩:=Zvi t' hts
      have hdf':df=[]:=hdf
      subst hdf'
      have gs1:f' 1 = .slice (some ⟨g,off,none⟩) n vc:=s1
      have gs10:f' 10 = .slice tq tn tc:=s10
      have gs13:f' 13 = .pointer (some ⟨A,0,none⟩):=s13
      clear s1 s10 s13
      clear hdf hts
      have hcases:i=0∨i=1∨i=2∨i=3∨i=4∨i=5∨i=6∨i=7∨i=8∨i=9∨i=10:=Zwq i hin
      clear hin
      rcases hcases with rfl | rfl | rfl | rfl | rfl | rfl | rfl | rfl | rfl | rfl | rfl
      ·obtain rfl:=Option.some.inj hi
       clear hdn hl3
       rw[gs10]
       clear gs1 gs10 gs13
       refine Zac rfl ?_
       go_wp2_with fail
       exact Zaa ⟨_,rfl,Below.refl _ _,rfl⟩
      ·obtain rfl:=Option.some.inj hi
       clear hdn hl3
       rw[gs1]
       clear gs1 gs10 gs13
       refine Zac rfl ?_
       go_wp2_with fail
       exact Zaa ⟨_,rfl,Below.refl _ _,rfl⟩
      ·obtain rfl:=Option.some.inj hi
       clear hdn hl3
       rw[gs13]
       clear gs1 gs10 gs13
       refine Zac rfl ?_
       go_wp2_with fail
       exact Zaa ⟨_,rfl,Below.refl _ _,rfl⟩
      ·obtain rfl:=Option.some.inj hi
       have dv2:f' 85 = .pointer (some ⟨A,1,none⟩):=hdn 2 _ 85 rfl (hl3 2 (by rfl)) rfl
       clear hdn hl3
       rw[dv2]
       clear dv2 gs1 gs10 gs13
       have c0:=(S9.o.step hb.o).cell 1 _ rfl
       refine Zac rfl ?_
       go_wp2_with fail
       exact Zaa ⟨_,rfl,Below.refl _ _,rfl⟩
      ·obtain rfl:=Option.some.inj hi
       have dv1:f' 84 = .slice (some ⟨g,off,none⟩) n vc:=hdn 1 _ 84 rfl (hl3 1 (by rfl)) rfl
       have dv3:f' 86 = .int .i64 (i2:Int):=hdn 3 _ 86 rfl (hl3 3 (by rfl)) rfl
       clear hdn hl3
       rw[dv1,dv3]
       clear dv1 dv3 gs1 gs10 gs13
       have ixl:(i2:Int)<n:=by omega
       refine Zac rfl ?_
       go_wp2_with fail
       exact Zaa ⟨_,rfl,Below.refl _ _,rfl⟩
      ·obtain rfl:=Option.some.inj hi
       have dv4:f' 87 = .pointer (some ⟨g,off+i2,none⟩):=hdn 4 _ 87 rfl (hl3 4 (by rfl)) rfl
       clear hdn hl3
       rw[dv4]
       clear dv4 gs1 gs10 gs13
       have z0:=HVZ.o w' hb.o
       refine Zac rfl ?_
       go_wp2_with fail
       exact Zaa ⟨_,rfl,Below.refl _ _,rfl⟩
      ·obtain rfl:=Option.some.inj hi
       clear hdn hl3
       rw[gs13]
       clear gs1 gs10 gs13
       refine Zac rfl ?_
       go_wp2_with fail
       exact Zaa ⟨_,rfl,Below.refl _ _,rfl⟩
      ·obtain rfl:=Option.some.inj hi
       have dv6:f' 89 = .pointer (some ⟨A,2,none⟩):=hdn 6 _ 89 rfl (hl3 6 (by rfl)) rfl
       clear hdn hl3
       rw[dv6]
       clear dv6 gs1 gs10 gs13
       have c2:=(S9.o.step hb.o).cell 2 _ rfl
       refine Zac rfl ?_
       go_wp2_with fail
       exact Zaa ⟨_,rfl,Below.refl _ _,rfl⟩
      ·obtain rfl:=Option.some.inj hi
       have dv5:f' 88 = .int .i64 z2:=hdn 5 _ 88 rfl (hl3 5 (by rfl)) rfl
       have dv7:f' 90 = .int .i64 y3:=hdn 7 _ 90 rfl (hl3 7 (by rfl)) rfl
       clear hdn hl3
       rw[dv5,dv7]
       clear dv5 dv7 gs1 gs10 gs13
       have e5:IntKind.i64.wrap (z2+y3)=z2+y3:=IntWalk.i64_in _ (by omega)
       refine Zac rfl ?_
       go_wp2_with fail
       exact Zaa ⟨_,rfl,Below.refl _ _,rfl⟩
      ·obtain rfl:=Option.some.inj hi
       have dv8:f' 91 = .int .i64 (z2+y3):=hdn 8 _ 91 rfl (hl3 8 (by rfl)) rfl
       clear hdn hl3
       rw[dv8]
       clear dv8 gs1 gs10 gs13
       have e5:IntKind.i64.wrap (z2+y3+1)=z2+y3+1:=IntWalk.i64_in _ (by omega)
       refine Zac rfl ?_
       go_wp2_with fail
       exact Zaa ⟨_,rfl,Below.refl _ _,rfl⟩
      ·obtain rfl:=Option.some.inj hi
       have dv9:f' 92 = .int .i64 (z2+y3+1):=hdn 9 _ 92 rfl (hl3 9 (by rfl)) rfl
       clear hdn hl3
       rw[dv9]
       clear dv9 gs1 gs10 gs13
       refine Zac rfl ?_
       go_wp2_with fail
       exact Zaa ⟨_,rfl,(Below.refl w'.heap.size w').alloc (Nat.le_refl _) _,w'.heap.size,rfl,heap_alloc_new _ _⟩
     case he =>
      intro listed a' w4 H hsn hall
      have hd0:Z79 tq tn tc g off n vc A i2 z2 y3 0 w4 (a'.tmps.getD 83 undef):=H.done 0 _ 83 rfl (hall 0 (by decide)) rfl
      have hd10:Z79 tq tn tc g off n vc A i2 z2 y3 10 w4 (a'.tmps.getD 93 undef):=H.done 10 _ 93 rfl (hall 10 (by decide)) rfl
      have hb4:=ħ H.below
      have hact:=H.actN hsn [83,84,85,86,87,88,89,90,91,92,93] (Zly (by kernel_rfl))
      clear H hall hsn
      simp only[List.foldl_cons,List.foldl_nil] at hact
      generalize a'.tmps.getD 83 undef=z83 at *
      generalize a'.tmps.getD 84 undef=z84 at *
      generalize a'.tmps.getD 85 undef=z85 at *
      generalize a'.tmps.getD 86 undef=z86 at *
      generalize a'.tmps.getD 87 undef=z87 at *
      generalize a'.tmps.getD 88 undef=z88 at *
      generalize a'.tmps.getD 89 undef=z89 at *
      generalize a'.tmps.getD 90 undef=z90 at *
      generalize a'.tmps.getD 91 undef=z91 at *
      generalize a'.tmps.getD 92 undef=z92 at *
      generalize a'.tmps.getD 93 undef=z93 at *
      subst hact
      have e0:z83 = .slice tq tn tc:=hd0
      subst e0
      clear hd0
      obtain⟨A2,e10,hA2⟩:=hd10
      subst e10
      simp only[Act.put,List.setIfInBounds_toArray,List.set_cons_succ,List.set_cons_zero]
      have HA2:=ħ hA2
      have OT4:=ħ (OT9.o.below hb4.o)
      have HW4:=ħ (HW9.o.trans (hb4.o.mono HW9.o.size))
      clear hA2
      refine Zbn (Zac rfl ?_)
      refine Zzs 60 3 (.int .i64 0) 1 8 Tryz.underlying60 Zd5 rfl (by omega) (by omega) w4 w1.heap.size rfl (.tmp 83) (.tmp 93) rfl tq tc tn ((Zf8 ns v n (M:Int) ks j).flatMap Zcc) rfl OT4.o HW4.o.size A2 1 1 [.int .i64 (z2+y3+1)] 3 rfl HA2.o rfl (by omega) (by simp[Value.oneCell']) (by omega) ?_
      intro g5 off5 c5 w8 ho8 hb8
      have O8:Hid (OwnK w8 w1.heap.size 1 (tn+1) c5 ((Zf8 ns v n (M:Int) ks (j+1)).flatMap Zcc) (some ⟨g5,off5,none⟩)):=ħ (by rw[HTJ.o,List.flatMap_append];exact ho8)
      have B8:=ħ (HW4.o.trans hb8)
      clear ho8 hb8
      go_wp2_with fail
      refine Zaa (Zbn (Zac rfl ?_))
      go_wp2_with fail
      refine Zaa (Zd1 ?_)
      go_wp2_with fail
      go_roundw
      case rel=>exact⟨j+1,tn+1,some ⟨g5,off5,none⟩,c5,by go_num,rfl,by omega,by omega,O8,B8⟩
      case measure=>simp only[intOf];omega
    ·have hb1:((i1:Int)==(n:Int))=false:=by rw[beq_eq_false_iff_ne];omega
     rw[if_neg hi1] at HTN
     have q1:=S9.o.cell 1 _ rfl
     have hi1n:i1<n:=by omega
     by_cases hi2:i2=n
     ·have hb2:((i2:Int)==(n:Int))=true:=by rw[hi2];simp
      rw[if_pos hi2] at HTN
      have HTJ:=HTN
      have HVZ:=ħ (fun W (hW:Below w9.heap.size w9 W)=>HG1.o hi1n W (HW9.o.trans (hW.mono HW9.o.size)))
      clear HG1 HG2
      go_upto_region 24 with (fail)
      clear q0 q1
      refine Zc4 10 1 (Z8a tq tn tc g off n vc A i1 z1 y3) (by kernel_rfl) rfl (Zz5 tq tn tc g off n vc A i1 z1 y3) (Ze0 (by kernel_rfl)) (Zh0 (by kernel_rfl)) (Zdi (by kernel_rfl)) (Zgz (by kernel_rfl)) ?hs ?he
      case hs =>
       intro i o hin hi listed a' w' H hsn hl2
       have hl3:=Za9 hl2
       have hb:=ħ H.below
       have s1:=hsn 1 (Zbh (by kernel_rfl))
       have s10:=hsn 10 (Zbh (by kernel_rfl))
       have s13:=hsn 13 (Zbh (by kernel_rfl))
       have hdn:=H.done
       have hdf:=H.defers
       have hts:=H.tsize
       clear hl2 H hsn
       obtain⟨t',df⟩:=a'
       obtain⟨f',rfl⟩:=Zvi t' hts
       have hdf':df=[]:=hdf
       subst hdf'
       have gs1:f' 1 = .slice (some ⟨g,off,none⟩) n vc:=s1
       have gs10:f' 10 = .slice tq tn tc:=s10
       have gs13:f' 13 = .pointer (some ⟨A,0,none⟩):=s13
       clear s1 s10 s13
       clear hdf hts
       have hcases:i=0∨i=1∨i=2∨i=3∨i=4∨i=5∨i=6∨i=7∨i=8∨i=9:=Zwr i hin
       clear hin
       rcases hcases with rfl | rfl | rfl | rfl | rfl | rfl | rfl | rfl | rfl | rfl
       ·obtain rfl:=Option.some.inj hi
        clear hdn hl3
        rw[gs10]
        clear gs1 gs10 gs13
        refine Zac rfl ?_
        go_wp2_with fail
        exact Zaa ⟨_,rfl,Below.refl _ _,rfl⟩
       ·obtain rfl:=Option.some.inj hi
        clear hdn hl3
        rw[gs1]
        clear gs1 gs10 gs13
        refine Zac rfl ?_
        go_wp2_with fail
        exact Zaa ⟨_,rfl,Below.refl _ _,rfl⟩
       ·obtain rfl:=Option.some.inj hi
        clear hdn hl3
        rw[gs13]
        clear gs1 gs10 gs13
        refine Zac rfl ?_
        go_wp2_with fail
        exact Zaa ⟨_,rfl,Below.refl _ _,rfl⟩
       ·obtain rfl:=Option.some.inj hi
        have dv2:f' 102 = .pointer (some ⟨A,0,none⟩):=hdn 2 _ 102 rfl (hl3 2 (by rfl)) rfl
        clear hdn hl3
        rw[dv2]
        clear dv2 gs1 gs10 gs13
        have c0:=(S9.o.step hb.o).cell 0 _ rfl
        refine Zac rfl ?_
        go_wp2_with fail
        exact Zaa ⟨_,rfl,Below.refl _ _,rfl⟩
       ·obtain rfl:=Option.some.inj hi
        have dv1:f' 101 = .slice (some ⟨g,off,none⟩) n vc:=hdn 1 _ 101 rfl (hl3 1 (by rfl)) rfl
        have dv3:f' 103 = .int .i64 (i1:Int):=hdn 3 _ 103 rfl (hl3 3 (by rfl)) rfl
        clear hdn hl3
        rw[dv1,dv3]
        clear dv1 dv3 gs1 gs10 gs13
        have ixl:(i1:Int)<n:=by omega
        refine Zac rfl ?_
        go_wp2_with fail
        exact Zaa ⟨_,rfl,Below.refl _ _,rfl⟩
       ·obtain rfl:=Option.some.inj hi
        have dv4:f' 104 = .pointer (some ⟨g,off+i1,none⟩):=hdn 4 _ 104 rfl (hl3 4 (by rfl)) rfl
        clear hdn hl3
        rw[dv4]
        clear dv4 gs1 gs10 gs13
        have z0:=HVZ.o w' hb.o
        refine Zac rfl ?_
        go_wp2_with fail
        exact Zaa ⟨_,rfl,Below.refl _ _,rfl⟩
       ·obtain rfl:=Option.some.inj hi
        clear hdn hl3
        rw[gs13]
        clear gs1 gs10 gs13
        refine Zac rfl ?_
        go_wp2_with fail
        exact Zaa ⟨_,rfl,Below.refl _ _,rfl⟩
       ·obtain rfl:=Option.some.inj hi
        have dv6:f' 106 = .pointer (some ⟨A,2,none⟩):=hdn 6 _ 106 rfl (hl3 6 (by rfl)) rfl
        clear hdn hl3
        rw[dv6]
        clear dv6 gs1 gs10 gs13
        have c2:=(S9.o.step hb.o).cell 2 _ rfl
        refine Zac rfl ?_
        go_wp2_with fail
        exact Zaa ⟨_,rfl,Below.refl _ _,rfl⟩
       ·obtain rfl:=Option.some.inj hi
        have dv5:f' 105 = .int .i64 z1:=hdn 5 _ 105 rfl (hl3 5 (by rfl)) rfl
        have dv7:f' 107 = .int .i64 y3:=hdn 7 _ 107 rfl (hl3 7 (by rfl)) rfl
        clear hdn hl3
        rw[dv5,dv7]
        clear dv5 dv7 gs1 gs10 gs13
        have e5:IntKind.i64.wrap (z1-y3)=z1-y3:=IntWalk.i64_in _ (by omega)
        refine Zac rfl ?_
        go_wp2_with fail
        exact Zaa ⟨_,rfl,Below.refl _ _,rfl⟩
       ·obtain rfl:=Option.some.inj hi
        have dv8:f' 108 = .int .i64 (z1-y3):=hdn 8 _ 108 rfl (hl3 8 (by rfl)) rfl
        clear hdn hl3
        rw[dv8]
        clear dv8 gs1 gs10 gs13
        refine Zac rfl ?_
        go_wp2_with fail
        exact Zaa ⟨_,rfl,(Below.refl w'.heap.size w').alloc (Nat.le_refl _) _,w'.heap.size,rfl,heap_alloc_new _ _⟩
      case he =>
       intro listed a' w4 H hsn hall
       have hd0:Z8a tq tn tc g off n vc A i1 z1 y3 0 w4 (a'.tmps.getD 100 undef):=H.done 0 _ 100 rfl (hall 0 (by decide)) rfl
       have hd9:Z8a tq tn tc g off n vc A i1 z1 y3 9 w4 (a'.tmps.getD 109 undef):=H.done 9 _ 109 rfl (hall 9 (by decide)) rfl
       have hb4:=ħ H.below
       have hact:=H.actN hsn [100,101,102,103,104,105,106,107,108,109] (Zly (by kernel_rfl))
       clear H hall hsn
       simp only[List.foldl_cons,List.foldl_nil] at hact
       generalize a'.tmps.getD 100 undef=z100 at *
       generalize a'.tmps.getD 101 undef=z101 at *
       generalize a'.tmps.getD 102 undef=z102 at *
       generalize a'.tmps.getD 103 undef=z103 at *
       generalize a'.tmps.getD 104 undef=z104 at *
       generalize a'.tmps.getD 105 undef=z105 at *
       generalize a'.tmps.getD 106 undef=z106 at *
       generalize a'.tmps.getD 107 undef=z107 at *
       generalize a'.tmps.getD 108 undef=z108 at *
       generalize a'.tmps.getD 109 undef=z109 at *
       subst hact
       have e0:z100 = .slice tq tn tc:=hd0
       subst e0
       clear hd0
       obtain⟨A2,e9,hA2⟩:=hd9
       subst e9
       simp only[Act.put,List.setIfInBounds_toArray,List.set_cons_succ,List.set_cons_zero]
       have HA2:=ħ hA2
       have OT4:=ħ (OT9.o.below hb4.o)
       have HW4:=ħ (HW9.o.trans (hb4.o.mono HW9.o.size))
       clear hA2
       refine Zbn (Zac rfl ?_)
       refine Zzs 60 3 (.int .i64 0) 1 8 Tryz.underlying60 Zd5 rfl (by omega) (by omega) w4 w1.heap.size rfl (.tmp 100) (.tmp 109) rfl tq tc tn ((Zf8 ns v n (M:Int) ks j).flatMap Zcc) rfl OT4.o HW4.o.size A2 1 1 [.int .i64 (z1-y3)] 3 rfl HA2.o rfl (by omega) (by simp[Value.oneCell']) (by omega) ?_
       intro g5 off5 c5 w8 ho8 hb8
       have O8:Hid (OwnK w8 w1.heap.size 1 (tn+1) c5 ((Zf8 ns v n (M:Int) ks (j+1)).flatMap Zcc) (some ⟨g5,off5,none⟩)):=ħ (by rw[HTJ.o,List.flatMap_append];exact ho8)
       have B8:=ħ (HW4.o.trans hb8)
       clear ho8 hb8
       go_wp2_with fail
       refine Zaa (Zbn (Zac rfl ?_))
       go_wp2_with fail
       refine Zaa (Zd1 ?_)
       go_wp2_with fail
       go_roundw
       case rel=>exact⟨j+1,tn+1,some ⟨g5,off5,none⟩,c5,by go_num,rfl,by omega,by omega,O8,B8⟩
       case measure=>simp only[intOf];omega
     ·have hb2:((i2:Int)==(n:Int))=false:=by rw[beq_eq_false_iff_ne];omega
      rw[if_neg hi2] at HTN
      have O9:Hid (OwnK w9 w1.heap.size 1 tn tc ((Zf8 ns v n (M:Int) ks (j+1)).flatMap Zcc) tq):=ħ (by rw[HTN.o,List.append_nil];exact OT9.o)
      clear HG1 HG2 OT9
      go_wp2_with fail
      go_roundw
      case rel=>exact⟨j+1,tn,tq,tc,by go_num,rfl,by omega,by omega,O9,HW9⟩
      case measure=>simp only[intOf];omega
  ·have jj:¬ ((j:Int)<m):=by omega
   obtain rfl:j=m:=by omega
   have HU:Hid (Zf8 ns v n (M:Int) ks j=Zeb ns v n (M:Int) ks):=ħ (Zwn (by rw[HM.o];exact Nat.le_refl _))
   have hto2:=hto.o
   rw[HU.o] at hto2
   have htl:tn=(Zeb ns v n (M:Int) ks).length:=by have:=hto2.count;rw[Zbd Zcc 1 Zbs] at this;omega
   have htl2:2≤(Zeb ns v n (M:Int) ks).length:=by unfold Zeb;rw[List.length_append];simp
   obtain⟨g5,off5,htq,hg5B,hg5l,-⟩:=hto2.readsAt (by omega)
   subst htq
   have HX2:=ħ (X1.o.step hw.o)
   have HD2:=ħ (D1.o.step hw.o)
   have HXN:Hid (w.heap.size≠g5∧D≠g5):=ħ ⟨by have:=X1.o.lt;omega,by have:=Zah.lt D1.o.prob;omega⟩
   have egd:∀ args w,(callFunc 193 args).run Tryz.prog w = .ok (.enter 193 args) w:=enters_of Tryz.func193 (by kernel_rfl) rfl
   have HDL:=ħ (Z3q wr w1.heap.size tc tn g5 off5 (Zeb ns v n (M:Int) ks) htl hto2 (by omega) 193 #[.pointer (some ⟨w.heap.size,0,none⟩)] (fun x=>!inT (M:Int) x) egd (fun W x hW=>Z3w W w.heap.size D ao n cp (M:Int) (.slice po pn pc) (.slice ro ks.length rc) x ((hW.block _ HX2.o.lt HXN.o.1).trans HX2.o) ((hW.block _ (Zah.lt HD2.o.prob) HXN.o.2).trans HD2.o.prob) (by omega)))
   have HFL:Hid ((Zeb ns v n (M:Int) ks).filter (fun x=>!!inT (M:Int) x)=(Zeb ns v n (M:Int) ks).filter (inT (M:Int))):=ħ (by simp only[Bool.not_not])
   rw[HFL.o] at HDL
   have HTP:Hid (Zcf ns v n (M:Int) ks=((Zeb ns v n (M:Int) ks).filter (inT (M:Int))).mergeSort leI):=ħ rfl
   have HTL:=ħ (Zzx ns v n (M:Int) (by omega) ks)
   have HTG:=ħ (fun i hi=>Zzw (ns:=ns) (v:=v) (at':=n) (most:=(M:Int)) (ks:=ks) i hi)
   have HTM:=ħ (fun t ht=>((Zg2 ns v n (M:Int) ks t).1 ht).2)
   have HSS:=ħ (Zzv (fun x=>Zav (fK ns (gv (v++[x]))) p) (Zcf ns v n (M:Int) ks))
   rw[HS.o] at HSS
   obtain⟨FL,hFL⟩:∃ L,(Zeb ns v n (M:Int) ks).filter (inT (M:Int))=L:=⟨_,rfl⟩
   rw[hFL] at HDL HTP
   obtain⟨TL,hTL⟩:∃ L,Zcf ns v n (M:Int) ks=L:=⟨_,rfl⟩
   rw[hTL] at HTP HTL HTG HTM HSS
   obtain⟨N1,hN1⟩:∃ N1,FL.length=N1+1:=⟨FL.length-1,by have h:=HTL.o.1;rw[HTP.o,List.length_mergeSort] at h;omega⟩
   have HNT:Hid (TL.length=N1+1):=ħ (by rw[HTP.o,List.length_mergeSort,hN1])
   have HNF:=ħ hN1
   have hN10:N1≤9:=by have h:=HTL.o.2;rw[HNT.o,HM.o] at h;omega
   have HSB:=ħ (fun i hi=>Zrh (g:=fun x=>Zav (fK ns (gv (v++[x]))) p) (L:=TL) (M:=65536) (by omega) (fun i hi=>by have:=HTG.o i hi;omega) i hi)
   rw[HNT.o] at HSB HTG HSS
   have hs1:N1+1-1=N1:=by omega
   rw[hs1] at HSS
   have hw1:=ħ hw.o
   clear hs1 hFL hTL hto hto2 htl htl2 hg5l htn HFL HTL HU hw HKNW
   rw[hN1] at HDL
   clear hN1
   go_wp2_with fail
   refine HDL.o.mono ?_
   rintro e w5 ⟨rfl,ho5,on5⟩
   have O5:=ħ ho5
   have B5:=ħ (Only.later hw1.o on5 (fun x hx=>by rw[hx];exact hg5B))
   clear ho5 on5 HDL hw1 HX2 HD2
   have HST:=ħ (Zzt w5 w1.heap.size (N1+1) tc g5 off5 FL HNF.o.symm O5.o (by omega))
   rw[← HTP.o] at HST
   clear O5 HTP HNF
   go_wp2_with fail
   refine HST.o.mono ?_
   rintro e w6 ⟨rfl,ho6,on6⟩
   have O6:=ħ ho6
   have B6:=ħ (Only.later B5.o on6 (fun x hx=>by rw[hx];exact hg5B))
   clear ho6 on6 HST B5
   have hcap:=O6.o.len_le.1
   have FT:=ħ (O6.o.flatR Zbs HNT.o.symm)
   have eN:IntKind.i64.wrap (((N1+1:Nat):Int)-1)=(N1:Int):=by
    rw[show (((N1+1:Nat):Int)-1)=(N1:Int) by omega]
    exact IntWalk.i64_in _ (by omega)
   have eN2:IntKind.i64.wrap (((N1:Int)+1)-1)=(N1:Int):=by
    rw[show (((N1:Int)+1)-1)=(N1:Int) by omega]
    exact IntWalk.i64_in _ (by omega)
   have c1:(0:Int)≤(N1:Int):=by omega
   have c2:(N1:Int)≤(tc:Int):=by omega
   clear O6
   go_wp2_with fail
   clear eN eN2 c1 c2
   have egs:∀ args w,(callFunc 189 args).run Tryz.prog w = .ok (.enter 189 args) w:=enters_of Tryz.func189 (by kernel_rfl) rfl
   go_loopw [7,123] (fun sv iv wr=>∃ (i:Nat) (s:Int),iv = .int .i64 i∧sv = .int .i64 s∧i≤N1∧Hid (s=Zhs (fun x=>Zav (fK ns (gv (v++[x]))) p) TL i)∧Hid (Below w6.heap.size w6 wr)) (fun _ i _=>(N1-intOf i).toNat)
   case atStart=>exact⟨0,0,rfl,rfl,by omega,ħ rfl,ħ (Below.refl _ _)⟩
   case round =>
    obtain⟨i,s,rfl,rfl,hi,hs,hw⟩:=hrel
    have e2:IntKind.i64.wrap ((i:Int)+1)=((i+1:Nat):Int):=IntWalk.i64_in _ (by omega)
    have hsb:=HSB.o i (by omega)
    rw[← hs.o] at hsb
    by_cases hil:i<N1
    ·have ii:(i:Int)<N1:=by omega
     have i1:((i+1:Nat):Int)<((N1+1:Nat):Int):=by omega
     have i1':(i:Int)+1<(N1:Int)+1:=by omega
     have HT1:=Zg7 (show i<TL.length by rw[HNT.o];omega)
     have HT2:=Zg7 (show i+1<TL.length by rw[HNT.o];omega)
     have ht1:=HTM.o _ (List.mem_of_getElem? HT1)
     have hgap:=HTG.o i (by omega)
     have HSN:Hid (Zhs (fun x=>Zav (fK ns (gv (v++[x]))) p) TL (i+1)=s+(if Zav (fK ns (gv (v++[gv TL i]))) p=true then gv TL (i+1)-gv TL i else 0)):=ħ (by rw[hs.o];rfl)
     obtain⟨ga,oa,hga,hgl1,t0⟩:=(FT.o.below hw.o).int i _ HT1
     obtain⟨gb,ob,hgb,hgl2,t1⟩:=(FT.o.below hw.o).int (i+1) _ HT2
     cases hga
     cases hgb
     have B8:=ħ (B6.o.trans (hw.o.mono B6.o.size))
     have HVW:=ħ (HV1.o.of_block (B8.o.block g HGL.o))
     have HGW:=ħ (Nat.lt_of_lt_of_le HGL.o B8.o.size)
     have HVV:Hid (∀ z,0≤gv (v++[gv TL i]) z∧gv (v++[gv TL i]) z≤100000):=ħ (fun z=>by
      have h:=HVB.o z
      rw[Zjs]
      split
      ·omega
      ·split<;>omega)
     have HIS:=ħ (fun W (hW:Below w1.heap.size w1 W) va vcap (hf:Za7 Zcc W va (v++[gv TL i]))=>Z3v W P w.heap.size D ns ao n cp (M:Int) ps p po pn pc ks ro rc va (n+1) vcap (v++[gv TL i]) (X1.o.step hW) (D1.o.step hW) HP.o HPN.o HPK.o HPC.o hf (by rw[List.length_append,HVL.o];rfl) (by rw[List.length_append,HVL.o];rfl) HVV.o)
     have HFV:Hid ((v++[gv TL i]).flatMap Zcc=v.flatMap Zcc++[.int .i64 (gv TL i)]):=ħ (by rw[List.flatMap_append];rfl)
     have HVF:Hid ((v.flatMap Zcc).length=n*1):=ħ (by rw[Zbd Zcc 1 Zbs,HVL.o])
     have HVS:Hid ((v++[gv TL i]).length=n+1):=ħ (by rw[List.length_append,HVL.o];rfl)
     obtain⟨tv,htv⟩:∃ b,Zav (fK ns (gv (v++[gv TL i]))) p=b:=⟨_,rfl⟩
     rw[htv] at HSN HIS
     clear HT1 HT2 HVV htv
     generalize v++[gv TL i]=vx at *
     generalize v.flatMap Zcc=vf at *
     generalize gv TL i=z1 at *
     generalize gv TL (i+1)=z2 at *
     have HCP:=ħ (Zrg wr g off n vc hvc hvm)
     go_wp2_with fail
     refine HCP.o.mono ?_
     rintro e w7 ⟨rfl,rfl⟩
     have bq:=(Below.refl w7.heap.size w7).alloc (Nat.le_refl _) (.cells #[.int .i64 z1] 3)
     have AX:Hid (Zah (w7.alloc (.cells #[.int .i64 z1] 3)) w7.heap.size 3 [.int .i64 z1]):=ħ (heap_alloc_new _ _)
     have BQ:=ħ bq
     have t0':=(World.cell?_of_block (a:=⟨g5,off5+i,none⟩) (bq.block g5 hgl1)).trans t0
     have t1':=(World.cell?_of_block (a:=⟨g5,off5+(i+1),none⟩) (bq.block g5 hgl1)).trans t1
     clear bq HCP
     go_wp2_with (at_builtin;refine Zvd 60 3 (.int .i64 0) 1 8 Tryz.underlying60 Zd5 rfl (by omega) (by omega) _ rfl (.tmp 130) (.tmp 132) rfl g off n vf rfl HVF.o (HVW.o.of_block (BQ.o.block g HGW.o)) w7.heap.size 1 1 [.int .i64 z1] 3 rfl AX.o rfl (by omega) (by simp[Value.oneCell']) (by omega) ?_;intro g8 cap8 w8 o8 b8;have O8:=ħ o8;have B88:=ħ (BQ.o.trans (b8.mono BQ.o.size));clear o8 b8)
     have HQ:=ħ (HIS.o w8 (B8.o.trans (B88.o.mono B8.o.size)) (some ⟨g8,0,none⟩) cap8 (by have h:=O8.o;rw[← HFV.o] at h;exact h.flatR Zbs HVS.o.symm))
     have t2':=(World.cell?_of_block (a:=⟨g5,off5+(i+1),none⟩) (B88.o.block g5 hgl1)).trans t1
     have HW8:=ħ (hw.o.trans (B88.o.mono hw.o.size))
     have hgl8:g5<w8.heap.size:=Nat.lt_of_lt_of_le hgl1 B88.o.size
     clear t0' t1' t0 t1 AX BQ O8 HIS B88 B8 hw HVW HGW
     go_wp2_with fail
     refine HQ.o.mono ?_
     rintro e w9 ⟨rfl,b9⟩
     have t3':=(World.cell?_of_block (a:=⟨g5,off5+(i+1),none⟩) (b9.block g5 hgl8)).trans t2'
     have HW9:=ħ (HW8.o.trans (b9.mono HW8.o.size))
     clear b9 HQ t2' HW8
     cases tv with
     | false =>
      have HS2:Hid (s=Zhs (fun x=>Zav (fK ns (gv (v++[x]))) p) TL (i+1)):=ħ (by rw[HSN.o];simp)
      go_wp2_with fail
      go_roundw
      case rel=>exact⟨i+1,s,by go_num,rfl,by omega,HS2,HW9⟩
      case measure=>simp only[intOf];omega
     | true =>
      have HS2:Hid (s+(z2-z1)=Zhs (fun x=>Zav (fK ns (gv (v++[x]))) p) TL (i+1)):=ħ (by rw[HSN.o];simp)
      have e6:IntKind.i64.wrap (z2-z1)=z2-z1:=IntWalk.i64_in _ (by omega)
      have e7:IntKind.i64.wrap (s+(z2-z1))=s+(z2-z1):=IntWalk.i64_in _ (by omega)
      go_wp2_with fail
      go_roundw
      case rel=>exact⟨i+1,s+(z2-z1),by go_num,rfl,by omega,HS2,HW9⟩
      case measure=>simp only[intOf];omega
    ·have ii:¬ ((i:Int)<N1):=by omega
     have HE:Hid (S=s):=ħ (by rw[HSS.o,hs.o,show i=N1 by omega])
     have B9:=ħ (B1.o.trans ((B6.o.trans (hw.o.mono B6.o.size)).mono B1.o.size))
     go_wp2
     go_ret
     exact⟨Za2 HE.o.symm,B9.o⟩
end
section
open Go.RowKit Go.Sort
theorem Zz6 (f:List Int→Bool) (M:Nat):∀ (r:Nat) (v:List Int),Zis f M r v≤(M+1)^r
 | 0,v=>by unfold Zis;split<;>simp
 | r+1,v=>by
  have h:∀ m,Zis.sumA (fun x=>Zis f M r (v++[(x:Int)])) m≤m*(M+1)^r:=by
   intro m
   induction m with
   | zero=>simp[Zis.sumA]
   | succ m ih =>
    unfold Zis.sumA
    have:=Zz6 f M r (v++[(m:Int)])
    rw[Nat.add_mul,Nat.one_mul]
    omega
  unfold Zis
  have:=h (M+1)
  rw[Nat.pow_succ,Nat.mul_comm]
  exact this
theorem Z60 (f:List Int→Bool) (M r:Nat) (v:List Int) (m:Nat):Zis.sumA (fun x=>Zis f M r (v++[(x:Int)])) m≤m*(M+1)^r:=by
 induction m with
 | zero=>simp[Zis.sumA]
 | succ m ih =>
  unfold Zis.sumA
  have:=Zz6 f M r (v++[(m:Int)])
  rw[Nat.add_mul,Nat.one_mul]
  omega
theorem Zz7 (i:Nat) (h:i<9):i=0∨i=1∨i=2∨i=3∨i=4∨i=5∨i=6∨i=7∨i=8:=by omega
def cnF (D g off vn vc x cc:Nat) (acc:Int) (vf:List Value) (i:Nat) (W:World) (v:Value):Prop:=match i with
 | 0=>v = .int .i64 acc
 | 1=>v = .pointer (some ⟨D,0,none⟩)
 | 2=>v = .slice (some ⟨g,off,none⟩) vn vc
 | 3=>v = .slice (some ⟨g,off,none⟩) vn vn
 | 4=>v = .int .i64 (x:Int)
 | 5=>∃ A2,v = .slice (some ⟨A2,0,none⟩) 1 1∧Zah W A2 3 [.int .i64 (x:Int)]
 | 6=>∃ g8 cap8,v = .slice (some ⟨g8,0,none⟩) (vn+1) cap8∧vn+1≤cap8∧cap8≤maxLen∧g8<W.heap.size∧Za3 W g8 0 (vf++[.int .i64 (x:Int)])
 | 7=>v = .int .i64 (cc:Int)
 | 8=>v = .int .i64 (acc+(cc:Int))
 | _=>True
theorem Z3y (D g off vn vc x cc:Nat) (acc:Int) (vf:List Value):∀ i w w' v,cnF D g off vn vc x cc acc vf i w v→Below w.heap.size w w'→cnF D g off vn vc x cc acc vf i w' v:=by
 intro i w w' v h hb
 match i with
 | 0=>exact h
 | 1=>exact h
 | 2=>exact h
 | 3=>exact h
 | 4=>exact h
 | 5=>obtain⟨A2,h1,h2⟩:=h;exact⟨A2,h1,h2.step hb⟩
 | 6=>obtain⟨g8,cap8,h1,h2,h3,h4,h5⟩:=h;exact⟨g8,cap8,h1,h2,h3,Nat.lt_of_lt_of_le h4 hb.size,h5.of_block (hb.block g8 h4)⟩
 | 7=>exact h
 | 8=>exact h
 | k+9=>trivial
theorem Zrn (P:Nat→Prop) (D:Nat) (ns:List (List Nat)) (ao:Option Addr) (n cp M:Nat) (ps:List Prd) (p:Prd) (po:Option Addr) (pn pc:Nat) (ro:Option Addr) (rc:Nat)
  (hp:ps[0]?=some p) (hpn:pn=ps.length) (hpk:∀ k∈Zcl p,Znj ns k) (hpc:Za8 p≤1000000) (hkc:∀ k∈Zak ps,Znj ns k) (hk8:(Zak ps).length≤8) (hM:M≤65535) (hB:(M+1)^n≤1099511627776) :
  ∀ (r:Nat) (w:World) (g off vc:Nat) (v:List Int),DecR w P D ns ao n cp (M:Int) ps po pn pc (Zak ps) ro rc→v.length+r=n→1≤v.length→Za3 w g off (v.flatMap Zcc)→g<w.heap.size→v.length≤vc→vc≤maxLen→(∀ i,0≤gv v i∧gv v i≤65536) →
  Calls Tryz.prog 130 #[.pointer (some ⟨D,0,none⟩),.slice (some ⟨g,off,none⟩) v.length vc] w fun e w'=>e = .returned (.int .i64 (Zis (fun u=>Zav (fK ns (gv u)) p) M (r+1) v:Nat))∧Below w.heap.size w w'
 | 0,w,g,off,vc,v,hd,hr,h1,hv,hgl,hvc,hvm,hvb=>by
  have hvl:v.length=n:=by omega
  have hkn:∀ k∈Zak ps,Zsr k=false:=fun k hk=>((Zip _ k).1 hk).1
  have hcn:=hd.spc.cnt
  have hl:=Zyx (ns:=ns) (ps:=ps) (p:=p) (List.mem_of_getElem? hp) (fun k hk=>(hkc k hk).2.1) (v:=v) (by rw[hvl,hcn]) M
  rw[← hl,← hcn,hvl]
  rw[hvl] at hvc
  exact Z3x w P D ns ao n cp M ps p po pn pc (Zak ps) ro rc g off vc v hd hp hpn hpk hpc hkc hkn hk8 hM (by omega) hv hgl hvl hvc hvm hvb
 | r+1,w,g,off,vc,v,hd,hr,h1,hv,hgl,hvc,hvm,hvb=>by
  have hn100:n≤100:=hd.spc.big
  have bx:=(Below.refl w.heap.size w).alloc (Nat.le_refl _) (.cells #[.pointer (some ⟨D,0,none⟩)] 151)
  have B1:=ħ bx
  have D1:=ħ (hd.step bx)
  have X1:Hid (Zah (w.alloc (.cells #[.pointer (some ⟨D,0,none⟩)] 151)) w.heap.size 151 [.pointer (some ⟨D,0,none⟩)]):=ħ (heap_alloc_new w _)
  have HV1:=ħ (hv.of_block (bx.block g hgl))
  have HGL:=ħ (Nat.lt_of_lt_of_le hgl bx.size)
  have HIH0:=ħ (fun W (hW:Below (w.alloc (.cells #[.pointer (some ⟨D,0,none⟩)] 151)).heap.size (w.alloc (.cells #[.pointer (some ⟨D,0,none⟩)] 151)) W) (x:Nat) (hx:x≤M) (g8 cap8:Nat) (h1:g8<W.heap.size) (h2:v.length+1≤cap8) (h3:cap8≤maxLen) (h4:Za3 W g8 0 ((v++[(x:Int)]).flatMap Zcc))=>Zrn P D ns ao n cp M ps p po pn pc ro rc hp hpn hpk hpc hkc hk8 hM hB r W g8 0 cap8 (v++[(x:Int)]) ((hd.step bx).step hW) (by rw[List.length_append];simp;omega) (by rw[List.length_append];simp) h4 h1 (by rw[List.length_append];exact h2) h3 (fun i=>by
   have:=hvb i
   rw[Zjs]
   split
   ·omega
   ·split<;>omega))
  obtain⟨F,hF⟩:∃ F:Nat→Nat,F=fun (x:Nat)=>Zis (fun u=>Zav (fK ns (gv u)) p) M (r+1) (v++[(x:Int)]):=⟨_,rfl⟩
  have HFX:Hid (∀ x:Nat,F x=Zis (fun u=>Zav (fK ns (gv u)) p) M (r+1) (v++[(x:Int)])):=ħ (fun x=>by rw[hF])
  have HSA:Hid (Zis (fun u=>Zav (fK ns (gv u)) p) M (r+1+1) v=Zis.sumA F (M+1)):=ħ (by rw[hF];rfl)
  have HSB:Hid (∀ m,m≤M+1→Zis.sumA F m≤1099511627776):=ħ (fun m hm=>by
   rw[hF]
   refine Nat.le_trans (Z60 _ M (r+1) v m) (Nat.le_trans ?_ hB)
   have h2:m*(M+1)^(r+1)≤(M+1)*(M+1)^(r+1):=Nat.mul_le_mul_right _ hm
   refine Nat.le_trans h2 ?_
   rw[Nat.mul_comm,← Nat.pow_succ]
   exact Nat.pow_le_pow_right (by omega) (by omega))
  rw[HSA.o]
  obtain⟨vn,hvn⟩:∃ vn,v.length=vn:=⟨_,rfl⟩
  have HVF:Hid ((v.flatMap Zcc).length=vn*1):=ħ (by rw[Zbd Zcc 1 Zbs,hvn])
  have HVA:Hid (∀ x:Nat,(v++[(x:Int)]).length=vn+1∧(v++[(x:Int)]).flatMap Zcc=v.flatMap Zcc++[.int .i64 (x:Int)]):=ħ (fun x=>⟨by rw[List.length_append,hvn];rfl,by rw[List.flatMap_append];rfl⟩)
  rw[hvn] at hr h1 hvc HIH0 ⊢
  have n1:¬ ((n:Int)<(vn:Int)):=by omega
  have n2:(vn:Int)<(n:Int):=by omega
  have eM:IntKind.i64.wrap ((M:Int)+1)=(M:Int)+1:=IntWalk.i64_in _ (by omega)
  clear bx hd hp hpn hpk hpc hkc hk8 hB hv hgl hvb hF HSA hvn
  go_enter Tryz.func130,Tryz.ntmps130
  go_upto_region 4 with (fail)
  generalize w.alloc (.cells #[.pointer (some ⟨D,0,none⟩)] 151)=w1 at *
  have x0:=X1.o.cell 0 _ rfl
  have d0:=Zah.cell D1.o.prob 0 _ rfl
  have d1:=Zah.cell D1.o.prob 1 _ rfl
  go_wp2_with fail
  clear x0 d0 d1 n1 n2 eM
  go_loopw [7,42] (fun sv iv wr=>∃ (x:Nat),iv = .int .i64 x∧sv = .int .i64 ((Zis.sumA F x:Nat):Int)∧x≤M+1∧Hid (Below w1.heap.size w1 wr)) (fun _ i _=>(M+1-intOf i).toNat)
  case atStart=>exact⟨0,rfl,rfl,by omega,ħ (Below.refl _ _)⟩
  case round =>
   obtain⟨x,rfl,rfl,hx,hw⟩:=hrel
   have e2:IntKind.i64.wrap ((x:Int)+1)=((x+1:Nat):Int):=IntWalk.i64_in _ (by omega)
   by_cases hxl:x<M+1
   ·have ii:(x:Int)<(M:Int)+1:=by omega
    have HSN:Hid (((Zis.sumA F (x+1):Nat):Int)=((Zis.sumA F x:Nat):Int)+((F x:Nat):Int)):=ħ (by rw[Zis.sumA];omega)
    have hs1:=HSB.o (x+1) (by omega)
    have hs0:=HSB.o x (by omega)
    have hs3:=HSN.o
    have HIH:=ħ (fun W (hW:Below w1.heap.size w1 W) (g8 cap8:Nat) (h1:g8<W.heap.size) (h2:vn+1≤cap8) (h3:cap8≤maxLen) (h4:Za3 W g8 0 (v.flatMap Zcc++[.int .i64 (x:Int)]))=>HIH0.o W hW x (by omega) g8 cap8 h1 h2 h3 (by rw[(HVA.o x).2];exact h4))
    rw[(HVA.o x).1] at HIH
    have HFE:=HFX.o x
    rw[← HFE] at HIH
    have HVR:=ħ (fun W (hW:Below w1.heap.size w1 W)=>HV1.o.of_block (hW.block g HGL.o))
    clear HFE
    generalize F x=cc at *
    obtain⟨acc,hacc⟩:∃ a:Int,((Zis.sumA F x:Nat):Int)=a:=⟨_,rfl⟩
    rw[hacc] at HSN hs3 ⊢
    have ha0:0≤acc∧acc≤1099511627776:=by omega
    have hc0:cc≤1099511627776:=by omega
    clear hs1 hs0 hs3 hacc
    generalize v.flatMap Zcc=vf at *
    go_upto_region 13 with (fail)
    refine Zc4 9 0 (cnF D g off vn vc x cc acc vf) (by kernel_rfl) rfl (Z3y D g off vn vc x cc acc vf) (Ze0 (by kernel_rfl)) (Zh0 (by kernel_rfl)) (Zdi (by kernel_rfl)) (Zgz (by kernel_rfl)) ?hs ?he
    case hs =>
     intro i o hin hi listed a' w' H hsn hl2
     have hl3:=Za9 hl2
     have hb:=ħ H.below
     have s1:=hsn 1 (Zbh (by kernel_rfl))
     have s2:=hsn 2 (Zbh (by kernel_rfl))
     have s7:=hsn 7 (Zbh (by kernel_rfl))
     have s9:=hsn 9 (Zbh (by kernel_rfl))
     have hdn:=H.done
     have hdf:=H.defers
     have hts:=H.tsize
     clear hl2 H hsn
     obtain⟨t',df⟩:=a'
     obtain⟨f',rfl⟩:=Zvi t' hts
     have hdf':df=[]:=hdf
     subst hdf'
     have gs1:f' 1 = .slice (some ⟨g,off,none⟩) vn vc:=s1
     have gs2:f' 2 = .pointer (some ⟨w.heap.size,0,none⟩):=s2
     have gs7:f' 7 = .int .i64 acc:=s7
     have gs9:f' 9 = .int .i64 (x:Int):=s9
     clear s1 s2 s7 s9
     clear hdf hts
     have hcases:i=0∨i=1∨i=2∨i=3∨i=4∨i=5∨i=6∨i=7∨i=8:=Zz7 i hin
     clear hin
     rcases hcases with rfl | rfl | rfl | rfl | rfl | rfl | rfl | rfl | rfl
     ·obtain rfl:=Option.some.inj hi
      clear hdn hl3
      rw[gs7]
      clear gs1 gs2 gs7 gs9
      refine Zac rfl ?_
      go_wp2_with fail
      exact Zaa ⟨_,rfl,Below.refl _ _,rfl⟩
     ·obtain rfl:=Option.some.inj hi
      clear hdn hl3
      rw[gs2]
      clear gs1 gs2 gs7 gs9
      have x0:=(X1.o.step (hw.o.trans (hb.o.mono hw.o.size))).cell 0 _ rfl
      refine Zac rfl ?_
      go_wp2_with fail
      exact Zaa ⟨_,rfl,Below.refl _ _,rfl⟩
     ·obtain rfl:=Option.some.inj hi
      clear hdn hl3
      rw[gs1]
      clear gs1 gs2 gs7 gs9
      refine Zac rfl ?_
      go_wp2_with fail
      exact Zaa ⟨_,rfl,Below.refl _ _,rfl⟩
     ·obtain rfl:=Option.some.inj hi
      have dv2:f' 47 = .slice (some ⟨g,off,none⟩) vn vc:=hdn 2 _ 47 rfl (hl3 2 (by rfl)) rfl
      clear hdn hl3
      rw[dv2]
      clear dv2 gs1 gs2 gs7 gs9
      refine Zac rfl ?_
      go_wp2_with fail
      refine (Zrg w' g off vn vc hvc hvm).mono ?_
      rintro e w4 ⟨rfl,e4⟩
      subst e4
      go_wp2_with fail
      exact Zaa ⟨_,rfl,Below.refl _ _,rfl⟩
     ·obtain rfl:=Option.some.inj hi
      clear hdn hl3
      rw[gs9]
      clear gs1 gs2 gs7 gs9
      refine Zac rfl ?_
      go_wp2_with fail
      exact Zaa ⟨_,rfl,Below.refl _ _,rfl⟩
     ·obtain rfl:=Option.some.inj hi
      have dv4:f' 49 = .int .i64 (x:Int):=hdn 4 _ 49 rfl (hl3 4 (by rfl)) rfl
      clear hdn hl3
      rw[dv4]
      clear dv4 gs1 gs2 gs7 gs9
      refine Zac rfl ?_
      go_wp2_with fail
      exact Zaa ⟨_,rfl,(Below.refl w'.heap.size w').alloc (Nat.le_refl _) _,w'.heap.size,rfl,heap_alloc_new _ _⟩
     ·obtain rfl:=Option.some.inj hi
      have dv3:f' 48 = .slice (some ⟨g,off,none⟩) vn vn:=hdn 3 _ 48 rfl (hl3 3 (by rfl)) rfl
      have dv5:cnF D g off vn vc x cc acc vf 5 w' (f' 50):=hdn 5 _ 50 rfl (hl3 5 (by rfl)) rfl
      obtain⟨A2,dv5,hA2⟩:=dv5
      clear hdn hl3
      rw[dv3,dv5]
      clear dv3 dv5 gs1 gs2 gs7 gs9
      have HA2:=ħ hA2
      clear hA2
      refine Zac rfl ?_
      refine Zvd 60 3 (.int .i64 0) 1 8 Tryz.underlying60 Zd5 rfl (by omega) (by omega) w' rfl (.tmp 48) (.tmp 50) rfl g off vn vf rfl HVF.o (HVR.o w' (hw.o.trans (hb.o.mono hw.o.size))) A2 1 1 [.int .i64 (x:Int)] 3 rfl HA2.o rfl (by omega) (by simp[Value.oneCell']) (by omega) ?_
      intro g8 cap8 w8 o8 b8
      obtain⟨r1,r2,r3,r4⟩:=o8.reads
      exact wpList_nil (Zaa ⟨_,rfl,b8,g8,cap8,rfl,o8.len_le.1,o8.len_le.2,r2,r1⟩)
     ·obtain rfl:=Option.some.inj hi
      have dv1:f' 46 = .pointer (some ⟨D,0,none⟩):=hdn 1 _ 46 rfl (hl3 1 (by rfl)) rfl
      have dv6:cnF D g off vn vc x cc acc vf 6 w' (f' 51):=hdn 6 _ 51 rfl (hl3 6 (by rfl)) rfl
      obtain⟨g8,cap8,dv6,hc1,hc2,hg8,hr8⟩:=dv6
      clear hdn hl3
      rw[dv1,dv6]
      clear dv1 dv6 gs1 gs2 gs7 gs9
      have HR8:=ħ hr8
      have HG8:=ħ hg8
      clear hr8 hg8
      have HCQ:=ħ (HIH.o w' (hw.o.trans (hb.o.mono hw.o.size)) g8 cap8 HG8.o hc1 hc2 HR8.o)
      refine Zac rfl ?_
      go_wp2_with fail
      refine HCQ.o.mono ?_
      rintro e w4 ⟨rfl,b4⟩
      have HB4:=ħ b4
      clear b4 HCQ
      go_wp2_with fail
      exact Zaa ⟨_,rfl,HB4.o,rfl⟩
     ·obtain rfl:=Option.some.inj hi
      have dv0:f' 45 = .int .i64 acc:=hdn 0 _ 45 rfl (hl3 0 (by rfl)) rfl
      have dv7:f' 52 = .int .i64 (cc:Int):=hdn 7 _ 52 rfl (hl3 7 (by rfl)) rfl
      clear hdn hl3
      rw[dv0,dv7]
      clear dv0 dv7 gs1 gs2 gs7 gs9
      have e5:IntKind.i64.wrap (acc+(cc:Int))=acc+(cc:Int):=IntWalk.i64_in _ (by omega)
      refine Zac rfl ?_
      go_wp2_with fail
      exact Zaa ⟨_,rfl,Below.refl _ _,rfl⟩
    case he =>
     intro listed a' w4 H hsn hall
     have hd8:cnF D g off vn vc x cc acc vf 8 w4 (a'.tmps.getD 53 undef):=H.done 8 _ 53 rfl (hall 8 (by decide)) rfl
     have hb4:=ħ H.below
     have hact:=H.actN hsn [45,46,47,48,49,50,51,52,53] (Zly (by kernel_rfl))
     clear H hall hsn
     simp only[List.foldl_cons,List.foldl_nil] at hact
     generalize a'.tmps.getD 45 undef=z45 at *
     generalize a'.tmps.getD 46 undef=z46 at *
     generalize a'.tmps.getD 47 undef=z47 at *
     generalize a'.tmps.getD 48 undef=z48 at *
     generalize a'.tmps.getD 49 undef=z49 at *
     generalize a'.tmps.getD 50 undef=z50 at *
     generalize a'.tmps.getD 51 undef=z51 at *
     generalize a'.tmps.getD 52 undef=z52 at *
     generalize a'.tmps.getD 53 undef=z53 at *
     subst hact
     have e8:z53 = .int .i64 (acc+(cc:Int)):=hd8
     subst e8
     clear hd8
     simp only[Act.put,List.setIfInBounds_toArray,List.set_cons_succ,List.set_cons_zero]
     have HW4:=ħ (hw.o.trans (hb4.o.mono hw.o.size))
     refine Zbn (Zac rfl ?_)
     go_wp2_with fail
     refine Zaa (Zd1 ?_)
     go_wp2_with fail
     go_roundw
     case rel=>exact⟨x+1,by go_num,by rw[HSN.o],by omega,HW4⟩
     case measure=>simp only[intOf];omega
   ·have ii:¬ ((x:Int)<(M:Int)+1):=by omega
    obtain rfl:x=M+1:=by omega
    have B9:=ħ (B1.o.trans (hw.o.mono B1.o.size))
    go_wp2
    go_ret
    exact⟨rfl,B9.o⟩
end
section
open Go.RowKit Go.Sort
def cntP' (ns:List (List Nat)) (most:Int) (p:Prd):Nat:=Zis (fun u=>Zav (fK ns (gv u)) p) most.toNat ns.length [0]
def Z17 (w:World) (c:Int) (k:Nat) (e:Ending) (w':World):Prop:=e = .returned (.tuple #[.int .i64 (if c=0 then (k:Int) else 0),.int .i64 c])∧Below w.heap.size w w'
theorem Z3z {M n:Nat} (hM:M≤255) (hn:n≤3):(M+1)^n≤1099511627776 :=
 Nat.le_trans (Nat.pow_le_pow_left (show M+1≤256 by omega) n) (Nat.le_trans (Nat.pow_le_pow_right (by decide) hn) (by decide))
theorem Z17.bad {w w':World} {c:Int} {k:Nat} (h:c≠0) (hb:Below w.heap.size w w'):Z17 w c k (.returned (.tuple #[.int .i64 0,.int .i64 c])) w':=⟨by rw[if_neg h],hb⟩
theorem Z17.good {w w':World} {c:Int} {k:Nat} (h:c=0) (hb:Below w.heap.size w w'):Z17 w c k (.returned (.tuple #[.int .i64 (k:Int),.int .i64 0])) w':=⟨by rw[h,if_pos rfl],hb⟩
theorem Z61 (w:World) (P:Nat→Prop) (p:Prd) (vs:List Value) (ao:Option Addr) (n cp:Nat) (most:Int) (ns:List (List Nat)) (B:Nat) (hT:Tab w B) (hp:Zai w P p vs) (hpb:Zib p) (hpc:Za8 p≤1000000)
  (hn:n=ns.length) (h:Zcr w ao ns) (hb:∀ s∈ns,NmB s) (hasc:Zjh ns) (hn1:1≤n) (hn3:n≤3) (hm:most≤255) :
  Calls Tryz.prog 62 #[.agg vs.toArray,.slice ao n cp,.int .i64 most] w fun e w'=>Z17 w (Zb1 ns most [p]) (cntP' ns most p) e w':=by
 have PC:=ħ hp.wide
 obtain⟨xa,xn,xc,rfl,-⟩:=hp.form
 have HT:=ħ (fun W (hW:Below w.heap.size w W)=>Tab.keep hT (fun k hk=>hW.block k (Nat.lt_of_lt_of_le hk hT.size)) hW.size)
 have HOP:=ħ (fun W (hW:Below w.heap.size w W) po (hps:Zbj W (fun _=>True) [p] po)=>Zli W (fun _=>True) [p] po 1 1 ao n cp most ns B (HT.o W hW) hps rfl (fun q hq=>by rw[List.mem_singleton.1 hq];exact hpb) (fun q hq=>by rw[List.mem_singleton.1 hq];exact hpc) (by omega) hn (h.below hW) hb hasc (by omega))
 have HFI:=ħ (fun (hz:Zb1 ns most [p]=0) W D po ro rc g (hd:DecR W (fun _=>True) D ns ao n cp most [p] po 1 1 (Zak [p]) ro rc) (hr:Zah W g 3 [.int .i64 0])=>by
  obtain⟨h1,h2,h3,h4,h5⟩:=Zec hz
  have hmm:((most.toNat:Nat):Int)=most:=Int.toNat_of_nonneg h4.1
  have hq:=Zrn (fun _=>True) D ns ao n cp most.toNat [p] p po 1 1 ro rc rfl rfl (h3 p (List.mem_singleton.2 rfl)) hpc h2 h1 (by omega) (Z3z (by omega) hn3) (n-1) W g 0 1 [0] (by rw[hmm];exact hd) (by show 1+(n-1)=n;omega) (by simp) (by rw[← Zgi];exact hr.readsR) hr.lt (Nat.le_refl 1) (by decide) (fun i=>by
   cases i with
   | zero=>exact⟨by decide,by decide⟩
   | succ i=>exact⟨by simp[gv],by simp[gv]⟩)
  rw[show n-1+1=ns.length by omega] at hq
  exact hq)
 have HSP:=ħ (fun W (hW:Below w.heap.size w W)=>(⟨hn,h.below hW,hb,hasc,by omega⟩:SpcR W ns ao n))
 have HK:Hid (cntP' ns most p=Zis (fun u=>Zav (fK ns (gv u)) p) most.toNat ns.length [0]):=ħ rfl
 rw[← HK.o] at HFI
 generalize cntP' ns most p=KK at *
 obtain⟨EC,hEC⟩:∃ c,Zb1 ns most [p]=c:=⟨_,rfl⟩
 rw[hEC] at HOP HFI ⊢
 obtain⟨CS,hCS⟩:∃ c,Zak [p]=c:=⟨_,rfl⟩
 rw[hCS] at HOP HFI
 have n3:¬ (3:Int)<(n:Int):=by omega
 have m255:¬ (255:Int)<most:=by omega
 clear hT hp hpb hpc hn h hb hasc hEC hCS HK
 have bx:=(Below.refl w.heap.size w).alloc (Nat.le_refl _) (.cells #[.int .i64 p.k,.string (Zad p.l),.string (Zad p.r),.int .i64 p.c,.slice xa xn xc] 25)
 have B1:=ħ bx
 have X1:Hid (Zah (w.alloc (.cells #[.int .i64 p.k,.string (Zad p.l),.string (Zad p.r),.int .i64 p.c,.slice xa xn xc] 25)) w.heap.size 25 [.int .i64 p.k,.string (Zad p.l),.string (Zad p.r),.int .i64 p.c,.slice xa xn xc]):=ħ (heap_alloc_new w _)
 clear bx
 generalize p.k=q0 at *
 generalize Zad p.l=q1 at *
 generalize Zad p.r=q2 at *
 generalize p.c=q3 at *
 go_enter Tryz.func62,Tryz.ntmps62
 go_upto_region 1 with (fail)
 generalize w.alloc (.cells #[.int .i64 q0,.string q1,.string q2,.int .i64 q3,.slice xa xn xc] 25)=w1 at *
 have by1:=(Below.refl w1.heap.size w1).alloc (Nat.le_refl _) (.cells #[.int .i64 q0,.string q1,.string q2,.int .i64 q3,.slice xa xn xc] 25)
 have Y2:Hid (Zah (w1.alloc (.cells #[.int .i64 q0,.string q1,.string q2,.int .i64 q3,.slice xa xn xc] 25)) w1.heap.size 25 [.int .i64 q0,.string q1,.string q2,.int .i64 q3,.slice xa xn xc]):=ħ (heap_alloc_new w1 _)
 have B2:=ħ (B1.o.trans (by1.mono B1.o.size))
 clear by1
 go_wp2_with (refine wpList_load_row rfl 25 (.tmp 3) rfl w.heap.size ?x1 25 #[.int .i64 q0,.string q1,.string q2,.int .i64 q3,.slice xa xn xc] (0,0) _ X1.o Tryz.underlying25 rfl (Zae _ rfl) ?_;(case x1=>rfl))
 have HPR:=ħ (Zi1 (PC.o.below B2.o) Y2.o)
 have HOQ:=ħ (HOP.o _ B2.o _ HPR.o)
 generalize w1.alloc (.cells #[.int .i64 q0,.string q1,.string q2,.int .i64 q3,.slice xa xn xc] 25)=w2 at *
 refine HOQ.o.mono ?_
 intro e w3 hq
 rcases hq.open with ⟨hc,rfl,b3⟩ | ⟨hc,D,ro,rc,rfl,hD,hpv,hok,b3⟩
 ·have HC:=ħ hc
  have HC2:¬ (EC=0):=hc
  have B3:=ħ (B2.o.trans (b3.mono B2.o.size))
  clear hq hc b3 HOQ
  go_wp2
  go_ret2
  exact Z17.bad HC.o B3.o
 ·have B3:=ħ (B2.o.trans (b3.mono B2.o.size))
  have HDR:Hid (DecR w3 (fun _=>True) D ns ao n cp most [p] (some ⟨w1.heap.size,0,none⟩) 1 1 CS ro rc):=ħ ⟨hpv,HSP.o w3 B3.o,HPR.o.below b3,hok.flatR Zpi rfl⟩
  have b4:=(Below.refl w3.heap.size w3).alloc (Nat.le_refl _) (.cells #[.int .i64 0] 3)
  have HFQ:=ħ (HFI.o hc (w3.alloc (.cells #[.int .i64 0] 3)) D _ ro rc w3.heap.size (HDR.o.step b4) (heap_alloc_new _ _))
  have B4:=ħ (B3.o.trans (b4.mono B3.o.size))
  have HC:=ħ hc
  clear hq hc b3 b4 hD hpv hok HOQ HDR HFI HOP
  by_cases h3:n=3
  ·have nb:((n:Int)==3)=true:=by rw[h3];rfl
   clear h3
   go_wp2_with fail
   refine HFQ.o.mono ?_
   rintro e w5 ⟨rfl,b5⟩
   have B5:=ħ (B4.o.trans (b5.mono B4.o.size))
   clear b5 HFQ
   go_wp2
   go_ret2
   exact Z17.good HC.o B5.o
  ·have nb:((n:Int)==3)=false:=by rw[beq_eq_false_iff_ne];omega
   clear h3
   go_wp2_with fail
   refine HFQ.o.mono ?_
   rintro e w5 ⟨rfl,b5⟩
   have B5:=ħ (B4.o.trans (b5.mono B4.o.size))
   clear b5 HFQ
   go_wp2
   go_ret2
   exact Z17.good HC.o B5.o
end
section
open Go.RowKit Go.Sort
theorem Zz8 {α:Type} {l1 l2:List α} {i:Nat} {a b:α} (h1:l1[i]?=some a) (h2:l2[i]?=some b) (h:l1.take i=l2.take i) (hab:a=b):l1.take (i+1)=l2.take (i+1):=by
 rw[List.take_add_one,List.take_add_one,h1,h2,h,hab]
theorem Zpk (w:World) (ao1 ao2:Option Addr) (n1 n2 c1 c2:Nat) (l1 l2:List Bool) (hn1:n1=l1.length) (hn2:n2=l2.length) (h1:Za7 Zg8 w ao1 l1) (h2:Za7 Zg8 w ao2 l2) (hbig1:n1≤1000000) (hbig2:n2≤1000000) :
  Calls Tryz.prog 126 #[.slice ao1 n1 c1,.slice ao2 n2 c2] w fun e w'=>e = .returned (.bool (decide (l1=l2)))∧Below w.heap.size w w':=by
 have H1:=ħ h1
 have H2:=ħ h2
 have HN1:=ħ hn1
 have HN2:=ħ hn2
 obtain⟨V,hV⟩:∃ V,decide (l1=l2)=V:=⟨_,rfl⟩
 have HV:=ħ hV
 rw[hV]
 clear h1 h2 hn1 hn2 hV
 have B0:=ħ (Below.refl w.heap.size w)
 go_enter Tryz.func126,Tryz.ntmps126
 by_cases hnn:n1=n2
 ·have nb:((n1:Int) != (n2:Int))=false:=by rw[hnn];simp
  have HNN:=ħ hnn
  clear hnn
  go_wp2_with fail
  go_loopw [13] (fun cc wr=>∃ (i:Nat),cc = .int .i64 i∧i≤n1∧Hid (l1.take i=l2.take i)∧Hid (Below w.heap.size w wr)) (fun c _=>(n1-intOf c).toNat)
  case atStart=>exact⟨0,rfl,by omega,ħ rfl,B0⟩
  case round =>
   clear B0
   obtain⟨i,rfl,hi,hv,hw⟩:=hrel
   have e2:IntKind.i64.wrap ((i:Int)+1)=((i+1:Nat):Int):=IntWalk.i64_in _ (by omega)
   by_cases hlt:i<n1
   ·have ii:(i:Int)<n1:=by omega
    have i2:(i:Int)<n2:=by rw[← HNN.o];exact ii
    obtain⟨g1,off1,hao1,s0⟩:=(H1.o.below hw.o).bool i (by rw[← HN1.o];exact hlt)
    obtain⟨g2,off2,hao2,t0⟩:=(H2.o.below hw.o).bool i (by rw[← HN2.o,← HNN.o];exact hlt)
    have HG1:=ħ (show l1[i]?=some (l1.getD i false) by rw[List.getD_eq_getElem?_getD,List.getElem?_eq_getElem (by rw[← HN1.o];exact hlt)];rfl)
    have HG2:=ħ (show l2[i]?=some (l2.getD i false) by rw[List.getD_eq_getElem?_getD,List.getElem?_eq_getElem (by rw[← HN2.o,← HNN.o];exact hlt)];rfl)
    have HA1:=ħ hao1
    have HA2:=ħ hao2
    subst hao1
    subst hao2
    generalize l1.getD i false=k1 at *
    generalize l2.getD i false=k2 at *
    go_upto_region 6 with (fail)
    have s0':=cell_regrown s0
    have t0':=cell_regrown t0
    clear s0 t0
    refine wp_region_quiet_below (by kernel_rfl) (by kernel_rfl) ?_
    repeat (go_big_quiet_step (fail))
    refine wpQuiet_nil ?_
    intro _ hw'
    obtain⟨⟨dq,osq⟩,hw''⟩:=hw'
    subst hw''
    have BB:=ħ (hw.o.trans ((below_regrown wr dq osq).mono hw.o.size))
    clear s0' t0' hw
    generalize grow (redrawn wr dq) osq=wy at *
    obtain⟨tb,htb⟩:∃ b,(!(k1==k2))=b:=⟨_,rfl⟩
    rw[htb]
    have HTB:=ħ htb
    clear htb
    cases tb with
    | false =>
     have HT:=ħ (Zz8 HG1.o HG2.o hv.o (by have:=HTB.o;simpa using this))
     clear HTB
     go_wp2
     go_roundw
     case rel=>exact⟨i+1,by go_num,by omega,HT,BB⟩
     case measure=>simp only[intOf];omega
    | true =>
     have HF:Hid (V=false):=ħ (by
      rw[← HV.o,decide_eq_false]
      intro e
      have:=HG1.o
      rw[e,HG2.o] at this
      have h2:=HTB.o
      rw[Option.some.inj this] at h2
      simp at h2)
     clear HTB
     go_wp2
     go_ret
     exact⟨Zag HF.o.symm,BB.o⟩
   ·have ii:¬ ((i:Int)<n1):=by omega
    have HT:Hid (V=true):=ħ (by
     rw[← HV.o,decide_eq_true]
     have h:=hv.o
     rw[List.take_of_length_le (by rw[← HN1.o];omega),List.take_of_length_le (by rw[← HN2.o,← HNN.o];omega)] at h
     exact h)
    go_wp2
    go_ret
    exact⟨Zag HT.o.symm,hw.o⟩
 ·have nb:((n1:Int) != (n2:Int))=true:=by rw[bne_iff_ne];omega
  have HF:Hid (V=false):=ħ (by
   rw[← HV.o,decide_eq_false]
   intro e
   exact hnn (by rw[HN1.o,HN2.o,e]))
  clear hnn
  go_wp2
  go_ret
  exact⟨Zag HF.o.symm,B0.o⟩
theorem Za7.tail {w:World} {bo:Option Addr} {l:List Bool} {g off:Nat} (h:Za7 Zg8 w (some ⟨g,off,none⟩) l):Za7 Zg8 w (some ⟨g,off+1,none⟩) (l.drop 1):=by
 cases l with
 | nil=>exact .inl rfl
 | cons x xs =>
  rcases h with h | ⟨g',off',h1,h2,h3⟩
  ·cases h
  ·cases h1
   refine .inr ⟨g,off+1,rfl,h2,fun j u hj=>?_⟩
   have:=h3 (j+1) u (by rw[List.flatMap_cons];exact hj)
   rwa [show off+(j+1)=off+1+j by omega] at this
def Zgq (a b:List Bool):Bool:=(a.getD 0 false != b.getD 0 false)&&decide (a.drop 1=b.drop 1)
theorem Zz9 (w:World) (X:Nat) (x1 y1:Value) (bo1 bo2:Option Addr) (c1 c2 m:Nat) (l1 l2:List Bool) (hx:Zah w X 157 [x1,.slice bo1 m c1]) (hy1:y1.oneCell'=true) (h1:Za7 Zg8 w bo1 l1) (h2:Za7 Zg8 w bo2 l2) (hm1:m=l1.length) (hm2:m=l2.length) (hm:0<m) (hM:m≤1000) (hc1:m≤c1) (hc2:m≤c2) :
  Calls Tryz.prog 125 #[.agg #[y1,.slice bo2 m c2],.pointer (some ⟨X,0,none⟩)] w fun e w'=>e = .returned (.bool (Zgq l1 l2))∧Below w.heap.size w w':=by
 have bx:=(Below.refl w.heap.size w).alloc (Nat.le_refl _) (.cells #[y1,.slice bo2 m c2] 157)
 have B1:=ħ bx
 have X1:=ħ (hx.step bx)
 have Y1:Hid (Zah (w.alloc (.cells #[y1,.slice bo2 m c2] 157)) w.heap.size 157 [y1,.slice bo2 m c2]):=ħ (heap_alloc_new w _)
 obtain⟨g1,off1,hb1,s0⟩:=(h1.below bx).bool 0 (by omega)
 obtain⟨g2,off2,hb2,t0⟩:=(h2.below bx).bool 0 (by omega)
 have F1:=h1.below bx
 have F2:=h2.below bx
 rw[hb1] at F1
 rw[hb2] at F2
 have FT1:=ħ (F1.tail (bo:=none))
 have FT2:=ħ (F2.tail (bo:=none))
 have HD:Hid (Zgq l1 l2=((l1.getD 0 false != l2.getD 0 false)&&decide (l1.drop 1=l2.drop 1))):=ħ rfl
 have HL1:Hid (m-1=(l1.drop 1).length):=ħ (by rw[List.length_drop,← hm1])
 have HL2:Hid (m-1=(l2.drop 1).length):=ħ (by rw[List.length_drop,← hm2])
 obtain⟨V,hV⟩:∃ V,Zgq l1 l2=V:=⟨_,rfl⟩
 rw[hV] at HD ⊢
 subst hb1
 subst hb2
 have m0:(0:Int)<m:=by omega
 have m1:(1:Int)≤m:=by omega
 have mm:m-1+1=m:=by omega
 have HBG:Hid (m-1≤1000000):=ħ (by omega)
 have HZ1:Hid (c1=1→l1.drop 1=[]):=ħ (fun h=>List.drop_eq_nil_of_le (by omega))
 have HZ2:Hid (c2=1→l2.drop 1=[]):=ħ (fun h=>List.drop_eq_nil_of_le (by omega))
 clear hx h1 h2 F1 F2 bx hm1 hm2 hc1 hc2 hV
 rw[Nat.add_zero] at s0 t0
 generalize l1.getD 0 false=a1 at *
 generalize l2.getD 0 false=a2 at *
 generalize l1.drop 1=d1 at *
 generalize l2.drop 1=d2 at *
 go_enter Tryz.func125,Tryz.ntmps125
 go_upto_region 1 with (fail)
 generalize w.alloc (.cells #[y1,.slice (some ⟨g2,off2,none⟩) m c2] 157)=w1 at *
 have x0:=X1.o.cell 1 _ rfl
 have y0:=Y1.o.cell 1 _ rfl
 by_cases hne:a1=a2
 ·have nb:(a1==a2)=true:=by rw[hne];simp
  have HE:Hid (V=false):=ħ (by rw[HD.o,hne];simp)
  clear hne
  go_quiet (fail)
  have B3:=ħ (below_drewN B1.o nq)
  clear s0 t0 x0 y0 X1 Y1
  generalize w1.drewN nq=wd at *
  go_wp2
  go_ret
  exact⟨Zag HE.o.symm,B3.o⟩
 ·have nb:(a1==a2)=false:=by rw[beq_eq_false_iff_ne];exact hne
  have HE:Hid (V=decide (d1=d2)):=ħ (by rw[HD.o,show (a1 != a2)=true by rw[bne_iff_ne];exact hne,Bool.true_and])
  clear hne
  have s0':=cell_regrown s0
  have t0':=cell_regrown t0
  have x0':=cell_regrown x0
  have y0':=cell_regrown y0
  clear s0 t0 x0 y0
  by_cases e1:c1=1
  ·by_cases e2:c2=1
   ·have HQ:=ħ (fun W (hW:Below w1.heap.size w1 W)=>Zpk W (some ⟨g1,off1,none⟩) (some ⟨g2,off2,none⟩) (m-1) (m-1) (c1-1) (c2-1) d1 d2 HL1.o HL2.o (.inl (HZ1.o e1)) (.inl (HZ2.o e2)) HBG.o HBG.o)
    have r1:=Z7r w1 (fun W hW=>HQ.o W hW)
    subst e1
    subst e2
    refine wp_region_quiet_below (by kernel_rfl) (by kernel_rfl) ?_
    repeat (go_big_quiet_step (with_reducible (exact r1 _ _)))
    refine wpQuiet_nil ?_
    intro _ hw'
    obtain⟨⟨dq,osq⟩,hw''⟩:=hw'
    subst hw''
    have BB:=ħ (B1.o.trans ((below_regrown w1 dq osq).mono B1.o.size))
    clear r1 HQ s0' t0' x0' y0'
    generalize grow (redrawn w1 dq) osq=wy at *
    go_wp2
    go_ret
    exact⟨Zag HE.o.symm,BB.o⟩
   ·have HQ:=ħ (fun W (hW:Below w1.heap.size w1 W)=>Zpk W (some ⟨g1,off1,none⟩) (some ⟨g2,off2+1,none⟩) (m-1) (m-1) (c1-1) (c2-1) d1 d2 HL1.o HL2.o (.inl (HZ1.o e1)) (FT2.o.below hW) HBG.o HBG.o)
    have r1:=Z7r w1 (fun W hW=>HQ.o W hW)
    subst e1
    have n2:¬ c2=1:=e2
    have n2':¬ 1=c2:=fun h=>e2 h.symm
    refine wp_region_quiet_below (by kernel_rfl) (by kernel_rfl) ?_
    repeat (go_big_quiet_step (with_reducible (exact r1 _ _)))
    refine wpQuiet_nil ?_
    intro _ hw'
    obtain⟨⟨dq,osq⟩,hw''⟩:=hw'
    subst hw''
    have BB:=ħ (B1.o.trans ((below_regrown w1 dq osq).mono B1.o.size))
    clear r1 HQ s0' t0' x0' y0'
    generalize grow (redrawn w1 dq) osq=wy at *
    go_wp2
    go_ret
    exact⟨Zag HE.o.symm,BB.o⟩
  ·by_cases e2:c2=1
   ·have HQ:=ħ (fun W (hW:Below w1.heap.size w1 W)=>Zpk W (some ⟨g1,off1+1,none⟩) (some ⟨g2,off2,none⟩) (m-1) (m-1) (c1-1) (c2-1) d1 d2 HL1.o HL2.o (FT1.o.below hW) (.inl (HZ2.o e2)) HBG.o HBG.o)
    have r1:=Z7r w1 (fun W hW=>HQ.o W hW)
    have n1:¬ c1=1:=e1
    have n1':¬ 1=c1:=fun h=>e1 h.symm
    subst e2
    refine wp_region_quiet_below (by kernel_rfl) (by kernel_rfl) ?_
    repeat (go_big_quiet_step (with_reducible (exact r1 _ _)))
    refine wpQuiet_nil ?_
    intro _ hw'
    obtain⟨⟨dq,osq⟩,hw''⟩:=hw'
    subst hw''
    have BB:=ħ (B1.o.trans ((below_regrown w1 dq osq).mono B1.o.size))
    clear r1 HQ s0' t0' x0' y0'
    generalize grow (redrawn w1 dq) osq=wy at *
    go_wp2
    go_ret
    exact⟨Zag HE.o.symm,BB.o⟩
   ·have HQ:=ħ (fun W (hW:Below w1.heap.size w1 W)=>Zpk W (some ⟨g1,off1+1,none⟩) (some ⟨g2,off2+1,none⟩) (m-1) (m-1) (c1-1) (c2-1) d1 d2 HL1.o HL2.o (FT1.o.below hW) (FT2.o.below hW) HBG.o HBG.o)
    have r1:=Z7r w1 (fun W hW=>HQ.o W hW)
    have n1:¬ c1=1:=e1
    have n1':¬ 1=c1:=fun h=>e1 h.symm
    have n2:¬ c2=1:=e2
    have n2':¬ 1=c2:=fun h=>e2 h.symm
    refine wp_region_quiet_below (by kernel_rfl) (by kernel_rfl) ?_
    repeat (go_big_quiet_step (with_reducible (exact r1 _ _)))
    refine wpQuiet_nil ?_
    intro _ hw'
    obtain⟨⟨dq,osq⟩,hw''⟩:=hw'
    subst hw''
    have BB:=ħ (B1.o.trans ((below_regrown w1 dq osq).mono B1.o.size))
    clear r1 HQ s0' t0' x0' y0'
    generalize grow (redrawn w1 dq) osq=wy at *
    go_wp2
    go_ret
    exact⟨Zag HE.o.symm,BB.o⟩
end
end Go.Proofs.YtmkdfbelbcocpaaGreatDoor
