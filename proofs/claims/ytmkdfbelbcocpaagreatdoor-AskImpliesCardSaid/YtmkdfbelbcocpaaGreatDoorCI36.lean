import Derived.Test.YtmkdfbelbcocpaaGreatDoorCI35
set_option linter.unusedVariables false
set_option linter.unusedSimpArgs false
set_option maxHeartbeats 32000000
set_option maxRecDepth 100000
namespace Go.Proofs.YtmkdfbelbcocpaaGreatDoor
open Go.RowKit Go.Sort
theorem Z0v (p:Prd) (n:Nat) (g:GoP n p) (w:World) (P:Nat→Prop) (vs:List Value) (B:Nat) (h:Zai w P p vs) (hT:Tab w B) :
  Calls Tryz.prog 54 #[.agg vs.toArray] w fun e w'=>∃ ao cp,e = .returned (.slice ao (Zh1 p).length cp)∧Zcq w' ao (Zh1 p)∧Below w.heap.size w w' :=
 (Znv p w P vs B (by have:=(Zdi g.valid).1;omega) (Zd3 p (Zb0 g.valid)) h hT).mono (fun e w' h=>by
  obtain⟨ao,cp,h1,h2,h3⟩:=h
  exact⟨ao,cp,h1,h2.strsR rfl,h3⟩)
theorem Zve (p:Prd) (hN:Za9 p≤100) (s:List Nat) (hs:∀ y∈s,y<256) (W:World) (ao:Option Addr) (cp:Nat) (h:Zcq W ao (Zh1 p)) :
  Calls Tryz.prog 49 #[.slice ao (Zh1 p).length cp,.string (Zad s)] W fun e w'=>e = .returned (.bool ((Zh1 p).contains s))∧W=w' :=
 rhas_any' ao (Zh1 p).length cp (Zh1 p) s W rfl (Zrt p (by omega)) h hs (fun s hs=>Z5y hs)
theorem Z50 (t:Array Value) (h:t.size=217):∃ f:Nat→Value,t=#[f 0,f 1,f 2,f 3,f 4,f 5,f 6,f 7,f 8,f 9,f 10,f 11,f 12,f 13,f 14,f 15,f 16,f 17,f 18,f 19,f 20,f 21,f 22,f 23,f 24,f 25,f 26,f 27,f 28,f 29,f 30,f 31,f 32,f 33,f 34,f 35,f 36,f 37,f 38,f 39,f 40,f 41,f 42,f 43,f 44,f 45,f 46,f 47,f 48,f 49,f 50,f 51,f 52,f 53,f 54,f 55,f 56,f 57,f 58,f 59,f 60,f 61,f 62,f 63,f 64,f 65,f 66,f 67,f 68,f 69,f 70,f 71,f 72,f 73,f 74,f 75,f 76,f 77,f 78,f 79,f 80,f 81,f 82,f 83,f 84,f 85,f 86,f 87,f 88,f 89,f 90,f 91,f 92,f 93,f 94,f 95,f 96,f 97,f 98,f 99,f 100,f 101,f 102,f 103,f 104,f 105,f 106,f 107,f 108,f 109,f 110,f 111,f 112,f 113,f 114,f 115,f 116,f 117,f 118,f 119,f 120,f 121,f 122,f 123,f 124,f 125,f 126,f 127,f 128,f 129,f 130,f 131,f 132,f 133,f 134,f 135,f 136,f 137,f 138,f 139,f 140,f 141,f 142,f 143,f 144,f 145,f 146,f 147,f 148,f 149,f 150,f 151,f 152,f 153,f 154,f 155,f 156,f 157,f 158,f 159,f 160,f 161,f 162,f 163,f 164,f 165,f 166,f 167,f 168,f 169,f 170,f 171,f 172,f 173,f 174,f 175,f 176,f 177,f 178,f 179,f 180,f 181,f 182,f 183,f 184,f 185,f 186,f 187,f 188,f 189,f 190,f 191,f 192,f 193,f 194,f 195,f 196,f 197,f 198,f 199,f 200,f 201,f 202,f 203,f 204,f 205,f 206,f 207,f 208,f 209,f 210,f 211,f 212,f 213,f 214,f 215,f 216]:=by
 obtain⟨l⟩:=t
 have hl:l.length=217:=h
 have e:l=(List.range 217).map (fun i=>l.getD i undef):=by
  apply List.ext_getElem
  ·simp[hl]
  ·intro i h1 h2
   simp[List.getD,h1]
 exact⟨fun i=>l.getD i undef,congrArg List.toArray e⟩
def ihF (q0 q3:Int) (q1 q2:ByteArray) (xa:Option Addr) (xn xc n m k:Nat) (R:Bool) (i:Nat) (W:World) (v:Value):Prop:=match i with
 | 0=>v = .agg #[.int .i64 q0,.string q1,.string q2,.int .i64 q3,.slice xa xn xc]
 | 1=>v = .int .i64 (k:Nat)
 | 2=>v = .int .i64 (n:Nat)
 | 3=>v = .int .i64 (m:Nat)
 | 4=>∃ ro rc,v = .slice ro n rc∧Z17 W (fun _=>True) (Zkq n m k) ro
 | 5=>v = .tuple #[.bool R,.int .i64 0]
 | 6=>v = .tuple #[.bool R,.int .i64 0]
 | 7=>v = .bool R
 | 8=>v = .int .i64 0
 | 9=>v = .bool R
 | 10=>v = .int .i64 0
 | _=>True
theorem Z4m (q0 q3:Int) (q1 q2:ByteArray) (xa:Option Addr) (xn xc n m k:Nat) (R:Bool):∀ i w w' v,ihF q0 q3 q1 q2 xa xn xc n m k R i w v→Below w.heap.size w w'→ihF q0 q3 q1 q2 xa xn xc n m k R i w' v:=by
 intro i w w' v h hb
 match i with
 | 0=>exact h
 | 1=>exact h
 | 2=>exact h
 | 3=>exact h
 | 4=>obtain⟨ro,rc,h1,h2⟩:=h;exact⟨ro,rc,h1,h2.below hb⟩
 | 5=>exact h
 | 6=>exact h
 | 7=>exact h
 | 8=>exact h
 | 9=>exact h
 | 10=>exact h
 | k+11=>trivial
def iqF (q0 q3:Int) (q1 q2:ByteArray) (xa:Option Addr) (xn xc n m k:Nat) (R:Bool) (i:Nat) (W:World) (v:Value):Prop:=match i with
 | 0=>v = .agg #[.int .i64 q0,.string q1,.string q2,.int .i64 q3,.slice xa xn xc]
 | 1=>v = .int .i64 (k:Nat)
 | 2=>v = .int .i64 (n:Nat)
 | 3=>v = .int .i64 (m:Nat)
 | 4=>∃ ro rc,v = .slice ro n rc∧Z17 W (fun _=>True) (Zkq n m k) ro
 | 5=>v = .tuple #[.bool R,.int .i64 0]
 | 6=>v = .tuple #[.bool R,.int .i64 0]
 | 7=>v = .bool R
 | 8=>v = .int .i64 0
 | 9=>v = .bool R
 | 10=>v = .int .i64 0
 | _=>True
theorem Z4n (q0 q3:Int) (q1 q2:ByteArray) (xa:Option Addr) (xn xc n m k:Nat) (R:Bool):∀ i w w' v,iqF q0 q3 q1 q2 xa xn xc n m k R i w v→Below w.heap.size w w'→iqF q0 q3 q1 q2 xa xn xc n m k R i w' v:=by
 intro i w w' v h hb
 match i with
 | 0=>exact h
 | 1=>exact h
 | 2=>exact h
 | 3=>exact h
 | 4=>obtain⟨ro,rc,h1,h2⟩:=h;exact⟨ro,rc,h1,h2.below hb⟩
 | 5=>exact h
 | 6=>exact h
 | 7=>exact h
 | 8=>exact h
 | 9=>exact h
 | 10=>exact h
 | k+11=>trivial
theorem Zl0 (p q:Prd) (w:World) (P:Nat→Prop) (vs us:List Value) (x y:Nat) (B:Nat) (hT:Tab w B) (h:Zai w P p vs) (hq:Zai w P q us) (hb:ByL p) (hbq:ByL q) (hlen:Zyu p) (hlenq:Zyu q) (hx:x≤255) (hy:y≤255) :
  Calls Tryz.prog 11 #[.agg vs.toArray,.agg us.toArray,.int .u8 x,.int .u8 y] w fun e w'=>e = .returned (.bool true)∧Below w.heap.size w w':=by
 obtain⟨xa,xn,xc,rfl,-⟩:=h.form
 obtain⟨ya,yn,yc,rfl,-⟩:=hq.form
 have HSA:=ħ (fun W (hW:Below w.heap.size w W)=>Z79 W B (Zb5.step (w:=w) hT hW))
 have HF1:=ħ (fun W (hW:Below w.heap.size w W)=>Zyw p 60 8 (by omega) (by omega) W P _ hlen (h.below hW))
 have HF2:=ħ (fun W (hW:Below w.heap.size w W)=>Zyw q 60 8 (by omega) (by omega) W P _ hlenq (hq.below hW))
 have HV1:=ħ (fun W (hW:Below w.heap.size w W) (hc:Z5r p 60 8=true)=>Znu p W P _ B (Nat.le_trans (Zy7 hc) (by omega)) hb (h.below hW) (Zb5.step (w:=w) hT hW))
 have HV2:=ħ (fun W (hW:Below w.heap.size w W) (hc:Z5r q 60 8=true)=>Znu q W P _ B (Nat.le_trans (Zy7 hc) (by omega)) hbq (hq.below hW) (Zb5.step (w:=w) hT hW))
 have HK1:=ħ (fun n (hn:n≤3) (hv:Zar p=true) W (hW:Below w.heap.size w W)=>Zru p W P _ B n (by have:=(Zdi hv).1;omega) (Zd3 p (Zb0 hv)) (h.below hW) (Zb5.step (w:=w) hT hW) hn)
 have HK2:=ħ (fun n (hn:n≤3) (hv:Zar q=true) W (hW:Below w.heap.size w W)=>Zru q W P _ B n (by have:=(Zdi hv).1;omega) (Zd3 q (Zb0 hv)) (hq.below hW) (Zb5.step (w:=w) hT hW) hn)
 have HH1:=ħ (fun n m (hn:n≤3) (hm:m≤6) (g:GoP n p) k W hW ro rc hro=>Zrp p w P _ B n m k (by have:=(Zdi g.valid).1;omega) (Zd3 p (Zb0 g.valid)) h hT hn hm g.valid g.known W hW ro rc hro)
 have HH2:=ħ (fun n m (hn:n≤3) (hm:m≤6) (g:GoP n q) k W hW ro rc hro=>Zrp q w P _ B n m k (by have:=(Zdi g.valid).1;omega) (Zd3 q (Zb0 g.valid)) hq hT hn hm g.valid g.known W hW ro rc hro)
 have HN1:=ħ (fun n (g:GoP n p) W (hW:Below w.heap.size w W)=>Z0v p n g W P _ B (h.below hW) (Zb5.step (w:=w) hT hW))
 have HN2:=ħ (fun n (g:GoP n q) W (hW:Below w.heap.size w W)=>Z0v q n g W P _ B (hq.below hW) (Zb5.step (w:=w) hT hW))
 have HA1:=ħ (fun n (g:GoP n p) s hs W ao cp hr=>Zve p (Zdi g.valid).1 s hs W ao cp hr)
 have HA2:=ħ (fun n (g:GoP n q) s hs W ao cp hr=>Zve q (Zdi g.valid).1 s hs W ao cp hr)
 have HIM:=ħ (fun n (m:Nat) (h1:1≤n) (hn:n≤3) (hm:m≤6) (gp:GoP n p) (gq:GoP n q) (hc:∀ s∈Za0 n,s∈Zh1 p∨s∈Zh1 q) W (hW:Below w.heap.size w W)=>(Zlw W P p q _ _ (m:Int) B (Zb5.step (w:=w) hT hW) (h.below hW) (hq.below hW) ⟨gp.valid,gq.valid⟩ ⟨Zd3 p (Zb0 gp.valid),Zd3 q (Zb0 gq.valid)⟩ ⟨by have:=(Zdi gp.valid).1;omega,by have:=(Zdi gq.valid).1;omega⟩).mono (fun e w' hh=>Zjp.two h1 hn hm gp gq hc _ (fun k=>trK n m p k&&!trK n m q k) (fun k=>rfl) hh))
 have HSM:=ħ (fun n (m:Nat) (h1:1≤n) (hn:n≤3) (hm:m≤6) (gp:GoP n p) (gq:GoP n q) (hc:∀ s∈Za0 n,s∈Zh1 p∨s∈Zh1 q) W (hW:Below w.heap.size w W)=>(Z0e W P p q _ _ (m:Int) B (Zb5.step (w:=w) hT hW) (h.below hW) (hq.below hW) ⟨gp.valid,gq.valid⟩ ⟨Zd3 p (Zb0 gp.valid),Zd3 q (Zb0 gq.valid)⟩ ⟨by have:=(Zdi gp.valid).1;omega,by have:=(Zdi gq.valid).1;omega⟩).mono (fun e w' hh=>Zjp.two h1 hn hm gp gq hc _ (fun k=>trK n m p k != trK n m q k) (fun k=>rfl) hh))
 have HG1:=ħ (fun n (hv:Zar p=true) (hk:Ziy n p=true)=>(show GoP n p from ⟨hv,(Zrr hv).1 hk⟩))
 have HG2:=ħ (fun n (hv:Zar q=true) (hk:Ziy n q=true)=>(show GoP n q from ⟨hv,(Zrr hv).1 hk⟩))
 clear hlen hlenq hb hbq hT h hq
 generalize Z5r p 60 8=s1 at *
 generalize Z5r q 60 8=s2 at *
 generalize Zar p=t1 at *
 generalize Zar q=t2 at *
 generalize p.k=q0 at *
 generalize Zad p.l=q1 at *
 generalize Zad p.r=q2 at *
 generalize p.c=q3 at *
 generalize q.k=r0 at *
 generalize Zad q.l=r1 at *
 generalize Zad q.r=r2 at *
 generalize q.c=r3 at *
 have bx:=(Below.refl w.heap.size w).alloc (Nat.le_refl _) (.cells #[.int .i64 q0,.string q1,.string q2,.int .i64 q3,.slice xa xn xc] 25)
 have bx2:=(Below.refl (w.alloc (.cells #[.int .i64 q0,.string q1,.string q2,.int .i64 q3,.slice xa xn xc] 25)).heap.size (w.alloc (.cells #[.int .i64 q0,.string q1,.string q2,.int .i64 q3,.slice xa xn xc] 25))).alloc (Nat.le_refl _) (.cells #[.int .i64 r0,.string r1,.string r2,.int .i64 r3,.slice ya yn yc] 25)
 have B1:=ħ (bx.trans (bx2.mono bx.size))
 have Y1:Hid (Zah ((w.alloc (.cells #[.int .i64 q0,.string q1,.string q2,.int .i64 q3,.slice xa xn xc] 25)).alloc (.cells #[.int .i64 r0,.string r1,.string r2,.int .i64 r3,.slice ya yn yc] 25)) w.heap.size 25 [.int .i64 q0,.string q1,.string q2,.int .i64 q3,.slice xa xn xc]):=ħ (Zap _ _ _)
 have Z1:Hid (Zah ((w.alloc (.cells #[.int .i64 q0,.string q1,.string q2,.int .i64 q3,.slice xa xn xc] 25)).alloc (.cells #[.int .i64 r0,.string r1,.string r2,.int .i64 r3,.slice ya yn yc] 25)) (w.heap.size+1) 25 [.int .i64 r0,.string r1,.string r2,.int .i64 r3,.slice ya yn yc]):=ħ (heap_alloc2_new _ _ _)
 clear bx bx2
 go_enter Tryz.func11,Tryz.ntmps11
 go_upto_region 1 with (fail)
 generalize hw1:(w.alloc (.cells #[.int .i64 q0,.string q1,.string q2,.int .i64 q3,.slice xa xn xc] 25)).alloc (.cells #[.int .i64 r0,.string r1,.string r2,.int .i64 r3,.slice ya yn yc] 25)=w1 at *
 clear hw1
 go_wp2_with fail
 refine (HSA.o w1 B1.o).mono ?_
 rintro e w2 ⟨rfl,b2⟩
 have B2:=ħ (B1.o.trans (b2.mono B1.o.size))
 have Y2:=ħ (Y1.o.step b2)
 have Z2:=ħ (Z1.o.step b2)
 clear b2 B1 Y1 Z1 HSA
 go_upto_region 4 with (fail)
 have hnn:(1+(x:Int)%3)=((1+x%3:Nat):Int):=by omega
 have hmm:((y:Int)%7)=((y%7:Nat):Int):=by omega
 rw[hnn,hmm]
 have h1:1≤1+x%3:=by omega
 have h3:1+x%3≤3:=by omega
 have h6:y%7≤6:=by omega
 clear hnn hmm hx hy
 generalize 1+x%3=n at *
 generalize y%7=m at *
 go_wp2_with (refine wpList_load_row rfl 25 (.tmp 4) rfl (w.heap.size) ?l2 25 #[.int .i64 q0,.string q1,.string q2,.int .i64 q3,.slice xa xn xc] (0,0) _ Y2.o Tryz.underlying25 rfl (Zae _ rfl) ?_;(case l2=>rfl))
 refine (HF1.o w2 B2.o).mono ?_
 rintro e w3 ⟨rfl,b3⟩
 have B3:=ħ (B2.o.trans (b3.mono B2.o.size))
 have Y3:=ħ (Y2.o.step b3)
 have Z3:=ħ (Z2.o.step b3)
 clear b3 B2 Y2 Z2 HF1
 cases s1 with
 | false =>
  go_wp2_with fail
  go_ret
  exact⟨rfl,B3.o⟩
 | true =>
 go_wp2_with (refine Zav (by rfl) 25 (.tmp 5) rfl (w.heap.size+1) ?l3 25 #[.int .i64 r0,.string r1,.string r2,.int .i64 r3,.slice ya yn yc] (0,0) _ Z3.o Tryz.underlying25 rfl (Zae _ rfl) ?_;(case l3=>rfl))
 refine (HF2.o w3 B3.o).mono ?_
 rintro e w4 ⟨rfl,b4⟩
 have B4:=ħ (B3.o.trans (b4.mono B3.o.size))
 have Y4:=ħ (Y3.o.step b4)
 have Z4:=ħ (Z3.o.step b4)
 clear b4 B3 Y3 Z3 HF2
 cases s2 with
 | false =>
  go_wp2_with fail
  go_ret
  exact⟨rfl,B4.o⟩
 | true =>
 go_wp2_with (refine Zav (by rfl) 25 (.tmp 4) rfl (w.heap.size) ?l4 25 #[.int .i64 q0,.string q1,.string q2,.int .i64 q3,.slice xa xn xc] (0,0) _ Y4.o Tryz.underlying25 rfl (Zae _ rfl) ?_;(case l4=>rfl))
 refine (HV1.o w4 B4.o trivial).mono ?_
 rintro e w5 ⟨rfl,b5⟩
 have B5:=ħ (B4.o.trans (b5.mono B4.o.size))
 have Y5:=ħ (Y4.o.step b5)
 have Z5:=ħ (Z4.o.step b5)
 clear b5 B4 Y4 Z4 HV1
 cases t1 with
 | false =>
  go_wp2_with fail
  go_ret
  exact⟨rfl,B5.o⟩
 | true =>
 go_wp2_with (refine Zav (by rfl) 25 (.tmp 5) rfl (w.heap.size+1) ?l5 25 #[.int .i64 r0,.string r1,.string r2,.int .i64 r3,.slice ya yn yc] (0,0) _ Z5.o Tryz.underlying25 rfl (Zae _ rfl) ?_;(case l5=>rfl))
 refine (HV2.o w5 B5.o trivial).mono ?_
 rintro e w6 ⟨rfl,b6⟩
 have B6:=ħ (B5.o.trans (b6.mono B5.o.size))
 have Y6:=ħ (Y5.o.step b6)
 have Z6:=ħ (Z5.o.step b6)
 clear b6 B5 Y5 Z5 HV2
 cases t2 with
 | false =>
  go_wp2_with fail
  go_ret
  exact⟨rfl,B6.o⟩
 | true =>
 go_wp2_with (refine Zav (by rfl) 25 (.tmp 4) rfl (w.heap.size) ?l6 25 #[.int .i64 q0,.string q1,.string q2,.int .i64 q3,.slice xa xn xc] (0,0) _ Y6.o Tryz.underlying25 rfl (Zae _ rfl) ?_;(case l6=>rfl))
 refine (HK1.o n h3 trivial w6 B6.o).mono ?_
 rintro e w7 ⟨rfl,b7⟩
 have B7:=ħ (B6.o.trans (b7.mono B6.o.size))
 have Y7:=ħ (Y6.o.step b7)
 have Z7:=ħ (Z6.o.step b7)
 clear b7 B6 Y6 Z6 HK1
 obtain⟨u1,hu1⟩:∃ u,Ziy n p=u:=⟨_,rfl⟩
 have HGO1:=ħ (fun (h:u1=true)=>HG1.o n trivial (by rw[hu1,h]))
 rw[hu1]
 clear hu1 HG1
 cases u1 with
 | false =>
  go_wp2_with fail
  go_ret
  exact⟨rfl,B7.o⟩
 | true =>
 go_wp2_with (refine Zav (by rfl) 25 (.tmp 5) rfl (w.heap.size+1) ?l7 25 #[.int .i64 r0,.string r1,.string r2,.int .i64 r3,.slice ya yn yc] (0,0) _ Z7.o Tryz.underlying25 rfl (Zae _ rfl) ?_;(case l7=>rfl))
 refine (HK2.o n h3 trivial w7 B7.o).mono ?_
 rintro e w8 ⟨rfl,b8⟩
 have B8:=ħ (B7.o.trans (b8.mono B7.o.size))
 have Y8:=ħ (Y7.o.step b8)
 have Z8:=ħ (Z7.o.step b8)
 clear b8 B7 Y7 Z7 HK2
 obtain⟨u2,hu2⟩:∃ u,Ziy n q=u:=⟨_,rfl⟩
 have HGO2:=ħ (fun (h:u2=true)=>HG2.o n trivial (by rw[hu2,h]))
 rw[hu2]
 clear hu2 HG2
 cases u2 with
 | false =>
  go_wp2_with fail
  go_ret
  exact⟨rfl,B8.o⟩
 | true =>
 have GP:=ħ (HGO1.o trivial)
 have GQ:=ħ (HGO2.o rfl)
 clear HGO1 HGO2
 have HSO:=ħ (fun W=>Zlz n h3 W)
 have HSL:=ħ (Zdn h3)
 have HSB:=ħ (Zrs h3)
 have HM1:=ħ (HN1.o n GP.o)
 have HM2:=ħ (HN2.o n GQ.o)
 have HAA:=ħ (HA1.o n GP.o)
 have HAB:=ħ (HA2.o n GQ.o)
 have HIM2:=ħ (HIM.o n m h1 h3 h6 GP.o GQ.o)
 have HSM2:=ħ (HSM.o n m h1 h3 h6 GP.o GQ.o)
 have HHP:=ħ (HH1.o n m h3 h6 GP.o)
 have HHQ:=ħ (HH2.o n m h3 h6 GQ.o)
 clear HN1 HN2 HA1 HA2 HIM HSM HH1 HH2
 generalize hNP:Zh1 p=NP at *
 generalize hNQ:Zh1 q=NQ at *
 clear hNP hNQ
 generalize NP.length=np at *
 generalize NQ.length=nq at *
 go_wp2_with fail
 go_loopw [12] (fun iv wr=>∃ (i:Nat),iv = .int .i64 i∧i≤n∧Hid (∀ j s,j<i→(Za0 n)[j]?=some s→s∈NP∨s∈NQ)∧Hid (Zah wr w.heap.size 25 [.int .i64 q0,.string q1,.string q2,.int .i64 q3,.slice xa xn xc])∧Hid (Zah wr (w.heap.size+1) 25 [.int .i64 r0,.string r1,.string r2,.int .i64 r3,.slice ya yn yc])∧Hid (Below w.heap.size w wr)) (fun i _=>(n-intOf i).toNat)
 case atStart=>exact⟨0,rfl,by omega,ħ (fun j s hj=>absurd hj (Nat.not_lt_zero j)),Y8,Z8,B8⟩
 case round =>
  clear Y8 Z8 B8
  obtain⟨i,rfl,hi,hcov,Y9,Z9,B9⟩:=hrel
  have e2:IntKind.i64.wrap ((i:Int)+1)=((i+1:Nat):Int):=IntWalk.i64_in _ (by omega)
  by_cases hlt:i<n
  ·have ii:(i:Int)<n:=by omega
   have i3:(i:Int)<3:=by omega
   obtain⟨s,hs⟩:∃ s,(Za0 n)[i]?=some s:=⟨_,List.getElem?_eq_getElem (by rw[HSL.o];exact hlt)⟩
   have HSI:=ħ hs
   have HBS:=ħ (HSB.o s (List.mem_of_getElem? hs))
   have HCP:=ħ (fun W ao cp hr=>HAA.o s HBS.o W ao cp hr)
   have HCQ:=ħ (fun W ao cp hr=>HAB.o s HBS.o W ao cp hr)
   have HCO:=ħ (fun (h:s∈NP∨s∈NQ) j s' (hj:j<i+1) (hs':(Za0 n)[j]?=some s')=>(show s'∈NP∨s'∈NQ from by
    rcases Nat.lt_or_ge j i with h2 | h2
    ·exact hcov.o j s' h2 hs'
    ·obtain rfl:j=i:=by omega
     rw[hs] at hs'
     obtain rfl:=Option.some.inj hs'
     exact h))
   clear hs
   obtain⟨bp,hbp⟩:∃ b,NP.contains s=b:=⟨_,rfl⟩
   obtain⟨bq,hbq⟩:∃ b,NQ.contains s=b:=⟨_,rfl⟩
   rw[hbp] at HCP
   rw[hbq] at HCQ
   have HBP:=ħ (fun (h:bp=true)=>(show s∈NP from List.contains_iff_mem.1 (by rw[hbp,h])))
   have HBQ:=ħ (fun (h:bq=true)=>(show s∈NQ from List.contains_iff_mem.1 (by rw[hbq,h])))
   clear hbp hbq
   go_upto_region 9 with (fail)
   go_wp2_with (refine wpList_load_row rfl 25 (.tmp 4) rfl (w.heap.size) ?n9 25 #[.int .i64 q0,.string q1,.string q2,.int .i64 q3,.slice xa xn xc] (0,0) _ Y9.o Tryz.underlying25 rfl (Zae _ rfl) ?_;(case n9=>rfl))
   refine (HM1.o _ B9.o).mono ?_
   rintro e w10 ⟨ao9,cp9,rfl,hr9,b10⟩
   have HR9:=ħ hr9
   clear hr9
   have B10:=ħ (B9.o.trans (b10.mono B9.o.size))
   have Y10:=ħ (Y9.o.step b10)
   have Z10:=ħ (Z9.o.step b10)
   clear b10 B9 Y9 Z9
   go_wp2_with fail
   refine (HSO.o _).mono ?_
   rintro e w11 ⟨so9,rfl,hs9,b11⟩
   have HR10:=ħ (HR9.o.below b11)
   clear HR9
   have B11:=ħ (B10.o.trans (b11.mono B10.o.size))
   have Y11:=ħ (Y10.o.step b11)
   have Z11:=ħ (Z10.o.step b11)
   clear b11 B10 Y10 Z10
   obtain⟨g9,off9,hao9,-,hc9⟩:=hs9.at i s HSI.o
   subst hao9
   clear hs9
   have HQ9:=ħ (HCP.o _ ao9 cp9 HR10.o)
   clear HR10
   generalize hy9:Zad s=y9 at *
   go_wp2_with fail
   refine HQ9.o.mono ?_
   rintro e w12 ⟨rfl,rfl⟩
   clear HQ9 hc9
   subst hy9
   cases bp with
   | true =>
    go_wp2_with fail
    go_roundw
    case rel=>exact⟨i+1,by go_num,by omega,ħ (HCO.o (.inl (HBP.o trivial))),Y11,Z11,B11⟩
    case measure=>simp only[intOf];omega
   | false =>
    go_wp2_with (refine Zav (by rfl) 25 (.tmp 5) rfl (w.heap.size+1) ?n11 25 #[.int .i64 r0,.string r1,.string r2,.int .i64 r3,.slice ya yn yc] (0,0) _ Z11.o Tryz.underlying25 rfl (Zae _ rfl) ?_;(case n11=>rfl))
    refine (HM2.o _ B11.o).mono ?_
    rintro e w12 ⟨ao11,cp11,rfl,hr11,b12⟩
    have HR11:=ħ hr11
    clear hr11
    have B12:=ħ (B11.o.trans (b12.mono B11.o.size))
    have Y12:=ħ (Y11.o.step b12)
    have Z12:=ħ (Z11.o.step b12)
    clear b12 B11 Y11 Z11
    go_wp2_with fail
    refine (HSO.o _).mono ?_
    rintro e w13 ⟨so11,rfl,hs11,b13⟩
    have HR12:=ħ (HR11.o.below b13)
    clear HR11
    have B13:=ħ (B12.o.trans (b13.mono B12.o.size))
    have Y13:=ħ (Y12.o.step b13)
    have Z13:=ħ (Z12.o.step b13)
    clear b13 B12 Y12 Z12
    obtain⟨g11,off11,hao11,-,hc11⟩:=hs11.at i s HSI.o
    subst hao11
    clear hs11
    have HQ11:=ħ (HCQ.o _ ao11 cp11 HR12.o)
    clear HR12
    generalize hy11:Zad s=y11 at *
    go_wp2_with fail
    refine HQ11.o.mono ?_
    rintro e w14 ⟨rfl,rfl⟩
    clear HQ11 hc11
    subst hy11
    cases bq with
    | true =>
     go_wp2_with fail
     go_roundw
     case rel=>exact⟨i+1,by go_num,by omega,ħ (HCO.o (.inr (HBQ.o trivial))),Y13,Z13,B13⟩
     case measure=>simp only[intOf];omega
    | false =>
     go_wp2_with fail
     go_ret
     exact⟨rfl,B13.o⟩
  ·have ii:¬ ((i:Int)<n):=by omega
   obtain rfl:n=i:=by omega
   have HCV:Hid (∀ s∈Za0 n,s∈NP∨s∈NQ):=ħ (fun s hs=>by
    obtain⟨j,hj⟩:=List.mem_iff_getElem?.1 hs
    have hjl:=(List.getElem?_eq_some_iff.1 hj).1
    rw[HSL.o] at hjl
    exact hcov.o j s hjl hj)
   have HI:=ħ (HIM2.o HCV.o)
   have HS:=ħ (HSM2.o HCV.o)
   clear HIM2 HSM2 HCV hcov HM1 HM2 HAA HAB HSO HSL HSB
   have HEC:Hid ((if 8<(Zak [p,q]).length then (6:Int) else 0)=6∨(if 8<(Zak [p,q]).length then (6:Int) else 0)=0):=ħ (by split<;>simp)
   generalize (if 8<(Zak [p,q]).length then (6:Int) else 0)=EC at *
   have H343:=ħ (Z5z h3 h6)
   have HALL:=ħ (fun W=>Z4f n m h3 h6 W)
   have HAS0:=ħ (fun k (hk:k≤1000000) W=>Zn9 k n m h3 h6 hk W)
   have HASF:=ħ (fun k (hk:k<(m+1)^n) W=>Zte k n m h3 h6 hk W)
   have HSAM:=ħ (fun k W lo lc ro rc hl hr=>Z0s k n m h3 W lo ro lc rc hl hr)
   have HAL:=ħ (Zer n m)
   generalize trK n m p=GA at *
   generalize trK n m q=GB at *
   generalize (m+1)^n=N at *
   have HFA:=ħ (Z0u (fun k=>GA k&&!GB k) N)
   have HFB:=ħ (Z0u (fun k=>GA k != GB k) N)
   rw[Z0q] at HFA HFB
   have HLA:=ħ (fun k=>Zrq (g:=fun k=>GA k&&!GB k) (m:=N) (k:=k))
   have HLB:=ħ (fun k=>Zrq (g:=fun k=>GA k != GB k) (m:=N) (k:=k))
   have HDA:=ħ (fun d=>(show fdI (fun k=>GA k&&!GB k) N (d+1)=if (GA (N-(d+1))&&!GB (N-(d+1)))=true then ((N-(d+1):Nat):Int) else fdI (fun k=>GA k&&!GB k) N d from rfl))
   have HDB:=ħ (fun d=>(show fdI (fun k=>GA k != GB k) N (d+1)=if (GA (N-(d+1)) != GB (N-(d+1)))=true then ((N-(d+1):Nat):Int) else fdI (fun k=>GA k != GB k) N d from rfl))
   have HZA:Hid (fdI (fun k=>GA k&&!GB k) N 0 = -1):=ħ rfl
   have HZB:Hid (fdI (fun k=>GA k != GB k) N 0 = -1):=ħ rfl
   generalize hFA:Zd9 (fun k=>GA k&&!GB k) N=FA at *
   generalize hFB:Zd9 (fun k=>GA k != GB k) N=FB at *
   generalize fdI (fun k=>GA k&&!GB k) N=DA at *
   generalize fdI (fun k=>GA k != GB k) N=DB at *
   clear hFA hFB
   obtain⟨OA,hOA⟩:∃ b,(decide (EC=0)&&!FA.isSome)=b:=⟨_,rfl⟩
   obtain⟨OB,hOB⟩:∃ b,(decide (EC=0)&&!FB.isSome)=b:=⟨_,rfl⟩
   obtain⟨LA,hLA⟩:∃ l,Z67 n m EC FA=l:=⟨_,rfl⟩
   obtain⟨LB,hLB⟩:∃ l,Z67 n m EC FB=l:=⟨_,rfl⟩
   rw[hOA,hLA] at HI
   rw[hOB,hLB] at HS
   obtain⟨na,hna⟩:∃ l,LA.length=l:=⟨_,rfl⟩
   obtain⟨nb,hnb⟩:∃ l,LB.length=l:=⟨_,rfl⟩
   rw[hna] at HI
   rw[hnb] at HS
   have HOA:=ħ hOA
   have HOB:=ħ hOB
   have HLLA:=ħ hLA
   have HLLB:=ħ hLB
   have HNA:=ħ hna
   have HNB:=ħ hnb
   clear hOA hOB hLA hLB hna hnb
   go_wp2_with (first | (refine wpList_load_row rfl 25 (.tmp 4) rfl (w.heap.size) ?m9p 25 #[.int .i64 q0,.string q1,.string q2,.int .i64 q3,.slice xa xn xc] (0,0) _ Y9.o Tryz.underlying25 rfl (Zae _ rfl) ?_;(case m9p=>rfl)) | (refine wpList_load_row rfl 25 (.tmp 5) rfl (w.heap.size+1) ?m9q 25 #[.int .i64 r0,.string r1,.string r2,.int .i64 r3,.slice ya yn yc] (0,0) _ Z9.o Tryz.underlying25 rfl (Zae _ rfl) ?_;(case m9q=>rfl)))
   refine (HI.o wr B9.o).mono ?_
   rintro e w10 ⟨ra,ca,rfl,hra,b10⟩
   have HRA:=ħ hra
   clear hra
   have B10:=ħ (B9.o.trans (b10.mono B9.o.size))
   have Y10:=ħ (Y9.o.step b10)
   have Z10:=ħ (Z9.o.step b10)
   clear b10 B9 Y9 Z9 HI
   go_wp2_with (first | (refine wpList_load_row rfl 25 (.tmp 4) rfl (w.heap.size) ?m10p 25 #[.int .i64 q0,.string q1,.string q2,.int .i64 q3,.slice xa xn xc] (0,0) _ Y10.o Tryz.underlying25 rfl (Zae _ rfl) ?_;(case m10p=>rfl)) | (refine wpList_load_row rfl 25 (.tmp 5) rfl (w.heap.size+1) ?m10q 25 #[.int .i64 r0,.string r1,.string r2,.int .i64 r3,.slice ya yn yc] (0,0) _ Z10.o Tryz.underlying25 rfl (Zae _ rfl) ?_;(case m10q=>rfl)))
   refine (HS.o w10 B10.o).mono ?_
   rintro e w11 ⟨rb,cb,rfl,hrb,b11⟩
   have HRB:=ħ hrb
   have HRA2:=ħ (HRA.o.below b11)
   clear hrb HRA
   have B11:=ħ (B10.o.trans (b11.mono B10.o.size))
   have Y11:=ħ (Y10.o.step b11)
   have Z11:=ħ (Z10.o.step b11)
   clear b11 B10 Y10 Z10 HS
   rcases HEC.o with h | h
   ·subst h
    obtain rfl:OA=false:=by rw[← HOA.o];rfl
    obtain rfl:OB=false:=by rw[← HOB.o];rfl
    clear HOA HOB HLLA HLLB HNA HNB HRB HRA2
    go_wp2_with fail
    go_ret
    exact⟨rfl,B11.o⟩
   ·subst h
    have h343:=H343.o
    have e3:IntKind.i64.wrap ((N:Int)-1)=(N:Int)-1:=IntWalk.i64_in _ (by omega)
    go_wp2_with fail
    refine (HALL.o w11).mono ?_
    rintro e wl ⟨rfl,rfl⟩
    go_wp2_with fail
    clear e3
    go_loopw [19,20,21] (fun av bv kv wr=>∃ (t:Nat),kv = .int .i64 ((t:Int)-1)∧t≤N∧av = .int .i64 (DA (N-t))∧bv = .int .i64 (DB (N-t))∧Hid (Zah wr w.heap.size 25 [.int .i64 q0,.string q1,.string q2,.int .i64 q3,.slice xa xn xc])∧Hid (Zah wr (w.heap.size+1) 25 [.int .i64 r0,.string r1,.string r2,.int .i64 r3,.slice ya yn yc])∧Hid (Below w11.heap.size w11 wr)) (fun _ _ k _=>(intOf k+1).toNat)
    case atStart=>exact⟨N,rfl,Nat.le_refl _,by rw[Nat.sub_self,HZA.o],by rw[Nat.sub_self,HZB.o],Y11,Z11,ħ (Below.refl _ _)⟩
    case round =>
     clear Y11 Z11
     obtain⟨t,rfl,htn,rfl,rfl,Y12,Z12,hw12⟩:=hrel
     by_cases ht0:0<t
     ·obtain⟨k,rfl⟩:∃ k,t=k+1:=⟨t-1,by omega⟩
      rw[show (((k+1:Nat):Int)-1)=(k:Int) by omega]
      have hkn:k<N:=htn
      have i0:(0:Int)≤(k:Int):=by omega
      have hda:=HDA.o (N-(k+1))
      have hdb:=HDB.o (N-(k+1))
      rw[show N-(k+1)+1=N-k by omega,show N-(N-k)=k by omega] at hda hdb
      obtain⟨RA,hRA⟩:∃ b,GA k=b:=⟨_,rfl⟩
      obtain⟨RB,hRB⟩:∃ b,GB k=b:=⟨_,rfl⟩
      have HHA:=ħ (fun W (hW:Below w.heap.size w W) ro rc hro=>HHP.o k W hW ro rc hro)
      have HHB:=ħ (fun W (hW:Below w.heap.size w W) ro rc hro=>HHQ.o k W hW ro rc hro)
      rw[hRA] at HHA hda hdb
      rw[hRB] at HHB hda hdb
      have HDDA:=ħ hda
      have HDDB:=ħ hdb
      clear hda hdb hRA hRB
      generalize DA (N-(k+1))=da at *
      generalize DB (N-(k+1))=db at *
      have HAS:=ħ (fun W=>HAS0.o k (by omega) W)
      have B12:=ħ (B11.o.trans (hw12.o.mono B11.o.size))
      have X1:=Y12
      have HW:=B12
      have HH:=HHA
      go_upto_region 20 with (fail)
      clear i0
      refine Zd2 (ihF q0 q3 q1 q2 xa xn xc n m k RA) (by kernel_rfl) (Z4m q0 q3 q1 q2 xa xn xc n m k RA) (Zeg (by kernel_rfl)) (Zp5 (by kernel_rfl)) (Zc4 (by kernel_rfl)) ?hs ?he
      case hs =>
       intro i o hi listed a' w' H hl2
       have hl3:=Za7 hl2
       have hin:i<11:=(Array.getElem?_eq_some_iff.1 hi).1
       have hb:=ħ H.below
       have s4:=H.same 4 (Zao (by kernel_rfl))
       have s21:=H.same 21 (Zao (by kernel_rfl))
       have s10:=H.same 10 (Zao (by kernel_rfl))
       have s11:=H.same 11 (Zao (by kernel_rfl))
       have hdn:=H.done
       have hdf:=H.defers
       have hts:=H.tsize
       clear hl2 H
       obtain⟨t',df⟩:=a'
       obtain⟨f',rfl⟩:=Z50 t' hts
       have hdf':df=[]:=hdf
       subst hdf'
       have gs4:f' 4 = .pointer (some ⟨w.heap.size,0,none⟩):=s4
       have gs21:f' 21 = .int .i64 (k:Nat):=s21
       have gs10:f' 10 = .int .i64 (n:Nat):=s10
       have gs11:f' 11 = .int .i64 (m:Nat):=s11
       clear s4 s21 s10 s11
       clear hdf hts
       have hcases:=Zjq i hin
       clear hin
       rcases hcases with rfl | rfl | rfl | rfl | rfl | rfl | rfl | rfl | rfl | rfl | rfl
       ·obtain rfl:=Option.some.inj hi
        clear hdn hl3
        rw[gs4]
        clear gs4 gs21 gs10 gs11
        have X2:=X1.o.step hb.o
        refine Zac rfl ?_
        go_wp2_with (refine wpList_load_row rfl 25 (.tmp 4) rfl w.heap.size ?x1 25 #[.int .i64 q0,.string q1,.string q2,.int .i64 q3,.slice xa xn xc] (0,0) _ X2 Tryz.underlying25 rfl (Zae _ rfl) ?_;(case x1=>rfl))
        exact Zaa ⟨_,rfl,Below.refl _ _,rfl⟩
       ·obtain rfl:=Option.some.inj hi
        clear hdn hl3
        rw[gs21]
        clear gs4 gs21 gs10 gs11
        refine Zac rfl ?_
        go_wp2_with fail
        exact Zaa ⟨_,rfl,Below.refl _ _,rfl⟩
       ·obtain rfl:=Option.some.inj hi
        clear hdn hl3
        rw[gs10]
        clear gs4 gs21 gs10 gs11
        refine Zac rfl ?_
        go_wp2_with fail
        exact Zaa ⟨_,rfl,Below.refl _ _,rfl⟩
       ·obtain rfl:=Option.some.inj hi
        clear hdn hl3
        rw[gs11]
        clear gs4 gs21 gs10 gs11
        refine Zac rfl ?_
        go_wp2_with fail
        exact Zaa ⟨_,rfl,Below.refl _ _,rfl⟩
       ·obtain rfl:=Option.some.inj hi
        have dv1:f' 137 = .int .i64 (k:Nat):=hdn 1 _ 137 rfl (hl3 1 (by rfl)) rfl
        have dv2:f' 138 = .int .i64 (n:Nat):=hdn 2 _ 138 rfl (hl3 2 (by rfl)) rfl
        have dv3:f' 139 = .int .i64 (m:Nat):=hdn 3 _ 139 rfl (hl3 3 (by rfl)) rfl
        clear hdn hl3
        rw[dv1,dv2,dv3]
        clear dv1 dv2 dv3 gs4 gs21 gs10 gs11
        refine Zac rfl ?_
        go_wp2_with fail
        refine (HAS.o w').mono ?_
        rintro e w4 ⟨⟨ro,rc,rfl,ho⟩,b4⟩
        have HO:=ħ (ho.bndR (Zer _ _ _).symm)
        have HB4:=ħ b4
        clear ho b4
        go_wp2_with fail
        exact Zaa ⟨_,rfl,HB4.o,ro,rc,rfl,HO.o⟩
       ·obtain rfl:=Option.some.inj hi
        have dv0:f' 136 = .agg #[.int .i64 q0,.string q1,.string q2,.int .i64 q3,.slice xa xn xc]:=hdn 0 _ 136 rfl (hl3 0 (by rfl)) rfl
        have dv4:ihF q0 q3 q1 q2 xa xn xc n m k RA 4 w' (f' 140):=hdn 4 _ 140 rfl (hl3 4 (by rfl)) rfl
        obtain⟨ro,rc,dv4,hro⟩:=dv4
        clear hdn hl3
        rw[dv0,dv4]
        clear dv0 dv4 gs4 gs21 gs10 gs11
        have HRO:=ħ hro
        clear hro
        refine Zac rfl ?_
        go_wp2_with fail
        refine (HH.o w' (HW.o.trans (hb.o.mono HW.o.size)) ro rc HRO.o).mono ?_
        rintro e w4 ⟨rfl,b4⟩
        have HB4:=ħ b4
        clear b4
        go_wp2_with fail
        exact Zaa ⟨_,rfl,HB4.o,rfl⟩
       ·obtain rfl:=Option.some.inj hi
        have dv5:f' 141 = .tuple #[.bool RA,.int .i64 0]:=hdn 5 _ 141 rfl (hl3 5 (by rfl)) rfl
        clear hdn hl3
        rw[dv5]
        clear dv5 gs4 gs21 gs10 gs11
        refine Zac rfl ?_
        go_wp2_with fail
        exact Zaa ⟨_,rfl,Below.refl _ _,rfl⟩
       ·obtain rfl:=Option.some.inj hi
        have dv6:f' 135 = .tuple #[.bool RA,.int .i64 0]:=hdn 6 _ 135 rfl (hl3 6 (by rfl)) rfl
        clear hdn hl3
        rw[dv6]
        clear dv6 gs4 gs21 gs10 gs11
        refine Zac rfl ?_
        go_wp2_with fail
        exact Zaa ⟨_,rfl,Below.refl _ _,rfl⟩
       ·obtain rfl:=Option.some.inj hi
        have dv6:f' 135 = .tuple #[.bool RA,.int .i64 0]:=hdn 6 _ 135 rfl (hl3 6 (by rfl)) rfl
        clear hdn hl3
        rw[dv6]
        clear dv6 gs4 gs21 gs10 gs11
        refine Zac rfl ?_
        go_wp2_with fail
        exact Zaa ⟨_,rfl,Below.refl _ _,rfl⟩
       ·obtain rfl:=Option.some.inj hi
        have dv7:f' 142 = .bool RA:=hdn 7 _ 142 rfl (hl3 7 (by rfl)) rfl
        clear hdn hl3
        rw[dv7]
        clear dv7 gs4 gs21 gs10 gs11
        refine Zac rfl ?_
        go_wp2_with fail
        exact Zaa ⟨_,rfl,Below.refl _ _,rfl⟩
       ·obtain rfl:=Option.some.inj hi
        have dv8:f' 143 = .int .i64 0:=hdn 8 _ 143 rfl (hl3 8 (by rfl)) rfl
        clear hdn hl3
        rw[dv8]
        clear dv8 gs4 gs21 gs10 gs11
        refine Zac rfl ?_
        go_wp2_with fail
        exact Zaa ⟨_,rfl,Below.refl _ _,rfl⟩
      case he =>
       intro listed a' w4 H hall
       have hd9:ihF q0 q3 q1 q2 xa xn xc n m k RA 9 w4 (a'.tmps.getD 22 undef):=H.done 9 _ 22 rfl (hall 9 (by decide)) rfl
       have hd10:ihF q0 q3 q1 q2 xa xn xc n m k RA 10 w4 (a'.tmps.getD 23 undef):=H.done 10 _ 23 rfl (hall 10 (by decide)) rfl
       have hb4:=ħ H.below
       have hact:=H.act [136,137,138,139,140,141,135,142,143,22,23] (Zot (by kernel_rfl))
       clear H hall
       simp only[List.foldl_cons,List.foldl_nil] at hact
       generalize a'.tmps.getD 136 undef=z136 at *
       generalize a'.tmps.getD 137 undef=z137 at *
       generalize a'.tmps.getD 138 undef=z138 at *
       generalize a'.tmps.getD 139 undef=z139 at *
       generalize a'.tmps.getD 140 undef=z140 at *
       generalize a'.tmps.getD 141 undef=z141 at *
       generalize a'.tmps.getD 135 undef=z135 at *
       generalize a'.tmps.getD 142 undef=z142 at *
       generalize a'.tmps.getD 143 undef=z143 at *
       generalize a'.tmps.getD 22 undef=z22 at *
       generalize a'.tmps.getD 23 undef=z23 at *
       subst hact
       have e9:z22 = .bool RA:=hd9
       subst e9
       clear hd9
       have e10:z23 = .int .i64 0:=hd10
       subst e10
       clear hd10
       simp only[Act.put,List.setIfInBounds_toArray,List.set_cons_succ,List.set_cons_zero]
       have hbA:=hb4
       have HW2:=ħ (hw12.o.trans (hb4.o.mono hw12.o.size))
       have Y13:=ħ (Y12.o.step hb4.o)
       have Z13:=ħ (Z12.o.step hb4.o)
       clear hb4 hbA Y12 Z12 B12 hw12 HW HH HHA X1
       have B13:=ħ (B11.o.trans (HW2.o.mono B11.o.size))
       have X1:=Z13
       have HW:=B13
       have HH:=HHB
       go_upto_region 21 with (fail)
       refine Zd2 (iqF r0 r3 r1 r2 ya yn yc n m k RB) (by kernel_rfl) (Z4n r0 r3 r1 r2 ya yn yc n m k RB) (Zeg (by kernel_rfl)) (Zp5 (by kernel_rfl)) (Zc4 (by kernel_rfl)) ?hs ?he
       case hs =>
        intro i o hi listed a' w' H hl2
        have hl3:=Za7 hl2
        have hin:i<11:=(Array.getElem?_eq_some_iff.1 hi).1
        have hb:=ħ H.below
        have s5:=H.same 5 (Zao (by kernel_rfl))
        have s21:=H.same 21 (Zao (by kernel_rfl))
        have s10:=H.same 10 (Zao (by kernel_rfl))
        have s11:=H.same 11 (Zao (by kernel_rfl))
        have hdn:=H.done
        have hdf:=H.defers
        have hts:=H.tsize
        clear hl2 H
        obtain⟨t',df⟩:=a'
        obtain⟨f',rfl⟩:=Z50 t' hts
        have hdf':df=[]:=hdf
        subst hdf'
        have gs5:f' 5 = .pointer (some ⟨w.heap.size+1,0,none⟩):=s5
        have gs21:f' 21 = .int .i64 (k:Nat):=s21
        have gs10:f' 10 = .int .i64 (n:Nat):=s10
        have gs11:f' 11 = .int .i64 (m:Nat):=s11
        clear s5 s21 s10 s11
        clear hdf hts
        have hcases:=Zjq i hin
        clear hin
        rcases hcases with rfl | rfl | rfl | rfl | rfl | rfl | rfl | rfl | rfl | rfl | rfl
        ·obtain rfl:=Option.some.inj hi
         clear hdn hl3
         rw[gs5]
         clear gs5 gs21 gs10 gs11
         have X2:=X1.o.step hb.o
         refine Zac rfl ?_
         go_wp2_with (refine wpList_load_row rfl 25 (.tmp 5) rfl (w.heap.size+1) ?x1 25 #[.int .i64 r0,.string r1,.string r2,.int .i64 r3,.slice ya yn yc] (0,0) _ X2 Tryz.underlying25 rfl (Zae _ rfl) ?_;(case x1=>rfl))
         exact Zaa ⟨_,rfl,Below.refl _ _,rfl⟩
        ·obtain rfl:=Option.some.inj hi
         clear hdn hl3
         rw[gs21]
         clear gs5 gs21 gs10 gs11
         refine Zac rfl ?_
         go_wp2_with fail
         exact Zaa ⟨_,rfl,Below.refl _ _,rfl⟩
        ·obtain rfl:=Option.some.inj hi
         clear hdn hl3
         rw[gs10]
         clear gs5 gs21 gs10 gs11
         refine Zac rfl ?_
         go_wp2_with fail
         exact Zaa ⟨_,rfl,Below.refl _ _,rfl⟩
        ·obtain rfl:=Option.some.inj hi
         clear hdn hl3
         rw[gs11]
         clear gs5 gs21 gs10 gs11
         refine Zac rfl ?_
         go_wp2_with fail
         exact Zaa ⟨_,rfl,Below.refl _ _,rfl⟩
        ·obtain rfl:=Option.some.inj hi
         have dv1:f' 146 = .int .i64 (k:Nat):=hdn 1 _ 146 rfl (hl3 1 (by rfl)) rfl
         have dv2:f' 147 = .int .i64 (n:Nat):=hdn 2 _ 147 rfl (hl3 2 (by rfl)) rfl
         have dv3:f' 148 = .int .i64 (m:Nat):=hdn 3 _ 148 rfl (hl3 3 (by rfl)) rfl
         clear hdn hl3
         rw[dv1,dv2,dv3]
         clear dv1 dv2 dv3 gs5 gs21 gs10 gs11
         refine Zac rfl ?_
         go_wp2_with fail
         refine (HAS.o w').mono ?_
         rintro e w4 ⟨⟨ro,rc,rfl,ho⟩,b4⟩
         have HO:=ħ (ho.bndR (Zer _ _ _).symm)
         have HB4:=ħ b4
         clear ho b4
         go_wp2_with fail
         exact Zaa ⟨_,rfl,HB4.o,ro,rc,rfl,HO.o⟩
        ·obtain rfl:=Option.some.inj hi
         have dv0:f' 145 = .agg #[.int .i64 r0,.string r1,.string r2,.int .i64 r3,.slice ya yn yc]:=hdn 0 _ 145 rfl (hl3 0 (by rfl)) rfl
         have dv4:iqF r0 r3 r1 r2 ya yn yc n m k RB 4 w' (f' 149):=hdn 4 _ 149 rfl (hl3 4 (by rfl)) rfl
         obtain⟨ro,rc,dv4,hro⟩:=dv4
         clear hdn hl3
         rw[dv0,dv4]
         clear dv0 dv4 gs5 gs21 gs10 gs11
         have HRO:=ħ hro
         clear hro
         refine Zac rfl ?_
         go_wp2_with fail
         refine (HH.o w' (HW.o.trans (hb.o.mono HW.o.size)) ro rc HRO.o).mono ?_
         rintro e w4 ⟨rfl,b4⟩
         have HB4:=ħ b4
         clear b4
         go_wp2_with fail
         exact Zaa ⟨_,rfl,HB4.o,rfl⟩
        ·obtain rfl:=Option.some.inj hi
         have dv5:f' 150 = .tuple #[.bool RB,.int .i64 0]:=hdn 5 _ 150 rfl (hl3 5 (by rfl)) rfl
         clear hdn hl3
         rw[dv5]
         clear dv5 gs5 gs21 gs10 gs11
         refine Zac rfl ?_
         go_wp2_with fail
         exact Zaa ⟨_,rfl,Below.refl _ _,rfl⟩
        ·obtain rfl:=Option.some.inj hi
         have dv6:f' 144 = .tuple #[.bool RB,.int .i64 0]:=hdn 6 _ 144 rfl (hl3 6 (by rfl)) rfl
         clear hdn hl3
         rw[dv6]
         clear dv6 gs5 gs21 gs10 gs11
         refine Zac rfl ?_
         go_wp2_with fail
         exact Zaa ⟨_,rfl,Below.refl _ _,rfl⟩
        ·obtain rfl:=Option.some.inj hi
         have dv6:f' 144 = .tuple #[.bool RB,.int .i64 0]:=hdn 6 _ 144 rfl (hl3 6 (by rfl)) rfl
         clear hdn hl3
         rw[dv6]
         clear dv6 gs5 gs21 gs10 gs11
         refine Zac rfl ?_
         go_wp2_with fail
         exact Zaa ⟨_,rfl,Below.refl _ _,rfl⟩
        ·obtain rfl:=Option.some.inj hi
         have dv7:f' 151 = .bool RB:=hdn 7 _ 151 rfl (hl3 7 (by rfl)) rfl
         clear hdn hl3
         rw[dv7]
         clear dv7 gs5 gs21 gs10 gs11
         refine Zac rfl ?_
         go_wp2_with fail
         exact Zaa ⟨_,rfl,Below.refl _ _,rfl⟩
        ·obtain rfl:=Option.some.inj hi
         have dv8:f' 152 = .int .i64 0:=hdn 8 _ 152 rfl (hl3 8 (by rfl)) rfl
         clear hdn hl3
         rw[dv8]
         clear dv8 gs5 gs21 gs10 gs11
         refine Zac rfl ?_
         go_wp2_with fail
         exact Zaa ⟨_,rfl,Below.refl _ _,rfl⟩
       case he =>
        intro listed a' w4 H hall
        have hd9:iqF r0 r3 r1 r2 ya yn yc n m k RB 9 w4 (a'.tmps.getD 24 undef):=H.done 9 _ 24 rfl (hall 9 (by decide)) rfl
        have hd10:iqF r0 r3 r1 r2 ya yn yc n m k RB 10 w4 (a'.tmps.getD 25 undef):=H.done 10 _ 25 rfl (hall 10 (by decide)) rfl
        have hb4:=ħ H.below
        have hact:=H.act [145,146,147,148,149,150,144,151,152,24,25] (Zot (by kernel_rfl))
        clear H hall
        simp only[List.foldl_cons,List.foldl_nil] at hact
        generalize a'.tmps.getD 145 undef=u145 at *
        generalize a'.tmps.getD 146 undef=u146 at *
        generalize a'.tmps.getD 147 undef=u147 at *
        generalize a'.tmps.getD 148 undef=u148 at *
        generalize a'.tmps.getD 149 undef=u149 at *
        generalize a'.tmps.getD 150 undef=u150 at *
        generalize a'.tmps.getD 144 undef=u144 at *
        generalize a'.tmps.getD 151 undef=u151 at *
        generalize a'.tmps.getD 152 undef=u152 at *
        generalize a'.tmps.getD 24 undef=u24 at *
        generalize a'.tmps.getD 25 undef=u25 at *
        subst hact
        have e9:u24 = .bool RB:=hd9
        subst e9
        clear hd9
        have e10:u25 = .int .i64 0:=hd10
        subst e10
        clear hd10
        simp only[Act.put,List.setIfInBounds_toArray,List.set_cons_succ,List.set_cons_zero]
        have HW3:=ħ (HW2.o.trans (hb4.o.mono HW2.o.size))
        have Y14:=ħ (Y13.o.step hb4.o)
        have Z14:=ħ (Z13.o.step hb4.o)
        clear hb4 HW2 Y13 Z13 B13 HW HH HHB X1
        have e4:IntKind.i64.wrap ((k:Int)-1)=(k:Int)-1:=IntWalk.i64_in _ (by omega)
        cases RA with
        | true =>
         cases RB with
         | true =>
          go_wp2_with fail
          go_roundw
          case rel=>exact⟨k,rfl,by omega,by rw[HDDA.o];rfl,by rw[HDDB.o];rfl,Y14,Z14,HW3⟩
          case measure=>simp only[intOf];omega
         | false =>
          go_wp2_with fail
          go_roundw
          case rel=>exact⟨k,rfl,by omega,by rw[HDDA.o];rfl,by rw[HDDB.o];rfl,Y14,Z14,HW3⟩
          case measure=>simp only[intOf];omega
        | false =>
         cases RB with
         | true =>
          go_wp2_with fail
          go_roundw
          case rel=>exact⟨k,rfl,by omega,by rw[HDDA.o];rfl,by rw[HDDB.o];rfl,Y14,Z14,HW3⟩
          case measure=>simp only[intOf];omega
         | false =>
          go_wp2_with fail
          go_roundw
          case rel=>exact⟨k,rfl,by omega,by rw[HDDA.o];rfl,by rw[HDDB.o];rfl,Y14,Z14,HW3⟩
          case measure=>simp only[intOf];omega
     ·obtain rfl:t=0:=by omega
      rw[show (((0:Nat):Int)-1)=(-1:Int) by omega,Nat.sub_zero,HFA.o,HFB.o]
      have B12:=ħ (B11.o.trans (hw12.o.mono B11.o.size))
      have HRA3:=ħ (HRA2.o.below hw12.o)
      have HRB3:=ħ (HRB.o.below hw12.o)
      clear hw12 Y12 Z12 HRA2 HRB HDA HDB HZA HZB HFA HFB HHP HHQ
      cases FA with
      | none =>
       obtain rfl:OA=true:=by rw[← HOA.o];rfl
       obtain rfl:LA=[]:=by rw[← HLLA.o];rfl
       obtain rfl:na=0:=HNA.o.symm
       clear HOA HLLA HNA HLA HRA3
       cases FB with
       | none =>
        obtain rfl:OB=true:=by rw[← HOB.o];rfl
        obtain rfl:LB=[]:=by rw[← HLLB.o];rfl
        obtain rfl:nb=0:=HNB.o.symm
        clear HOB HLLB HNB HLB HRB3
        go_wp2_with fail
        go_ret
        exact⟨rfl,B12.o⟩
       | some kb =>
        obtain rfl:OB=false:=by rw[← HOB.o];rfl
        obtain rfl:LB=Zkq n m kb:=by rw[← HLLB.o];rfl
        obtain rfl:n=nb:=by rw[← HNB.o,HAL.o]
        have hkb:=(HLB.o kb rfl).1
        have ikb:¬ ((kb:Int)<0):=by omega
        have HRBD:=ħ (HASF.o kb hkb)
        clear HOB HLLB HNB HLB
        go_wp2_with fail
        refine (HRBD.o _).mono ?_
        rintro e w15 ⟨a15,c15,rfl,ha,b15⟩
        have B15:=ħ (B12.o.trans (b15.mono B12.o.size))
        have HQ:=ħ (fun lc rc=>HSAM.o kb w15 rb lc a15 rc (HRB3.o.below b15) ha)
        clear ha b15
        go_wp2_with fail
        refine (HQ.o _ _).mono ?_
        rintro e w16 ⟨rfl,b16⟩
        have B16:=ħ (B15.o.trans (b16.mono B15.o.size))
        clear HQ B15 b16
        go_wp2_with fail
        go_ret
        exact⟨rfl,B16.o⟩
      | some ka =>
       obtain rfl:OA=false:=by rw[← HOA.o];rfl
       obtain rfl:LA=Zkq n m ka:=by rw[← HLLA.o];rfl
       obtain rfl:n=na:=by rw[← HNA.o,HAL.o]
       have hka:=(HLA.o ka rfl).1
       have ika:¬ ((ka:Int)<0):=by omega
       have ja:(0:Int)≤(ka:Int):=by omega
       have HRAD:=ħ (HASF.o ka hka)
       clear HOA HLLA HNA HLA
       cases FB with
       | none =>
        obtain rfl:OB=true:=by rw[← HOB.o];rfl
        obtain rfl:LB=[]:=by rw[← HLLB.o];rfl
        obtain rfl:nb=0:=HNB.o.symm
        clear HOB HLLB HNB HLB HRB3
        go_wp2_with fail
        refine (HRAD.o _).mono ?_
        rintro e w13 ⟨a13,c13,rfl,ha,b13⟩
        have B13:=ħ (B12.o.trans (b13.mono B12.o.size))
        have HQ:=ħ (fun lc rc=>HSAM.o ka w13 ra lc a13 rc (HRA3.o.below b13) ha)
        clear ha B12 HRAD
        clear b13
        go_wp2_with fail
        refine (HQ.o _ _).mono ?_
        rintro e w14 ⟨rfl,b14⟩
        have B14:=ħ (B13.o.trans (b14.mono B13.o.size))
        clear HQ B13
        go_wp2_with fail
        go_ret
        exact⟨rfl,B14.o⟩
       | some kb =>
        obtain rfl:OB=false:=by rw[← HOB.o];rfl
        obtain rfl:LB=Zkq n m kb:=by rw[← HLLB.o];rfl
        obtain rfl:n=nb:=by rw[← HNB.o,HAL.o]
        have hkb:=(HLB.o kb rfl).1
        have ikb:¬ ((kb:Int)<0):=by omega
        have HRBD:=ħ (HASF.o kb hkb)
        clear HOB HLLB HNB HLB
        go_wp2_with fail
        refine (HRAD.o _).mono ?_
        rintro e w13 ⟨a13,c13,rfl,ha,b13⟩
        have B13:=ħ (B12.o.trans (b13.mono B12.o.size))
        have HQ:=ħ (fun lc rc=>HSAM.o ka w13 ra lc a13 rc (HRA3.o.below b13) ha)
        have HRB4:=ħ (HRB3.o.below b13)
        clear HRB3
        clear ha B12 HRAD
        clear b13
        go_wp2_with fail
        refine (HQ.o _ _).mono ?_
        rintro e w14 ⟨rfl,b14⟩
        have B14:=ħ (B13.o.trans (b14.mono B13.o.size))
        clear HQ B13
        have HRB3:=ħ (HRB4.o.below b14)
        have B12:=B14
        go_wp2_with fail
        refine (HRBD.o _).mono ?_
        rintro e w15 ⟨a15,c15,rfl,ha,b15⟩
        have B15:=ħ (B12.o.trans (b15.mono B12.o.size))
        have HQ:=ħ (fun lc rc=>HSAM.o kb w15 rb lc a15 rc (HRB3.o.below b15) ha)
        clear ha b15
        go_wp2_with fail
        refine (HQ.o _ _).mono ?_
        rintro e w16 ⟨rfl,b16⟩
        have B16:=ħ (B15.o.trans (b16.mono B15.o.size))
        clear HQ B15 b16
        go_wp2_with fail
        go_ret
        exact⟨rfl,B16.o⟩
end Go.Proofs.YtmkdfbelbcocpaaGreatDoor
