import Derived.Test.YtbcgocpihobjnaaGreatDoorCI47
set_option linter.all false
set_option maxHeartbeats 32000000
set_option maxRecDepth 100000
namespace Go.Proofs.YtbcgocpihobjnaaGreatDoor
open Go.RowKit Go.Sort Go.Maps
theorem Z4q {w:World} {c:Crw} {qo mo uo:Option Addr} {qn mn un qc mc uc:Nat} (h:Zid w c [.slice qo qn qc,.slice mo mn mc,.slice uo un uc]):Zcl w (fun _=>True) c.qs qo∧Zip w c.ms mo:=by
 obtain⟨qo',qc',mo',mc',uo',uc',he,h1,h2,h3,h4⟩:=h;simp only[List.cons.injEq,Value.slice.injEq,and_true] at he;obtain⟨⟨rfl,rfl,rfl⟩,⟨rfl,rfl,rfl⟩,rfl,rfl,rfl⟩:=he;exact⟨h1,h2⟩
theorem Zs4 (t:Array Value) (h:t.size=132):∃ f:Nat→Value,t=#[f 0,f 1,f 2,f 3,f 4,f 5,f 6,f 7,f 8,f 9,f 10,f 11,f 12,f 13,f 14,f 15,f 16,f 17,f 18,f 19,f 20,f 21,f 22,f 23,f 24,f 25,f 26,f 27,f 28,f 29,f 30,f 31,f 32,f 33,f 34,f 35,f 36,f 37,f 38,f 39,f 40,f 41,f 42,f 43,f 44,f 45,f 46,f 47,f 48,f 49,f 50,f 51,f 52,f 53,f 54,f 55,f 56,f 57,f 58,f 59,f 60,f 61,f 62,f 63,f 64,f 65,f 66,f 67,f 68,f 69,f 70,f 71,f 72,f 73,f 74,f 75,f 76,f 77,f 78,f 79,f 80,f 81,f 82,f 83,f 84,f 85,f 86,f 87,f 88,f 89,f 90,f 91,f 92,f 93,f 94,f 95,f 96,f 97,f 98,f 99,f 100,f 101,f 102,f 103,f 104,f 105,f 106,f 107,f 108,f 109,f 110,f 111,f 112,f 113,f 114,f 115,f 116,f 117,f 118,f 119,f 120,f 121,f 122,f 123,f 124,f 125,f 126,f 127,f 128,f 129,f 130,f 131]:=by
 obtain⟨l⟩:=t;have hl:l.length=132:=h
 have e:l=(List.range 132).map (fun i=>l.getD i undef):=by
  apply List.ext_getElem
  ·simp[hl]
  ·intro i h1 h2
   simp[List.getD,h1]
 exact⟨fun i=>l.getD i undef,congrArg List.toArray e⟩
theorem Zmn (i:Nat) (h:i<18):i=0∨i=1∨i=2∨i=3∨i=4∨i=5∨i=6∨i=7∨i=8∨i=9∨i=10∨i=11∨i=12∨i=13∨i=14∨i=15∨i=16∨i=17:=by omega
theorem Zrd (i:Nat) (h:i<11):i=0∨i=1∨i=2∨i=3∨i=4∨i=5∨i=6∨i=7∨i=8∨i=9∨i=10:=by omega
def Z5r (X A iw gq oq qn qc gm om mn mc j nb bc an ac:Nat) (bo ao:Option Addr) (a0 a3 et:Int) (a1 a2:ByteArray) (bt:Bool) (i:Nat) (W:World) (v:Value):Prop:=match i with
 | 0=>v = .pointer (some ⟨X,0,none⟩)
 | 1=>v = .slice (some ⟨gq,oq,none⟩) qn qc
 | 2=>v = .pointer (some ⟨A,0,none⟩)
 | 3=>v = .int .i64 (iw:Nat)
 | 4=>v = .pointer (some ⟨gq,oq+iw*5,none⟩)
 | 5=>v = .agg #[.int .i64 a0,.string a1,.string a2,.int .i64 a3,.slice ao an ac]
 | 6=>v = .pointer (some ⟨X,1,none⟩)
 | 7=>v = .slice (some ⟨gm,om,none⟩) mn mc
 | 8=>v = .int .i64 (j:Nat)
 | 9=>v = .pointer (some ⟨gm,om+j*3,none⟩)
 | 10=>v = .pointer (some ⟨gm,om+j*3,none⟩)
 | 11=>v = .slice bo nb bc
 | 12=>v = .tuple #[.bool bt,.int .i64 et]
 | 13=>v = .tuple #[.bool bt,.int .i64 et]
 | 14=>v = .bool bt
 | 15=>v = .int .i64 et
 | 16=>v = .bool bt
 | 17=>v = .int .i64 et
 | _=>True
theorem Zzc (X A iw gq oq qn qc gm om mn mc j nb bc an ac:Nat) (bo ao:Option Addr) (a0 a3 et:Int) (a1 a2:ByteArray) (bt:Bool):∀ i w w' v,Z5r X A iw gq oq qn qc gm om mn mc j nb bc an ac bo ao a0 a3 et a1 a2 bt i w v→Below w.heap.size w w'→Z5r X A iw gq oq qn qc gm om mn mc j nb bc an ac bo ao a0 a3 et a1 a2 bt i w' v:=by
 intro i w w' v h hb
 match i with
 | 0=>exact h
 | 1=>exact h
 | 2=>exact h
 | 3=>exact h
 | 4=>exact h
 | 5=>exact h
 | 6=>exact h
 | 7=>exact h
 | 8=>exact h
 | 9=>exact h
 | 10=>exact h
 | 11=>exact h
 | 12=>exact h
 | 13=>exact h
 | 14=>exact h
 | 15=>exact h
 | 16=>exact h
 | 17=>exact h
 | k+18=>trivial
def Z5s (X S ks gq oq qn qc gm om mn mc j nb bc bn bcc:Nat) (bo bO:Option Addr) (b0 b3 et:Int) (b1 b2:ByteArray) (bt:Bool) (i:Nat) (W:World) (v:Value):Prop:=match i with
 | 0=>v = .pointer (some ⟨X,0,none⟩)
 | 1=>v = .slice (some ⟨gq,oq,none⟩) qn qc
 | 2=>v = .pointer (some ⟨S,0,none⟩)
 | 3=>v = .int .i64 (ks:Nat)
 | 4=>v = .pointer (some ⟨gq,oq+ks*5,none⟩)
 | 5=>v = .agg #[.int .i64 b0,.string b1,.string b2,.int .i64 b3,.slice bO bn bcc]
 | 6=>v = .pointer (some ⟨X,1,none⟩)
 | 7=>v = .slice (some ⟨gm,om,none⟩) mn mc
 | 8=>v = .int .i64 (j:Nat)
 | 9=>v = .pointer (some ⟨gm,om+j*3,none⟩)
 | 10=>v = .pointer (some ⟨gm,om+j*3,none⟩)
 | 11=>v = .slice bo nb bc
 | 12=>v = .tuple #[.bool bt,.int .i64 et]
 | 13=>v = .tuple #[.bool bt,.int .i64 et]
 | 14=>v = .bool bt
 | 15=>v = .int .i64 et
 | 16=>v = .bool bt
 | 17=>v = .int .i64 et
 | _=>True
theorem Zzd (X S ks gq oq qn qc gm om mn mc j nb bc bn bcc:Nat) (bo bO:Option Addr) (b0 b3 et:Int) (b1 b2:ByteArray) (bt:Bool):∀ i w w' v,Z5s X S ks gq oq qn qc gm om mn mc j nb bc bn bcc bo bO b0 b3 et b1 b2 bt i w v→Below w.heap.size w w'→Z5s X S ks gq oq qn qc gm om mn mc j nb bc bn bcc bo bO b0 b3 et b1 b2 bt i w' v:=by
 intro i w w' v h hb
 match i with
 | 0=>exact h
 | 1=>exact h
 | 2=>exact h
 | 3=>exact h
 | 4=>exact h
 | 5=>exact h
 | 6=>exact h
 | 7=>exact h
 | 8=>exact h
 | 9=>exact h
 | 10=>exact h
 | 11=>exact h
 | 12=>exact h
 | 13=>exact h
 | 14=>exact h
 | 15=>exact h
 | 16=>exact h
 | 17=>exact h
 | k+18=>trivial
def Z2m (X A S iw ks gq oq qn qc an ac bn bcc:Nat) (ao bO:Option Addr) (a0 a3 b0 b3 ec:Int) (a1 a2 b1 b2:ByteArray) (ob:Bool) (i:Nat) (W:World) (v:Value):Prop:=match i with
 | 0=>v = .pointer (some ⟨X,0,none⟩)
 | 1=>v = .slice (some ⟨gq,oq,none⟩) qn qc
 | 2=>v = .pointer (some ⟨S,0,none⟩)
 | 3=>v = .int .i64 (ks:Nat)
 | 4=>v = .pointer (some ⟨gq,oq+ks*5,none⟩)
 | 5=>v = .agg #[.int .i64 b0,.string b1,.string b2,.int .i64 b3,.slice bO bn bcc]
 | 6=>v = .pointer (some ⟨X,0,none⟩)
 | 7=>v = .slice (some ⟨gq,oq,none⟩) qn qc
 | 8=>v = .pointer (some ⟨A,0,none⟩)
 | 9=>v = .int .i64 (iw:Nat)
 | 10=>v = .pointer (some ⟨gq,oq+iw*5,none⟩)
 | 11=>v = .agg #[.int .i64 a0,.string a1,.string a2,.int .i64 a3,.slice ao an ac]
 | 12=>∃ z,v = .tuple #[z,.bool ob,.int .i64 ec]
 | 13=>∃ z,v = .tuple #[z,.bool ob,.int .i64 ec]
 | 14=>True
 | 15=>v = .bool ob
 | 16=>v = .int .i64 ec
 | 17=>True
 | 18=>v = .bool ob
 | 19=>v = .int .i64 ec
 | _=>True
theorem Zze (X A S iw ks gq oq qn qc an ac bn bcc:Nat) (ao bO:Option Addr) (a0 a3 b0 b3 ec:Int) (a1 a2 b1 b2:ByteArray) (ob:Bool):∀ i w w' v,Z2m X A S iw ks gq oq qn qc an ac bn bcc ao bO a0 a3 b0 b3 ec a1 a2 b1 b2 ob i w v→Below w.heap.size w w'→Z2m X A S iw ks gq oq qn qc an ac bn bcc ao bO a0 a3 b0 b3 ec a1 a2 b1 b2 ob i w' v:=by
 intro i w w' v h hb
 match i with
 | 0=>exact h
 | 1=>exact h
 | 2=>exact h
 | 3=>exact h
 | 4=>exact h
 | 5=>exact h
 | 6=>exact h
 | 7=>exact h
 | 8=>exact h
 | 9=>exact h
 | 10=>exact h
 | 11=>exact h
 | 12=>exact h
 | 13=>exact h
 | 14=>trivial
 | 15=>exact h
 | 16=>exact h
 | 17=>trivial
 | 18=>exact h
 | 19=>exact h
 | k+20=>trivial
def Z4v (X A S iw ks un uc qn qc mn mc:Nat) (qo mo uo:Option Addr) (x1 x2 x3:Int) (ts tw:List Int) (i:Nat) (W:World) (v:Value):Prop:=match i with
 | 0=>v = .bool true
 | 1=>v = .bool true
 | 2=>v = .agg #[.slice qo qn qc,.slice mo mn mc,.slice uo un uc]
 | 3=>v = .agg #[.int .i64 (ks:Nat),.int .i64 x1,.int .i64 x2,.int .i64 x3]
 | 4=>∃ o cap,v = .slice o ts.length cap∧Zal Zbk W o ts
 | 5=>v = .agg #[.slice qo qn qc,.slice mo mn mc,.slice uo un uc]
 | 6=>v = .agg #[.int .i64 (iw:Nat),.int .i64 x1,.int .i64 x2,.int .i64 x3]
 | 7=>∃ o cap,v = .slice o tw.length cap∧Zal Zbk W o tw
 | 8=>v = .bool true
 | 9=>v = .bool true
 | 10=>v = .bool true
 | _=>True
theorem Zzf (X A S iw ks un uc qn qc mn mc:Nat) (qo mo uo:Option Addr) (x1 x2 x3:Int) (ts tw:List Int):∀ i w w' v,Z4v X A S iw ks un uc qn qc mn mc qo mo uo x1 x2 x3 ts tw i w v→Below w.heap.size w w'→Z4v X A S iw ks un uc qn qc mn mc qo mo uo x1 x2 x3 ts tw i w' v:=by
 intro i w w' v h hb
 match i with
 | 0=>exact h
 | 1=>exact h
 | 2=>exact h
 | 3=>exact h
 | 4=>obtain⟨o,cap,h1,h2⟩:=h;exact⟨o,cap,h1,h2.below hb⟩
 | 5=>exact h
 | 6=>exact h
 | 7=>obtain⟨o,cap,h1,h2⟩:=h;exact⟨o,cap,h1,h2.below hb⟩
 | 8=>exact h
 | 9=>exact h
 | 10=>exact h
 | k+11=>trivial
theorem Zpv (w:World) (c:Crw) (cs:List Value) (B:Nat) (x:Use) (i k:Int) (hi0:0≤i) (hi1:i≤255) (hk0:0≤k) (hk1:k≤255) (hcw:Zid w c cs) (hG:Tab w B) (hL:LenC c) (hby:∀ p∈c.qs,ByL p) (hnm:∀ m∈c.ms,∀ b∈m.b,NmL b.n) :
  Calls Tryz.prog 17 #[.agg cs.toArray,.agg (Zcp x).toArray,.int .u8 i,.int .u8 k] w fun e w'=>e = .returned (.bool true)∧Below w.heap.size w w':=by
 have HVC:=ħ (fun W (hc:Zid W c cs) (hT:Tab W B) (hok:CrwOk c)=>Zmc W c cs hc B hT hok);have HTB:=ħ (fun W (hW:Below w.heap.size w W)=>Zbu.step (w:=w) hG hW);have HCW:=ħ (fun W (hW:Below w.heap.size w W)=>hcw.below hW);have HFK:=ħ (fun hf=>Z4n (c:=c) hf hL hby hnm);have HFW:=ħ (fun W (hW:Below w.heap.size w W)=>Z2f W c cs (hcw.below hW) hL);have hun:=hL.nu;have hmn:=hL.nm;have hqn:=hL.nq;obtain⟨qo,qc,mo,mc,uo,uc,rfl,-⟩:=hcw;clear hL hby hnm hG;generalize hqe:c.qs.length=qn at *;generalize hme:c.ms.length=mn at *;generalize hue:c.us.length=un at *;have HUE:=ħ hue;have HME:=ħ hme;have HQE:=ħ hqe;clear hue hme hqe;obtain⟨x0,x1,x2,x3⟩:=x;have X1:=ħ (Zae.new w 26 [.slice qo qn qc,.slice mo mn mc,.slice uo un uc]);have Y1:=ħ (Zae.new (w.alloc (.cells #[.slice qo qn qc,.slice mo mn mc,.slice uo un uc] 26)) 39 [.int .i64 x0,.int .i64 x1,.int .i64 x2,.int .i64 x3]);have b1:=(Below.refl w.heap.size w).alloc (Nat.le_refl _) (.cells #[.slice qo qn qc,.slice mo mn mc,.slice uo un uc] 26);have b2:=b1.alloc b1.size (.cells #[.int .i64 x0,.int .i64 x1,.int .i64 x2,.int .i64 x3] 39)
 have e1:(w.alloc (.cells #[.slice qo qn qc,.slice mo mn mc,.slice uo un uc] 26)).heap.size=w.heap.size+1:=by rw[World.size_alloc]
 have Y1:Hid (Zae ((w.alloc (.cells #[.slice qo qn qc,.slice mo mn mc,.slice uo un uc] 26)).alloc (.cells #[.int .i64 x0,.int .i64 x1,.int .i64 x2,.int .i64 x3] 39)) (w.heap.size+1) 39 [.int .i64 x0,.int .i64 x1,.int .i64 x2,.int .i64 x3]):=ħ (by have:=Y1.o;rw[e1] at this;exact this);have X1:Hid (Zae ((w.alloc (.cells #[.slice qo qn qc,.slice mo mn mc,.slice uo un uc] 26)).alloc (.cells #[.int .i64 x0,.int .i64 x1,.int .i64 x2,.int .i64 x3] 39)) w.heap.size 26 [.slice qo qn qc,.slice mo mn mc,.slice uo un uc]):=ħ (X1.o.step ((Below.refl _ _).alloc (Nat.le_refl _) (.cells #[.int .i64 x0,.int .i64 x1,.int .i64 x2,.int .i64 x3] 39)));have B1:=ħ b2;clear b1 b2 e1;change Calls Tryz.prog 17 #[.agg #[.slice qo qn qc,.slice mo mn mc,.slice uo un uc],.agg #[.int .i64 x0,.int .i64 x1,.int .i64 x2,.int .i64 x3],.int .u8 i,.int .u8 k] w _
 go_enter Tryz.func17,Tryz.ntmps17
 go_upto_region 1 with (fail)
 generalize (w.alloc (.cells #[.slice qo qn qc,.slice mo mn mc,.slice uo un uc] 26)).alloc (.cells #[.int .i64 x0,.int .i64 x1,.int .i64 x2,.int .i64 x3] 39)=w1 at *
 go_wp2_with fail
 refine (Zyw w1 B (HTB.o w1 B1.o)).mono ?_;rintro e w2 ⟨rfl,b2⟩;have X2:=ħ (X1.o.step b2);have Y2:=ħ (Y1.o.step b2);have B2:=ħ (B1.o.trans (b2.mono B1.o.size));clear b2 X1 B1 Y1
 go_upto_region 2 with (fail)
 go_wp2_with (refine wpList_load_row rfl 26 (.tmp 4) rfl (w.heap.size) ?x1 26 #[.slice qo qn qc,.slice mo mn mc,.slice uo un uc] (0,0) _ X2.o Tryz.underlying26 rfl (Zek _ _ _) ?_;(case x1=>rfl))
 refine (HFW.o w2 B2.o).mono ?_;rintro e w3 ⟨rfl,b3⟩;have X3:=ħ (X2.o.step b3);have Y3:=ħ (Y2.o.step b3);have B3:=ħ (B2.o.trans (b3.mono B2.o.size));clear b3 X2 B2 HFW Y2;obtain⟨V,hV⟩:∃ V,Z5q c=V:=⟨_,rfl⟩;rw[hV];have HV:=ħ hV;clear hV
 cases V with
 | false =>
  go_wp2_with fail
  go_ret;exact⟨rfl,B3.o⟩
 | true =>
  obtain⟨hok,h999,h65,h129⟩:=HFK.o HV.o;have HOK:=ħ hok;clear hok;have HAG:=ħ (fun W (hW:Below w.heap.size w W)=>(⟨HCW.o W hW,HTB.o W hW,HOK.o,by rw[HUE.o];exact h999⟩:ArgC W c [.slice qo qn qc,.slice mo mn mc,.slice uo un uc] B));clear HFK HTB HCW HOK;have HVC:=ħ (fun W (hW:Below w.heap.size w W)=>HVC.o W (HAG.o W hW).crw (HAG.o W hW).tab (HAG.o W hW).ok)
  go_wp2_with (refine Zav (by rfl) 26 (.tmp 4) rfl (w.heap.size) ?x2 26 #[.slice qo qn qc,.slice mo mn mc,.slice uo un uc] (0,0) _ X3.o Tryz.underlying26 rfl (Zek _ _ _) ?_;(case x2=>rfl))
  refine (HVC.o w3 B3.o).mono ?_;rintro e w4 ⟨rfl,b4⟩;have X4:=ħ (X3.o.step b4);have Y4:=ħ (Y3.o.step b4);have B4:=ħ (B3.o.trans (b4.mono B3.o.size));clear b4 X3 B3 HVC Y3;obtain⟨vv,hvv⟩:∃ x,Zaq c=x:=⟨_,rfl⟩;rw[hvv]
  cases vv with
  | false =>
   go_wp2_with fail
   go_ret;exact⟨rfl,B4.o⟩
  | true =>
  have HVV:=ħ hvv;clear hvv;have c0:=X4.o.cell 0 _ rfl;by_cases h4:qn=0
  ·have h4i:(((qn:Nat):Int)==0)=true:=by simpa using h4
   go_wp2_with fail
   go_ret;exact⟨rfl,B4.o⟩
  have h4i:(((qn:Nat):Int)==0)=false:=by simpa using h4
  have h4j:¬ ((qn:Nat):Int)=0:=by omega
  obtain⟨yi,rfl⟩:∃ y:Nat,i=(y:Int):=⟨i.toNat,by omega⟩;obtain⟨yk,rfl⟩:∃ y:Nat,k=(y:Int):=⟨k.toNat,by omega⟩;obtain⟨iw,hiw⟩:∃ m:Nat,yi%qn=m:=⟨_,rfl⟩;obtain⟨ks,hks⟩:∃ m:Nat,yk%qn=m:=⟨_,rfl⟩
  have hil:iw<qn:=by rw[← hiw];exact Nat.mod_lt _ (by omega)
  have hkl:ks<qn:=by rw[← hks];exact Nat.mod_lt _ (by omega)
  have hmi1:((yi:Int)%((qn:Nat):Int))=((iw:Nat):Int):=by rw[← hiw];rfl
  have hmi2:Int.tmod (yi:Int) ((qn:Nat):Int)=((iw:Nat):Int):=by rw[← hiw];rfl
  have hmk1:((yk:Int)%((qn:Nat):Int))=((ks:Nat):Int):=by rw[← hks];rfl
  have hmk2:Int.tmod (yk:Int) ((qn:Nat):Int)=((ks:Nat):Int):=by rw[← hks];rfl
  have ecv1:IntKind.i64.wrap ((yi:Nat):Int)=((yi:Nat):Int):=IntWalk.i64_in _ (by omega);have ecm1:IntKind.i64.wrap ((iw:Nat):Int)=((iw:Nat):Int):=IntWalk.i64_in _ (by omega);have ecv2:IntKind.i64.wrap ((yk:Nat):Int)=((yk:Nat):Int):=IntWalk.i64_in _ (by omega);have ecm2:IntKind.i64.wrap ((ks:Nat):Int)=((ks:Nat):Int):=IntWalk.i64_in _ (by omega);obtain⟨q,hq⟩:∃ q,c.qs[iw]?=some q:=⟨_,List.getElem?_eq_getElem (by rw[HQE.o];exact hil)⟩;obtain⟨p,hp⟩:∃ q,c.qs[ks]?=some q:=⟨_,List.getElem?_eq_getElem (by rw[HQE.o];exact hkl)⟩;have HVP:=ħ (Zat HVV.o);have hvq:=HVP.o.2.2.2.1 q (List.mem_of_getElem? hq);have hvp:=HVP.o.2.2.2.1 p (List.mem_of_getElem? hp);have hoq:=(HAG.o w4 B4.o).ok.q q (List.mem_of_getElem? hq);have hop:=(HAG.o w4 B4.o).ok.q p (List.mem_of_getElem? hp);have HTS:=ħ (fun W (hW:Below w.heap.size w W)=>Zps W c _ B (Zih ⟨x0,x1,x2,x3⟩ (ks:Int)) (HAG.o W hW));have HTW:=ħ (fun W (hW:Below w.heap.size w W)=>Zps W c _ B (Zih ⟨x0,x1,x2,x3⟩ (iw:Int)) (HAG.o W hW));have HSUB:=ħ (fun himp=>Z2l (c:=c) HVV.o (by rw[HUE.o];exact h999) ⟨x0,x1,x2,x3⟩ hq hp himp)
  have HTL:Hid (∀ y,(Zff c y).length=((Zff c y).map Int.ofNat).length∧((Zff c y).map Int.ofNat).length≤1000000):=ħ (fun y=>⟨by rw[List.length_map],by
   rw[List.length_map];unfold Zff;split
   ·exact Nat.le_trans (Zbw _ _) (by show c.ms.length≤1000000;rw[HME.o];omega)
   ·exact Nat.zero_le _⟩)
  rw[(HTL.o _).1] at HTS HTW;have HLS:=ħ (HTL.o (Zih ⟨x0,x1,x2,x3⟩ (ks:Int))).2;have HLW:=ħ (HTL.o (Zih ⟨x0,x1,x2,x3⟩ (iw:Int))).2;obtain⟨ts,hts⟩:∃ l,(Zff c (Zih ⟨x0,x1,x2,x3⟩ (ks:Int))).map Int.ofNat=l:=⟨_,rfl⟩;obtain⟨tw,htw⟩:∃ l,(Zff c (Zih ⟨x0,x1,x2,x3⟩ (iw:Int))).map Int.ofNat=l:=⟨_,rfl⟩;rw[hts] at HTS HSUB HLS;rw[htw] at HTW HSUB HLW;have HPA:=ħ (fun W (hW:Below w.heap.size w W)=>Z4q (HAG.o W hW).crw)
  have HHO:Hid (∀ W z vs,Below w.heap.size w W→(z=q∨z=p)→Zan W (fun _=>True) z vs→∀ m∈c.ms,∀ bo bc,Zwf W (fun _=>True) m.b bo→Calls Tryz.prog 30 #[.agg vs.toArray,.slice bo m.b.length bc] W fun e w'=>e = .returned (.tuple #[.bool (Zde z m.b).1,.int .i64 (Zde z m.b).2])∧Below W.heap.size W w'):=ħ (fun W z vs hW hz hpc m hm bo bc hb=>by
   have hz2:Zcx z≤1000000∧Zas z=true:=by
    rcases hz with rfl | rfl
    ·exact⟨hoq.2,hvq⟩
    ·exact⟨hop.2,hvp⟩
   exact Zo2 z W (fun _=>True) (fun _=>True) vs B m.b bo m.b.length bc hz2.1 (Zgy z (Zfz hz2.2)) hpc (HAG.o W hW).tab rfl ((HAG.o W hW).ok.m m hm).2.1 (Z5f (Zph (HVP.o.2.2.2.2.1 m hm))) hb)
  have HIM0:=ħ (fun W vs us (hW:Below w.heap.size w W) (hp1:Zan W (fun _=>True) p vs) (hq1:Zan W (fun _=>True) q us)=>Zqw W (fun _=>True) p q vs us 65535 B (HAG.o W hW).tab hp1 hq1 ⟨hvp,hvq⟩ ⟨Zgy p (Zfz hvp),Zgy q (Zfz hvq)⟩ ⟨hop.2,hoq.2⟩);have HIH:=ħ (fun h b h1 h2 h3=>Zpu (p:=p) (q:=q) h (b:=b) h1 h2 h3);obtain⟨EC,hec⟩:∃ x,Zec (Zel [p,q]) 65535 [p,q]=x:=⟨_,rfl⟩;obtain⟨FR,hfr⟩:∃ x,Zkp (Zel [p,q]) 65535 (Za7 [p,q]) [p,q] (fun l=>l.getD 0 false&&!l.getD 1 false)=x:=⟨_,rfl⟩;rw[hec,hfr] at HIM0;rw[hfr] at HIH;clear hts htw hec hfr hiw hks hvq hvp hoq hop HTL;have HQ:=ħ hq;have HP:=ħ hp;clear hq hp
  go_upto_region 4 with (fail)
  clear c0;have O1:Hid (Zae (w4.alloc (.cells #[.int .i64 0,.int .i64 0,.int .i64 0,.int .i64 0] 39)) w4.heap.size 39 [.int .i64 0,.int .i64 0,.int .i64 0,.int .i64 0]):=ħ (heap_alloc_new w4 _);have BO:=ħ ((Below.refl w4.heap.size w4).alloc (Nat.le_refl _) (.cells #[.int .i64 0,.int .i64 0,.int .i64 0,.int .i64 0] 39))
  go_upto_region 5 with (first | (refine wpList_load_row rfl 39 (.tmp 5) rfl (w.heap.size+1) ?yl4 39 #[.int .i64 x0,.int .i64 x1,.int .i64 x2,.int .i64 x3] (0,0) _ Y4.o Tryz.underlying39 rfl (Zef _ _ _ _) ?_;(case yl4=>rfl)) | (refine Zao rfl 39 (.tmp 10) (.tmp 36) rfl w4.heap.size #[.int .i64 x0,.int .i64 x1,.int .i64 x2,.int .i64 x3] (by rfl) (by rfl) 39 _ O1.o (Zef _ _ _ _) rfl (by simp[Value.oneCell']) ?_;intro wq s9 u9;have S9:=ħ s9;have U9:=ħ u9;clear s9 u9))
  have A9:=ħ (U9.o.below BO.o (Nat.le_refl _));have S9:Hid (Zae wq w4.heap.size 39 [.int .i64 x0,.int .i64 x1,.int .i64 x2,.int .i64 x3]):=ħ S9.o;have X9:=ħ (X4.o.step A9.o);have c0:=X9.o.cell 0 _ rfl;have s0:=S9.o.cell 0 _ rfl;have f0:=S9.o.warm 0;have SZ:Hid (Zae (wq.setCell ⟨w4.heap.size,0,none⟩ (.int .i64 (iw:Nat))) w4.heap.size 39 [.int .i64 (iw:Nat),.int .i64 x1,.int .i64 x2,.int .i64 x3]):=ħ (S9.o.set 0 _);have AZ:=ħ (A9.o.setCell (p:=⟨w4.heap.size,0,none⟩) (Nat.le_refl _) (.int .i64 (iw:Nat)))
  go_upto_region 6 with (fail)
  clear c0 s0 f0 S9 U9 O1 BO A9 X9;generalize wq.setCell ⟨w4.heap.size,0,none⟩ (.int .i64 (iw:Nat))=w5 at *;have X5:=ħ (X4.o.step AZ.o);have Y5:=ħ (Y4.o.step AZ.o);have B5:=ħ (B4.o.trans (AZ.o.mono B4.o.size));obtain⟨A,hA⟩:∃ n,w4.heap.size=n:=⟨_,rfl⟩;rw[hA] at SZ ⊢;have SA:=SZ;clear hA AZ X4 Y4 B4 SZ;have O1:Hid (Zae (w5.alloc (.cells #[.int .i64 0,.int .i64 0,.int .i64 0,.int .i64 0] 39)) w5.heap.size 39 [.int .i64 0,.int .i64 0,.int .i64 0,.int .i64 0]):=ħ (heap_alloc_new w5 _);have BO:=ħ ((Below.refl w5.heap.size w5).alloc (Nat.le_refl _) (.cells #[.int .i64 0,.int .i64 0,.int .i64 0,.int .i64 0] 39))
  go_upto_region 7 with (first | (refine wpList_load_row rfl 39 (.tmp 5) rfl (w.heap.size+1) ?yl5 39 #[.int .i64 x0,.int .i64 x1,.int .i64 x2,.int .i64 x3] (0,0) _ Y5.o Tryz.underlying39 rfl (Zef _ _ _ _) ?_;(case yl5=>rfl)) | (refine Zao rfl 39 (.tmp 11) (.tmp 44) rfl w5.heap.size #[.int .i64 x0,.int .i64 x1,.int .i64 x2,.int .i64 x3] (by rfl) (by rfl) 39 _ O1.o (Zef _ _ _ _) rfl (by simp[Value.oneCell']) ?_;intro wq s9 u9;have S9:=ħ s9;have U9:=ħ u9;clear s9 u9))
  have A9:=ħ (U9.o.below BO.o (Nat.le_refl _));have S9:Hid (Zae wq w5.heap.size 39 [.int .i64 x0,.int .i64 x1,.int .i64 x2,.int .i64 x3]):=ħ S9.o;have X9:=ħ (X5.o.step A9.o);have c0:=X9.o.cell 0 _ rfl;have s0:=S9.o.cell 0 _ rfl;have f0:=S9.o.warm 0;have SZ:Hid (Zae (wq.setCell ⟨w5.heap.size,0,none⟩ (.int .i64 (ks:Nat))) w5.heap.size 39 [.int .i64 (ks:Nat),.int .i64 x1,.int .i64 x2,.int .i64 x3]):=ħ (S9.o.set 0 _);have AZ:=ħ (A9.o.setCell (p:=⟨w5.heap.size,0,none⟩) (Nat.le_refl _) (.int .i64 (ks:Nat)))
  go_upto_region 8 with (fail)
  clear c0 s0 f0 S9 U9 O1 BO A9 X9;generalize wq.setCell ⟨w5.heap.size,0,none⟩ (.int .i64 (ks:Nat))=w6 at *;have X6:=ħ (X5.o.step AZ.o);have Y6:=ħ (Y5.o.step AZ.o);have B6:=ħ (B5.o.trans (AZ.o.mono B5.o.size));have SA:=ħ (SA.o.step AZ.o);obtain⟨S,hS⟩:∃ n,w5.heap.size=n:=⟨_,rfl⟩;rw[hS] at SZ ⊢;have HXB:=ħ (fun W (hW:Below w6.heap.size w6 W)=>X6.o.step hW);have HAB:=ħ (fun W (hW:Below w6.heap.size w6 W)=>SA.o.step hW);have HSB:=ħ (fun W (hW:Below w6.heap.size w6 W)=>SZ.o.step hW);have HBL:=ħ (fun W (hW:Below w6.heap.size w6 W)=>B6.o.trans (hW.mono B6.o.size));obtain⟨gq,oq,vq,hqo,hgq,hpq,hrq⟩:=(HPA.o w6 B6.o).1.at iw q HQ.o;obtain⟨gp,op,vp,hpo,hgp,hpp,hrp⟩:=(HPA.o w6 B6.o).1.at ks p HP.o
  obtain⟨rfl,rfl⟩:gq=gp∧oq=op:=by
   have e:=hqo.symm.trans hpo;simpa using e
  obtain⟨ao,an,ac,rfl,-⟩:=hpq.form;obtain⟨bO,bn,bcc,rfl,-⟩:=hpp.form;have HRA:=ħ (fun W (hW:Below w6.heap.size w6 W)=>hrq.of_block (hW.block gq hgq));have HRB:=ħ (fun W (hW:Below w6.heap.size w6 W)=>hrp.of_block (hW.block gq hgq));have HQO:=ħ hqo;have HHQ0:=ħ (fun W (hW:Below w6.heap.size w6 W) m hm bo bc hb=>HHO.o W q _ (HBL.o W hW) (.inl rfl) (hpq.below hW) m hm bo bc hb);have HHP0:=ħ (fun W (hW:Below w6.heap.size w6 W) m hm bo bc hb=>HHO.o W p _ (HBL.o W hW) (.inr rfl) (hpp.below hW) m hm bo bc hb)
  have HIM:Hid (∀ W,Below w6.heap.size w6 W→Calls Tryz.prog 67 #[.agg #[.int .i64 p.k,.string (Zac p.l),.string (Zac p.r),.int .i64 p.c,.slice bO bn bcc],.agg #[.int .i64 q.k,.string (Zac q.l),.string (Zac q.r),.int .i64 q.c,.slice ao an ac],.int .i64 65535] W fun e w'=>(∃ z,e = .returned (.tuple #[z,.bool (decide (EC=0)&&!FR.isSome),.int .i64 EC]))∧Below W.heap.size W w'):=ħ (fun W hW=>by
   refine (HIM0.o W _ _ (HBL.o W hW) (hpp.below hW) (hpq.below hW)).mono ?_;rintro e w' ⟨h1,h2⟩;refine⟨?_,h2⟩;by_cases hz:EC=0
   ·rw[if_pos hz] at h1
    obtain⟨z,h3,-⟩:=h1;refine⟨z,?_⟩;rw[h3,decide_eq_true hz,Bool.true_and,hz]
   ·rw[if_neg hz] at h1
    exact⟨_,by rw[h1,decide_eq_false hz,Bool.false_and]⟩)
  clear hS AZ X5 Y5 B5 SZ SA X6 hqo hpo hgq hgp hrq hrp HIM0 HHO hpq hpp;generalize q.k=a0 at *;generalize Zac q.l=a1 at *;generalize Zac q.r=a2 at *;generalize q.c=a3 at *;generalize p.k=b0 at *;generalize Zac p.l=b1 at *;generalize Zac p.r=b2 at *;generalize p.c=b3 at *;have HIWL:Hid ((iw:Int)<qn):=ħ (by omega);have HKSL:Hid ((ks:Int)<qn):=ħ (by omega);have HMG:=ħ (fun k (hk:k<c.ms.length)=>(⟨_,List.getElem?_eq_getElem hk⟩:∃ m,c.ms[k]?=some m));rw[HME.o] at HMG;clear hmi1 hmi2 hmk1 hmk2 ecv1 ecv2 ecm1 ecm2 h4 h4i h4j hil hkl
  go_upto_region 9 with (fail)
  go_wp2_with fail
  go_loopw [12] (fun iv wr=>∃ (j:Nat),iv = .int .i64 j∧j≤mn∧Hid (∀ n m,n<j→c.ms[n]?=some m→(Zde q m.b).2=0∧(Zde p m.b).2=0)∧Hid (Below w6.heap.size w6 wr)) (fun i _=>(mn-intOf i).toNat)
  case atStart=>exact⟨0,rfl,by omega,ħ (fun n m hn=>absurd hn (Nat.not_lt_zero n)),ħ (Below.refl _ _)⟩
  case round =>
   obtain⟨j,rfl,hj,HJ,LR⟩:=hrel;have e2:IntKind.i64.wrap ((j:Int)+1)=((j+1:Nat):Int):=IntWalk.i64_in _ (by omega);have c1:=(HXB.o wr LR.o).cell 1 _ rfl;by_cases hin:j<mn
   ·have ii:(j:Int)<mn:=by omega
    obtain⟨m,hm⟩:=HMG.o j hin;obtain⟨gm,om,cs2,hmo,hgm,hmc,hrd⟩:=(HPA.o wr (HBL.o wr LR.o)).2.at j m hm;obtain⟨bo,bc,to',tc,hcs2,hbnd,-⟩:=hmc;subst hcs2;have HMC:=ħ (fun W (hW:Below wr.heap.size wr W)=>(hrd.of_block (hW.block gm hgm)) 0 _ rfl);have HMO:=ħ hmo;have HHQ:=ħ (fun W (hW:Below wr.heap.size wr W)=>HHQ0.o W (LR.o.trans (hW.mono LR.o.size)) m (List.mem_of_getElem? hm) bo bc (hbnd.below hW));have HHP:=ħ (fun W (hW:Below wr.heap.size wr W)=>HHP0.o W (LR.o.trans (hW.mono LR.o.size)) m (List.mem_of_getElem? hm) bo bc (hbnd.below hW));have HM:=ħ hm;have HJJ:=ħ ii;obtain⟨bt,hbt⟩:∃ b,(Zde q m.b).1=b:=⟨_,rfl⟩;obtain⟨et,het⟩:∃ b,(Zde q m.b).2=b:=⟨_,rfl⟩;obtain⟨bs,hbs⟩:∃ b,(Zde p m.b).1=b:=⟨_,rfl⟩;obtain⟨es,hes⟩:∃ b,(Zde p m.b).2=b:=⟨_,rfl⟩;rw[hbt,het] at HHQ;rw[hbs,hes] at HHP;have HET:=ħ het;have HES:=ħ hes;obtain⟨nb,hnb⟩:∃ n,m.b.length=n:=⟨_,rfl⟩;rw[hnb] at HHQ HHP HMC;rw[Nat.add_zero] at HMC;clear hm hmo hgm hrd hbnd hbt het hbs hes hnb ii
    go_upto_region 11 with (fail)
    clear c1;refine Zax (Z5r (w.heap.size) A iw gq oq qn qc gm om mn mc j nb bc an ac bo ao a0 a3 et a1 a2 bt) (by kernel_rfl) (Zzc (w.heap.size) A iw gq oq qn qc gm om mn mc j nb bc an ac bo ao a0 a3 et a1 a2 bt) (Zb4 (by kernel_rfl)) (Zfo (by kernel_rfl)) (Zbb (by kernel_rfl)) ?hs ?he
    case hs =>
     intro i o hi listed a' w' H hl2;have hl3:=Zap hl2;have hin:i<18:=(Array.getElem?_eq_some_iff.1 hi).1;have hb:=ħ H.below;have s4:=H.same 4 (Zai (by kernel_rfl));have s10:=H.same 10 (Zai (by kernel_rfl));have s12:=H.same 12 (Zai (by kernel_rfl));have hdn:=H.done;have hdf:=H.defers;have hts:=H.tsize;clear hl2 H;obtain⟨t',df⟩:=a';obtain⟨f',rfl⟩:=Zs4 t' hts;have hdf':df=[]:=hdf;subst hdf';have gs4:f' 4 = .pointer (some ⟨w.heap.size,0,none⟩):=s4;have gs10:f' 10 = .pointer (some ⟨A,0,none⟩):=s10;have gs12:f' 12 = .int .i64 (j:Nat):=s12;clear s4 s10 s12;clear hdf hts;have hcases:=Zmn i hin;clear hin;rcases hcases with rfl | rfl | rfl | rfl | rfl | rfl | rfl | rfl | rfl | rfl | rfl | rfl | rfl | rfl | rfl | rfl | rfl | rfl
     ·obtain rfl:=Option.some.inj hi
      clear hdn hl3;rw[gs4];clear gs4 gs10 gs12;refine Zab rfl ?_
      go_wp2_with fail
      exact Zaa ⟨_,rfl,Below.refl _ _,rfl⟩
     ·obtain rfl:=Option.some.inj hi
      have dv0:f' 60 = .pointer (some ⟨w.heap.size,0,none⟩):=hdn 0 _ 60 rfl (hl3 0 (by rfl)) rfl;clear hdn hl3;rw[dv0];clear dv0 gs4 gs10 gs12;have cc:=(HXB.o w' (LR.o.trans (hb.o.mono LR.o.size))).cell 0 _ rfl;rw[HQO.o] at cc;refine Zab rfl ?_
      go_wp2_with fail
      exact Zaa ⟨_,rfl,Below.refl _ _,rfl⟩
     ·obtain rfl:=Option.some.inj hi
      clear hdn hl3;rw[gs10];clear gs4 gs10 gs12;refine Zab rfl ?_
      go_wp2_with fail
      exact Zaa ⟨_,rfl,Below.refl _ _,rfl⟩
     ·obtain rfl:=Option.some.inj hi
      have dv2:f' 62 = .pointer (some ⟨A,0,none⟩):=hdn 2 _ 62 rfl (hl3 2 (by rfl)) rfl;clear hdn hl3;rw[dv2];clear dv2 gs4 gs10 gs12;have cc:=(HAB.o w' (LR.o.trans (hb.o.mono LR.o.size))).cell 0 _ rfl;refine Zab rfl ?_
      go_wp2_with fail
      exact Zaa ⟨_,rfl,Below.refl _ _,rfl⟩
     ·obtain rfl:=Option.some.inj hi
      have dv1:f' 61 = .slice (some ⟨gq,oq,none⟩) qn qc:=hdn 1 _ 61 rfl (hl3 1 (by rfl)) rfl;have dv3:f' 63 = .int .i64 (iw:Nat):=hdn 3 _ 63 rfl (hl3 3 (by rfl)) rfl;clear hdn hl3;rw[dv1,dv3];clear dv1 dv3 gs4 gs10 gs12;have ii:=HIWL.o;refine Zab rfl ?_
      go_wp2_with fail
      exact Zaa ⟨_,rfl,Below.refl _ _,rfl⟩
     ·obtain rfl:=Option.some.inj hi
      have dv4:f' 64 = .pointer (some ⟨gq,oq+iw*5,none⟩):=hdn 4 _ 64 rfl (hl3 4 (by rfl)) rfl;clear hdn hl3;rw[dv4];clear dv4 gs4 gs10 gs12;have rd:=HRA.o w' (LR.o.trans (hb.o.mono LR.o.size));have k0:=rd 0 _ rfl;have k1:=rd 1 _ rfl;have k2:=rd 2 _ rfl;have k3:=rd 3 _ rfl;have k4:=rd 4 _ rfl;rw[Nat.add_zero] at k0;clear rd;refine Zab rfl ?_
      go_wp2_with fail
      exact Zaa ⟨_,rfl,Below.refl _ _,rfl⟩
     ·obtain rfl:=Option.some.inj hi
      clear hdn hl3;rw[gs4];clear gs4 gs10 gs12;refine Zab rfl ?_
      go_wp2_with fail
      exact Zaa ⟨_,rfl,Below.refl _ _,rfl⟩
     ·obtain rfl:=Option.some.inj hi
      have dv6:f' 66 = .pointer (some ⟨w.heap.size,1,none⟩):=hdn 6 _ 66 rfl (hl3 6 (by rfl)) rfl;clear hdn hl3;rw[dv6];clear dv6 gs4 gs10 gs12;have cc:=(HXB.o w' (LR.o.trans (hb.o.mono LR.o.size))).cell 1 _ rfl;rw[HMO.o] at cc;refine Zab rfl ?_
      go_wp2_with fail
      exact Zaa ⟨_,rfl,Below.refl _ _,rfl⟩
     ·obtain rfl:=Option.some.inj hi
      clear hdn hl3;rw[gs12];clear gs4 gs10 gs12;refine Zab rfl ?_
      go_wp2_with fail
      exact Zaa ⟨_,rfl,Below.refl _ _,rfl⟩
     ·obtain rfl:=Option.some.inj hi
      have dv7:f' 67 = .slice (some ⟨gm,om,none⟩) mn mc:=hdn 7 _ 67 rfl (hl3 7 (by rfl)) rfl;have dv8:f' 68 = .int .i64 (j:Nat):=hdn 8 _ 68 rfl (hl3 8 (by rfl)) rfl;clear hdn hl3;rw[dv7,dv8];clear dv7 dv8 gs4 gs10 gs12;have jj:=HJJ.o;refine Zab rfl ?_
      go_wp2_with fail
      exact Zaa ⟨_,rfl,Below.refl _ _,rfl⟩
     ·obtain rfl:=Option.some.inj hi
      have dv9:f' 69 = .pointer (some ⟨gm,om+j*3,none⟩):=hdn 9 _ 69 rfl (hl3 9 (by rfl)) rfl;clear hdn hl3;rw[dv9];clear dv9 gs4 gs10 gs12;refine Zab rfl ?_
      go_wp2_with fail
      exact Zaa ⟨_,rfl,Below.refl _ _,rfl⟩
     ·obtain rfl:=Option.some.inj hi
      have dv10:f' 70 = .pointer (some ⟨gm,om+j*3,none⟩):=hdn 10 _ 70 rfl (hl3 10 (by rfl)) rfl;clear hdn hl3;rw[dv10];clear dv10 gs4 gs10 gs12;have m0:=HMC.o w' hb.o;refine Zab rfl ?_
      go_wp2_with fail
      exact Zaa ⟨_,rfl,Below.refl _ _,rfl⟩
     ·obtain rfl:=Option.some.inj hi
      have dv5:f' 65 = .agg #[.int .i64 a0,.string a1,.string a2,.int .i64 a3,.slice ao an ac]:=hdn 5 _ 65 rfl (hl3 5 (by rfl)) rfl;have dv11:f' 71 = .slice bo nb bc:=hdn 11 _ 71 rfl (hl3 11 (by rfl)) rfl;clear hdn hl3;rw[dv5,dv11];clear dv5 dv11 gs4 gs10 gs12;refine Zab rfl ?_
      go_wp2_with fail
      refine (HHQ.o w' hb.o).mono ?_;rintro e w4 ⟨rfl,b4⟩;have HB4:=ħ b4;clear b4
      go_wp2_with fail
      exact Zaa ⟨_,rfl,HB4.o,rfl⟩
     ·obtain rfl:=Option.some.inj hi
      have dv12:f' 72 = .tuple #[.bool bt,.int .i64 et]:=hdn 12 _ 72 rfl (hl3 12 (by rfl)) rfl;clear hdn hl3;rw[dv12];clear dv12 gs4 gs10 gs12;refine Zab rfl ?_
      go_wp2_with fail
      exact Zaa ⟨_,rfl,Below.refl _ _,rfl⟩
     ·obtain rfl:=Option.some.inj hi
      have dv13:f' 59 = .tuple #[.bool bt,.int .i64 et]:=hdn 13 _ 59 rfl (hl3 13 (by rfl)) rfl;clear hdn hl3;rw[dv13];clear dv13 gs4 gs10 gs12;refine Zab rfl ?_
      go_wp2_with fail
      exact Zaa ⟨_,rfl,Below.refl _ _,rfl⟩
     ·obtain rfl:=Option.some.inj hi
      have dv13:f' 59 = .tuple #[.bool bt,.int .i64 et]:=hdn 13 _ 59 rfl (hl3 13 (by rfl)) rfl;clear hdn hl3;rw[dv13];clear dv13 gs4 gs10 gs12;refine Zab rfl ?_
      go_wp2_with fail
      exact Zaa ⟨_,rfl,Below.refl _ _,rfl⟩
     ·obtain rfl:=Option.some.inj hi
      have dv14:f' 73 = .bool bt:=hdn 14 _ 73 rfl (hl3 14 (by rfl)) rfl;clear hdn hl3;rw[dv14];clear dv14 gs4 gs10 gs12;refine Zab rfl ?_
      go_wp2_with fail
      exact Zaa ⟨_,rfl,Below.refl _ _,rfl⟩
     ·obtain rfl:=Option.some.inj hi
      have dv15:f' 74 = .int .i64 et:=hdn 15 _ 74 rfl (hl3 15 (by rfl)) rfl;clear hdn hl3;rw[dv15];clear dv15 gs4 gs10 gs12;refine Zab rfl ?_
      go_wp2_with fail
      exact Zaa ⟨_,rfl,Below.refl _ _,rfl⟩
    case he =>
     intro listed a' w4 H hall;have hd16:Z5r (w.heap.size) A iw gq oq qn qc gm om mn mc j nb bc an ac bo ao a0 a3 et a1 a2 bt 16 w4 (a'.tmps.getD 13 undef):=H.done 16 _ 13 rfl (hall 16 (by decide)) rfl;have hd17:Z5r (w.heap.size) A iw gq oq qn qc gm om mn mc j nb bc an ac bo ao a0 a3 et a1 a2 bt 17 w4 (a'.tmps.getD 14 undef):=H.done 17 _ 14 rfl (hall 17 (by decide)) rfl;have hb4:=ħ H.below;have hact:=H.act [60,61,62,63,64,65,66,67,68,69,70,71,72,59,73,74,13,14] (Zc9 (by kernel_rfl));clear H hall;simp only[List.foldl_cons,List.foldl_nil] at hact;generalize a'.tmps.getD 60 undef=z60 at *;generalize a'.tmps.getD 61 undef=z61 at *;generalize a'.tmps.getD 62 undef=z62 at *;generalize a'.tmps.getD 63 undef=z63 at *;generalize a'.tmps.getD 64 undef=z64 at *;generalize a'.tmps.getD 65 undef=z65 at *;generalize a'.tmps.getD 66 undef=z66 at *;generalize a'.tmps.getD 67 undef=z67 at *;generalize a'.tmps.getD 68 undef=z68 at *;generalize a'.tmps.getD 69 undef=z69 at *;generalize a'.tmps.getD 70 undef=z70 at *;generalize a'.tmps.getD 71 undef=z71 at *;generalize a'.tmps.getD 72 undef=z72 at *;generalize a'.tmps.getD 59 undef=z59 at *;generalize a'.tmps.getD 73 undef=z73 at *;generalize a'.tmps.getD 74 undef=z74 at *;generalize a'.tmps.getD 13 undef=z13 at *;generalize a'.tmps.getD 14 undef=z14 at *;subst hact;have e16:z13 = .bool bt:=hd16;subst e16;clear hd16;have e17:z14 = .int .i64 et:=hd17;subst e17;clear hd17;simp only[Act.put,List.setIfInBounds_toArray,List.set_cons_succ,List.set_cons_zero];have L7:=ħ (LR.o.trans (hb4.o.mono LR.o.size));have HHP:=ħ (fun W (hW:Below w4.heap.size w4 W)=>HHP.o W (hb4.o.trans (hW.mono hb4.o.size)));have HMC:=ħ (fun W (hW:Below w4.heap.size w4 W)=>HMC.o W (hb4.o.trans (hW.mono hb4.o.size)));clear hb4 LR HHQ;have LR:=L7;clear L7;generalize w4=wr2 at *
     go_upto_region 12 with (fail)
     refine Zax (Z5s (w.heap.size) S ks gq oq qn qc gm om mn mc j nb bc bn bcc bo bO b0 b3 es b1 b2 bs) (by kernel_rfl) (Zzd (w.heap.size) S ks gq oq qn qc gm om mn mc j nb bc bn bcc bo bO b0 b3 es b1 b2 bs) (Zb4 (by kernel_rfl)) (Zfo (by kernel_rfl)) (Zbb (by kernel_rfl)) ?hs ?he
     case hs =>
      intro i o hi listed a' w' H hl2;have hl3:=Zap hl2;have hin:i<18:=(Array.getElem?_eq_some_iff.1 hi).1;have hb:=ħ H.below;have s4:=H.same 4 (Zai (by kernel_rfl));have s11:=H.same 11 (Zai (by kernel_rfl));have s12:=H.same 12 (Zai (by kernel_rfl));have hdn:=H.done;have hdf:=H.defers;have hts:=H.tsize;clear hl2 H;obtain⟨t',df⟩:=a';obtain⟨f',rfl⟩:=Zs4 t' hts;have hdf':df=[]:=hdf;subst hdf';have gs4:f' 4 = .pointer (some ⟨w.heap.size,0,none⟩):=s4;have gs11:f' 11 = .pointer (some ⟨S,0,none⟩):=s11;have gs12:f' 12 = .int .i64 (j:Nat):=s12;clear s4 s11 s12;clear hdf hts;have hcases:=Zmn i hin;clear hin;rcases hcases with rfl | rfl | rfl | rfl | rfl | rfl | rfl | rfl | rfl | rfl | rfl | rfl | rfl | rfl | rfl | rfl | rfl | rfl
      ·obtain rfl:=Option.some.inj hi
       clear hdn hl3;rw[gs4];clear gs4 gs11 gs12;refine Zab rfl ?_
       go_wp2_with fail
       exact Zaa ⟨_,rfl,Below.refl _ _,rfl⟩
      ·obtain rfl:=Option.some.inj hi
       have dv0:f' 76 = .pointer (some ⟨w.heap.size,0,none⟩):=hdn 0 _ 76 rfl (hl3 0 (by rfl)) rfl;clear hdn hl3;rw[dv0];clear dv0 gs4 gs11 gs12;have cc:=(HXB.o w' (LR.o.trans (hb.o.mono LR.o.size))).cell 0 _ rfl;rw[HQO.o] at cc;refine Zab rfl ?_
       go_wp2_with fail
       exact Zaa ⟨_,rfl,Below.refl _ _,rfl⟩
      ·obtain rfl:=Option.some.inj hi
       clear hdn hl3;rw[gs11];clear gs4 gs11 gs12;refine Zab rfl ?_
       go_wp2_with fail
       exact Zaa ⟨_,rfl,Below.refl _ _,rfl⟩
      ·obtain rfl:=Option.some.inj hi
       have dv2:f' 78 = .pointer (some ⟨S,0,none⟩):=hdn 2 _ 78 rfl (hl3 2 (by rfl)) rfl;clear hdn hl3;rw[dv2];clear dv2 gs4 gs11 gs12;have cc:=(HSB.o w' (LR.o.trans (hb.o.mono LR.o.size))).cell 0 _ rfl;refine Zab rfl ?_
       go_wp2_with fail
       exact Zaa ⟨_,rfl,Below.refl _ _,rfl⟩
      ·obtain rfl:=Option.some.inj hi
       have dv1:f' 77 = .slice (some ⟨gq,oq,none⟩) qn qc:=hdn 1 _ 77 rfl (hl3 1 (by rfl)) rfl;have dv3:f' 79 = .int .i64 (ks:Nat):=hdn 3 _ 79 rfl (hl3 3 (by rfl)) rfl;clear hdn hl3;rw[dv1,dv3];clear dv1 dv3 gs4 gs11 gs12;have ii:=HKSL.o;refine Zab rfl ?_
       go_wp2_with fail
       exact Zaa ⟨_,rfl,Below.refl _ _,rfl⟩
      ·obtain rfl:=Option.some.inj hi
       have dv4:f' 80 = .pointer (some ⟨gq,oq+ks*5,none⟩):=hdn 4 _ 80 rfl (hl3 4 (by rfl)) rfl;clear hdn hl3;rw[dv4];clear dv4 gs4 gs11 gs12;have rd:=HRB.o w' (LR.o.trans (hb.o.mono LR.o.size));have k0:=rd 0 _ rfl;have k1:=rd 1 _ rfl;have k2:=rd 2 _ rfl;have k3:=rd 3 _ rfl;have k4:=rd 4 _ rfl;rw[Nat.add_zero] at k0;clear rd;refine Zab rfl ?_
       go_wp2_with fail
       exact Zaa ⟨_,rfl,Below.refl _ _,rfl⟩
      ·obtain rfl:=Option.some.inj hi
       clear hdn hl3;rw[gs4];clear gs4 gs11 gs12;refine Zab rfl ?_
       go_wp2_with fail
       exact Zaa ⟨_,rfl,Below.refl _ _,rfl⟩
      ·obtain rfl:=Option.some.inj hi
       have dv6:f' 82 = .pointer (some ⟨w.heap.size,1,none⟩):=hdn 6 _ 82 rfl (hl3 6 (by rfl)) rfl;clear hdn hl3;rw[dv6];clear dv6 gs4 gs11 gs12;have cc:=(HXB.o w' (LR.o.trans (hb.o.mono LR.o.size))).cell 1 _ rfl;rw[HMO.o] at cc;refine Zab rfl ?_
       go_wp2_with fail
       exact Zaa ⟨_,rfl,Below.refl _ _,rfl⟩
      ·obtain rfl:=Option.some.inj hi
       clear hdn hl3;rw[gs12];clear gs4 gs11 gs12;refine Zab rfl ?_
       go_wp2_with fail
       exact Zaa ⟨_,rfl,Below.refl _ _,rfl⟩
      ·obtain rfl:=Option.some.inj hi
       have dv7:f' 83 = .slice (some ⟨gm,om,none⟩) mn mc:=hdn 7 _ 83 rfl (hl3 7 (by rfl)) rfl;have dv8:f' 84 = .int .i64 (j:Nat):=hdn 8 _ 84 rfl (hl3 8 (by rfl)) rfl;clear hdn hl3;rw[dv7,dv8];clear dv7 dv8 gs4 gs11 gs12;have jj:=HJJ.o;refine Zab rfl ?_
       go_wp2_with fail
       exact Zaa ⟨_,rfl,Below.refl _ _,rfl⟩
      ·obtain rfl:=Option.some.inj hi
       have dv9:f' 85 = .pointer (some ⟨gm,om+j*3,none⟩):=hdn 9 _ 85 rfl (hl3 9 (by rfl)) rfl;clear hdn hl3;rw[dv9];clear dv9 gs4 gs11 gs12;refine Zab rfl ?_
       go_wp2_with fail
       exact Zaa ⟨_,rfl,Below.refl _ _,rfl⟩
      ·obtain rfl:=Option.some.inj hi
       have dv10:f' 86 = .pointer (some ⟨gm,om+j*3,none⟩):=hdn 10 _ 86 rfl (hl3 10 (by rfl)) rfl;clear hdn hl3;rw[dv10];clear dv10 gs4 gs11 gs12;have m0:=HMC.o w' hb.o;refine Zab rfl ?_
       go_wp2_with fail
       exact Zaa ⟨_,rfl,Below.refl _ _,rfl⟩
      ·obtain rfl:=Option.some.inj hi
       have dv5:f' 81 = .agg #[.int .i64 b0,.string b1,.string b2,.int .i64 b3,.slice bO bn bcc]:=hdn 5 _ 81 rfl (hl3 5 (by rfl)) rfl;have dv11:f' 87 = .slice bo nb bc:=hdn 11 _ 87 rfl (hl3 11 (by rfl)) rfl;clear hdn hl3;rw[dv5,dv11];clear dv5 dv11 gs4 gs11 gs12;refine Zab rfl ?_
       go_wp2_with fail
       refine (HHP.o w' hb.o).mono ?_;rintro e w4 ⟨rfl,b4⟩;have HB4:=ħ b4;clear b4
       go_wp2_with fail
       exact Zaa ⟨_,rfl,HB4.o,rfl⟩
      ·obtain rfl:=Option.some.inj hi
       have dv12:f' 88 = .tuple #[.bool bs,.int .i64 es]:=hdn 12 _ 88 rfl (hl3 12 (by rfl)) rfl;clear hdn hl3;rw[dv12];clear dv12 gs4 gs11 gs12;refine Zab rfl ?_
       go_wp2_with fail
       exact Zaa ⟨_,rfl,Below.refl _ _,rfl⟩
      ·obtain rfl:=Option.some.inj hi
       have dv13:f' 75 = .tuple #[.bool bs,.int .i64 es]:=hdn 13 _ 75 rfl (hl3 13 (by rfl)) rfl;clear hdn hl3;rw[dv13];clear dv13 gs4 gs11 gs12;refine Zab rfl ?_
       go_wp2_with fail
       exact Zaa ⟨_,rfl,Below.refl _ _,rfl⟩
      ·obtain rfl:=Option.some.inj hi
       have dv13:f' 75 = .tuple #[.bool bs,.int .i64 es]:=hdn 13 _ 75 rfl (hl3 13 (by rfl)) rfl;clear hdn hl3;rw[dv13];clear dv13 gs4 gs11 gs12;refine Zab rfl ?_
       go_wp2_with fail
       exact Zaa ⟨_,rfl,Below.refl _ _,rfl⟩
      ·obtain rfl:=Option.some.inj hi
       have dv14:f' 89 = .bool bs:=hdn 14 _ 89 rfl (hl3 14 (by rfl)) rfl;clear hdn hl3;rw[dv14];clear dv14 gs4 gs11 gs12;refine Zab rfl ?_
       go_wp2_with fail
       exact Zaa ⟨_,rfl,Below.refl _ _,rfl⟩
      ·obtain rfl:=Option.some.inj hi
       have dv15:f' 90 = .int .i64 es:=hdn 15 _ 90 rfl (hl3 15 (by rfl)) rfl;clear hdn hl3;rw[dv15];clear dv15 gs4 gs11 gs12;refine Zab rfl ?_
       go_wp2_with fail
       exact Zaa ⟨_,rfl,Below.refl _ _,rfl⟩
     case he =>
      intro listed a' w4 H hall;have hd16:Z5s (w.heap.size) S ks gq oq qn qc gm om mn mc j nb bc bn bcc bo bO b0 b3 es b1 b2 bs 16 w4 (a'.tmps.getD 15 undef):=H.done 16 _ 15 rfl (hall 16 (by decide)) rfl;have hd17:Z5s (w.heap.size) S ks gq oq qn qc gm om mn mc j nb bc bn bcc bo bO b0 b3 es b1 b2 bs 17 w4 (a'.tmps.getD 16 undef):=H.done 17 _ 16 rfl (hall 17 (by decide)) rfl;have hb4:=ħ H.below;have hact:=H.act [76,77,78,79,80,81,82,83,84,85,86,87,88,75,89,90,15,16] (Zc9 (by kernel_rfl));clear H hall;simp only[List.foldl_cons,List.foldl_nil] at hact;generalize a'.tmps.getD 76 undef=y76 at *;generalize a'.tmps.getD 77 undef=y77 at *;generalize a'.tmps.getD 78 undef=y78 at *;generalize a'.tmps.getD 79 undef=y79 at *;generalize a'.tmps.getD 80 undef=y80 at *;generalize a'.tmps.getD 81 undef=y81 at *;generalize a'.tmps.getD 82 undef=y82 at *;generalize a'.tmps.getD 83 undef=y83 at *;generalize a'.tmps.getD 84 undef=y84 at *;generalize a'.tmps.getD 85 undef=y85 at *;generalize a'.tmps.getD 86 undef=y86 at *;generalize a'.tmps.getD 87 undef=y87 at *;generalize a'.tmps.getD 88 undef=y88 at *;generalize a'.tmps.getD 75 undef=y75 at *;generalize a'.tmps.getD 89 undef=y89 at *;generalize a'.tmps.getD 90 undef=y90 at *;generalize a'.tmps.getD 15 undef=y15 at *;generalize a'.tmps.getD 16 undef=y16 at *;subst hact;have e16:y15 = .bool bs:=hd16;subst e16;clear hd16;have e17:y16 = .int .i64 es:=hd17;subst e17;clear hd17;simp only[Act.put,List.setIfInBounds_toArray,List.set_cons_succ,List.set_cons_zero];have L7:=ħ (LR.o.trans (hb4.o.mono LR.o.size));clear hb4 LR HHP;by_cases h5:et=0
      ·subst h5
       by_cases h6:es=0
       ·subst h6
        go_wp2_with fail
        go_roundw
        case rel=>exact⟨j+1,by go_num,by omega,ħ (fun n m' hn hm'=>by
         rcases Nat.lt_or_ge n j with h | h
         ·exact HJ.o n m' h hm'
         ·obtain rfl:n=j:=by omega
          obtain rfl:m=m':=Option.some.inj (HM.o.symm.trans hm')
          exact⟨HET.o,HES.o⟩),L7⟩
        case measure=>simp only[intOf];omega
       ·have h6b:(es != 0)=true:=by simpa using h6
        go_wp2_with fail
        go_ret;exact⟨rfl,HBL.o _ L7.o⟩
      ·have h5b:(et != 0)=true:=by simpa using h5
       go_wp2_with fail
       go_ret;exact⟨rfl,HBL.o _ L7.o⟩
   ·have ii:¬ (j:Int)<mn:=by omega
    obtain rfl:mn=j:=by omega
    obtain⟨ob,hob⟩:∃ b,(decide (EC=0)&&!FR.isSome)=b:=⟨_,rfl⟩;rw[hob] at HIM;obtain⟨ec,hec⟩:∃ x,EC=x:=⟨_,rfl⟩;have HOB:=ħ hob;have HEC:=ħ hec;rw[hec] at HIM;clear hob hec
    go_upto_region 15 with (fail)
    clear c1 ii;refine Zax (Z2m (w.heap.size) A S iw ks gq oq qn qc an ac bn bcc ao bO a0 a3 b0 b3 ec a1 a2 b1 b2 ob) (by kernel_rfl) (Zze (w.heap.size) A S iw ks gq oq qn qc an ac bn bcc ao bO a0 a3 b0 b3 ec a1 a2 b1 b2 ob) (Zb4 (by kernel_rfl)) (Zfo (by kernel_rfl)) (Zbb (by kernel_rfl)) ?hs ?he
    case hs =>
     intro i o hi listed a' w' H hl2;have hl3:=Zap hl2;have hin:i<20:=(Array.getElem?_eq_some_iff.1 hi).1;have hb:=ħ H.below;have s4:=H.same 4 (Zai (by kernel_rfl));have s10:=H.same 10 (Zai (by kernel_rfl));have s11:=H.same 11 (Zai (by kernel_rfl));have hdn:=H.done;have hdf:=H.defers;have hts:=H.tsize;clear hl2 H;obtain⟨t',df⟩:=a';obtain⟨f',rfl⟩:=Zs4 t' hts;have hdf':df=[]:=hdf;subst hdf';have gs4:f' 4 = .pointer (some ⟨w.heap.size,0,none⟩):=s4;have gs10:f' 10 = .pointer (some ⟨A,0,none⟩):=s10;have gs11:f' 11 = .pointer (some ⟨S,0,none⟩):=s11;clear s4 s10 s11;clear hdf hts;have hcases:=Zml i hin;clear hin;rcases hcases with rfl | rfl | rfl | rfl | rfl | rfl | rfl | rfl | rfl | rfl | rfl | rfl | rfl | rfl | rfl | rfl | rfl | rfl | rfl | rfl
     ·obtain rfl:=Option.some.inj hi
      clear hdn hl3;rw[gs4];clear gs4 gs10 gs11;refine Zab rfl ?_
      go_wp2_with fail
      exact Zaa ⟨_,rfl,Below.refl _ _,rfl⟩
     ·obtain rfl:=Option.some.inj hi
      have dv0:f' 99 = .pointer (some ⟨w.heap.size,0,none⟩):=hdn 0 _ 99 rfl (hl3 0 (by rfl)) rfl;clear hdn hl3;rw[dv0];clear dv0 gs4 gs10 gs11;have cc:=(HXB.o w' (LR.o.trans (hb.o.mono LR.o.size))).cell 0 _ rfl;rw[HQO.o] at cc;refine Zab rfl ?_
      go_wp2_with fail
      exact Zaa ⟨_,rfl,Below.refl _ _,rfl⟩
     ·obtain rfl:=Option.some.inj hi
      clear hdn hl3;rw[gs11];clear gs4 gs10 gs11;refine Zab rfl ?_
      go_wp2_with fail
      exact Zaa ⟨_,rfl,Below.refl _ _,rfl⟩
     ·obtain rfl:=Option.some.inj hi
      have dv2:f' 101 = .pointer (some ⟨S,0,none⟩):=hdn 2 _ 101 rfl (hl3 2 (by rfl)) rfl;clear hdn hl3;rw[dv2];clear dv2 gs4 gs10 gs11;have cc:=(HSB.o w' (LR.o.trans (hb.o.mono LR.o.size))).cell 0 _ rfl;refine Zab rfl ?_
      go_wp2_with fail
      exact Zaa ⟨_,rfl,Below.refl _ _,rfl⟩
     ·obtain rfl:=Option.some.inj hi
      have dv1:f' 100 = .slice (some ⟨gq,oq,none⟩) qn qc:=hdn 1 _ 100 rfl (hl3 1 (by rfl)) rfl;have dv3:f' 102 = .int .i64 (ks:Nat):=hdn 3 _ 102 rfl (hl3 3 (by rfl)) rfl;clear hdn hl3;rw[dv1,dv3];clear dv1 dv3 gs4 gs10 gs11;have ii:=HKSL.o;refine Zab rfl ?_
      go_wp2_with fail
      exact Zaa ⟨_,rfl,Below.refl _ _,rfl⟩
     ·obtain rfl:=Option.some.inj hi
      have dv4:f' 103 = .pointer (some ⟨gq,oq+ks*5,none⟩):=hdn 4 _ 103 rfl (hl3 4 (by rfl)) rfl;clear hdn hl3;rw[dv4];clear dv4 gs4 gs10 gs11;have rd:=HRB.o w' (LR.o.trans (hb.o.mono LR.o.size));have k0:=rd 0 _ rfl;have k1:=rd 1 _ rfl;have k2:=rd 2 _ rfl;have k3:=rd 3 _ rfl;have k4:=rd 4 _ rfl;rw[Nat.add_zero] at k0;clear rd;refine Zab rfl ?_
      go_wp2_with fail
      exact Zaa ⟨_,rfl,Below.refl _ _,rfl⟩
     ·obtain rfl:=Option.some.inj hi
      clear hdn hl3;rw[gs4];clear gs4 gs10 gs11;refine Zab rfl ?_
      go_wp2_with fail
      exact Zaa ⟨_,rfl,Below.refl _ _,rfl⟩
     ·obtain rfl:=Option.some.inj hi
      have dv6:f' 105 = .pointer (some ⟨w.heap.size,0,none⟩):=hdn 6 _ 105 rfl (hl3 6 (by rfl)) rfl;clear hdn hl3;rw[dv6];clear dv6 gs4 gs10 gs11;have cc:=(HXB.o w' (LR.o.trans (hb.o.mono LR.o.size))).cell 0 _ rfl;rw[HQO.o] at cc;refine Zab rfl ?_
      go_wp2_with fail
      exact Zaa ⟨_,rfl,Below.refl _ _,rfl⟩
     ·obtain rfl:=Option.some.inj hi
      clear hdn hl3;rw[gs10];clear gs4 gs10 gs11;refine Zab rfl ?_
      go_wp2_with fail
      exact Zaa ⟨_,rfl,Below.refl _ _,rfl⟩
     ·obtain rfl:=Option.some.inj hi
      have dv8:f' 107 = .pointer (some ⟨A,0,none⟩):=hdn 8 _ 107 rfl (hl3 8 (by rfl)) rfl;clear hdn hl3;rw[dv8];clear dv8 gs4 gs10 gs11;have cc:=(HAB.o w' (LR.o.trans (hb.o.mono LR.o.size))).cell 0 _ rfl;refine Zab rfl ?_
      go_wp2_with fail
      exact Zaa ⟨_,rfl,Below.refl _ _,rfl⟩
     ·obtain rfl:=Option.some.inj hi
      have dv7:f' 106 = .slice (some ⟨gq,oq,none⟩) qn qc:=hdn 7 _ 106 rfl (hl3 7 (by rfl)) rfl;have dv9:f' 108 = .int .i64 (iw:Nat):=hdn 9 _ 108 rfl (hl3 9 (by rfl)) rfl;clear hdn hl3;rw[dv7,dv9];clear dv7 dv9 gs4 gs10 gs11;have ii:=HIWL.o;refine Zab rfl ?_
      go_wp2_with fail
      exact Zaa ⟨_,rfl,Below.refl _ _,rfl⟩
     ·obtain rfl:=Option.some.inj hi
      have dv10:f' 109 = .pointer (some ⟨gq,oq+iw*5,none⟩):=hdn 10 _ 109 rfl (hl3 10 (by rfl)) rfl;clear hdn hl3;rw[dv10];clear dv10 gs4 gs10 gs11;have rd:=HRA.o w' (LR.o.trans (hb.o.mono LR.o.size));have k0:=rd 0 _ rfl;have k1:=rd 1 _ rfl;have k2:=rd 2 _ rfl;have k3:=rd 3 _ rfl;have k4:=rd 4 _ rfl;rw[Nat.add_zero] at k0;clear rd;refine Zab rfl ?_
      go_wp2_with fail
      exact Zaa ⟨_,rfl,Below.refl _ _,rfl⟩
     ·obtain rfl:=Option.some.inj hi
      have dv5:f' 104 = .agg #[.int .i64 b0,.string b1,.string b2,.int .i64 b3,.slice bO bn bcc]:=hdn 5 _ 104 rfl (hl3 5 (by rfl)) rfl;have dv11:f' 110 = .agg #[.int .i64 a0,.string a1,.string a2,.int .i64 a3,.slice ao an ac]:=hdn 11 _ 110 rfl (hl3 11 (by rfl)) rfl;clear hdn hl3;rw[dv5,dv11];clear dv5 dv11 gs4 gs10 gs11;refine Zab rfl ?_
      go_wp2_with fail
      refine (HIM.o w' (LR.o.trans (hb.o.mono LR.o.size))).mono ?_;rintro e w4 ⟨⟨z,rfl⟩,b4⟩;have HB4:=ħ b4;clear b4
      go_wp2_with fail
      exact Zaa ⟨_,rfl,HB4.o,z,rfl⟩
     ·obtain rfl:=Option.some.inj hi
      have dv12:Z2m (w.heap.size) A S iw ks gq oq qn qc an ac bn bcc ao bO a0 a3 b0 b3 ec a1 a2 b1 b2 ob 12 w' (f' 111):=hdn 12 _ 111 rfl (hl3 12 (by rfl)) rfl;obtain⟨z,dv12⟩:=dv12;clear hdn hl3;rw[dv12];clear dv12 gs4 gs10 gs11;refine Zab rfl ?_
      go_wp2_with fail
      exact Zaa ⟨_,rfl,Below.refl _ _,z,rfl⟩
     ·obtain rfl:=Option.some.inj hi
      have dv13:Z2m (w.heap.size) A S iw ks gq oq qn qc an ac bn bcc ao bO a0 a3 b0 b3 ec a1 a2 b1 b2 ob 13 w' (f' 98):=hdn 13 _ 98 rfl (hl3 13 (by rfl)) rfl;obtain⟨z,dv13⟩:=dv13;clear hdn hl3;rw[dv13];clear dv13 gs4 gs10 gs11;refine Zab rfl ?_
      go_wp2_with fail
      exact Zaa ⟨_,rfl,Below.refl _ _,trivial⟩
     ·obtain rfl:=Option.some.inj hi
      have dv13:Z2m (w.heap.size) A S iw ks gq oq qn qc an ac bn bcc ao bO a0 a3 b0 b3 ec a1 a2 b1 b2 ob 13 w' (f' 98):=hdn 13 _ 98 rfl (hl3 13 (by rfl)) rfl;obtain⟨z,dv13⟩:=dv13;clear hdn hl3;rw[dv13];clear dv13 gs4 gs10 gs11;refine Zab rfl ?_
      go_wp2_with fail
      exact Zaa ⟨_,rfl,Below.refl _ _,rfl⟩
     ·obtain rfl:=Option.some.inj hi
      have dv13:Z2m (w.heap.size) A S iw ks gq oq qn qc an ac bn bcc ao bO a0 a3 b0 b3 ec a1 a2 b1 b2 ob 13 w' (f' 98):=hdn 13 _ 98 rfl (hl3 13 (by rfl)) rfl;obtain⟨z,dv13⟩:=dv13;clear hdn hl3;rw[dv13];clear dv13 gs4 gs10 gs11;refine Zab rfl ?_
      go_wp2_with fail
      exact Zaa ⟨_,rfl,Below.refl _ _,rfl⟩
     ·obtain rfl:=Option.some.inj hi
      clear hdn hl3;clear gs4 gs10 gs11;refine Zab rfl ?_
      go_wp2_with fail
      exact Zaa ⟨_,rfl,Below.refl _ _,trivial⟩
     ·obtain rfl:=Option.some.inj hi
      have dv15:f' 113 = .bool ob:=hdn 15 _ 113 rfl (hl3 15 (by rfl)) rfl;clear hdn hl3;rw[dv15];clear dv15 gs4 gs10 gs11;refine Zab rfl ?_
      go_wp2_with fail
      exact Zaa ⟨_,rfl,Below.refl _ _,rfl⟩
     ·obtain rfl:=Option.some.inj hi
      have dv16:f' 114 = .int .i64 ec:=hdn 16 _ 114 rfl (hl3 16 (by rfl)) rfl;clear hdn hl3;rw[dv16];clear dv16 gs4 gs10 gs11;refine Zab rfl ?_
      go_wp2_with fail
      exact Zaa ⟨_,rfl,Below.refl _ _,rfl⟩
    case he =>
     intro listed a' w4 H hall;have hd18:Z2m (w.heap.size) A S iw ks gq oq qn qc an ac bn bcc ao bO a0 a3 b0 b3 ec a1 a2 b1 b2 ob 18 w4 (a'.tmps.getD 18 undef):=H.done 18 _ 18 rfl (hall 18 (by decide)) rfl;have hd19:Z2m (w.heap.size) A S iw ks gq oq qn qc an ac bn bcc ao bO a0 a3 b0 b3 ec a1 a2 b1 b2 ob 19 w4 (a'.tmps.getD 19 undef):=H.done 19 _ 19 rfl (hall 19 (by decide)) rfl;have hb4:=ħ H.below;have hact:=H.act [99,100,101,102,103,104,105,106,107,108,109,110,111,98,112,113,114,17,18,19] (Zc9 (by kernel_rfl));clear H hall;simp only[List.foldl_cons,List.foldl_nil] at hact;generalize a'.tmps.getD 99 undef=z99 at *;generalize a'.tmps.getD 100 undef=z100 at *;generalize a'.tmps.getD 101 undef=z101 at *;generalize a'.tmps.getD 102 undef=z102 at *;generalize a'.tmps.getD 103 undef=z103 at *;generalize a'.tmps.getD 104 undef=z104 at *;generalize a'.tmps.getD 105 undef=z105 at *;generalize a'.tmps.getD 106 undef=z106 at *;generalize a'.tmps.getD 107 undef=z107 at *;generalize a'.tmps.getD 108 undef=z108 at *;generalize a'.tmps.getD 109 undef=z109 at *;generalize a'.tmps.getD 110 undef=z110 at *;generalize a'.tmps.getD 111 undef=z111 at *;generalize a'.tmps.getD 98 undef=z98 at *;generalize a'.tmps.getD 112 undef=z112 at *;generalize a'.tmps.getD 113 undef=z113 at *;generalize a'.tmps.getD 114 undef=z114 at *;generalize a'.tmps.getD 17 undef=z17 at *;generalize a'.tmps.getD 18 undef=z18 at *;generalize a'.tmps.getD 19 undef=z19 at *;subst hact;have e18:z18 = .bool ob:=hd18;subst e18;clear hd18;have e19:z19 = .int .i64 ec:=hd19;subst e19;clear hd19;simp only[Act.put,List.setIfInBounds_toArray,List.set_cons_succ,List.set_cons_zero];have L7:=ħ (LR.o.trans (hb4.o.mono LR.o.size));clear hb4 LR HIM;have LR:=L7;clear L7
     cases ob with
     | false =>
      go_wp2_with fail
      go_ret;exact⟨rfl,HBL.o _ LR.o⟩
     | true =>
      have hoo:=HOB.o;rw[Bool.and_eq_true,decide_eq_true_eq] at hoo
      have hec0:ec=0:=by rw[← HEC.o];exact hoo.1
      have HFR:Hid (FR=none):=ħ (by
       cases hx:FR with
       | none=>rfl
       | some y=>rw[hx] at hoo;exact absurd hoo.2 (by simp))
      subst hec0
      have HSUB:=ħ (HSUB.o (fun m hm hmb=>by
       obtain⟨n,hn,hnm⟩:=List.mem_iff_getElem.1 hm;obtain⟨g1,g2⟩:=HJ.o n m (by rw[← HME.o];exact hn) (by rw[← hnm];exact List.getElem?_eq_getElem hn);unfold hmB at hmb ⊢;rw[Bool.and_eq_true] at hmb;rw[Bool.and_eq_true]
       exact⟨HIH.o HFR.o m.b g2 g1 hmb.1,by rw[g1];rfl⟩))
      clear hoo HOB HFR HIH HJ;generalize w4=wr2 at *
      go_upto_region 18 with (fail)
      refine Zax (Z4v (w.heap.size) A S iw ks un uc qn qc mn mc qo mo uo x1 x2 x3 ts tw) (by kernel_rfl) (Zzf (w.heap.size) A S iw ks un uc qn qc mn mc qo mo uo x1 x2 x3 ts tw) (Zb4 (by kernel_rfl)) (Zfo (by kernel_rfl)) (Zbb (by kernel_rfl)) ?hs ?he
      case hs =>
       intro i o hi listed a' w' H hl2;have hl3:=Zap hl2;have hin:i<11:=(Array.getElem?_eq_some_iff.1 hi).1;have hb:=ħ H.below;have s4:=H.same 4 (Zai (by kernel_rfl));have s9:=H.same 9 (Zai (by kernel_rfl));have s10:=H.same 10 (Zai (by kernel_rfl));have s11:=H.same 11 (Zai (by kernel_rfl));have hdn:=H.done;have hdf:=H.defers;have hts:=H.tsize;clear hl2 H;obtain⟨t',df⟩:=a';obtain⟨f',rfl⟩:=Zs4 t' hts;have hdf':df=[]:=hdf;subst hdf';have gs4:f' 4 = .pointer (some ⟨w.heap.size,0,none⟩):=s4;have gs9:f' 9 = .bool true:=s9;have gs10:f' 10 = .pointer (some ⟨A,0,none⟩):=s10;have gs11:f' 11 = .pointer (some ⟨S,0,none⟩):=s11;clear s4 s9 s10 s11;clear hdf hts;have hcases:=Zrd i hin;clear hin;rcases hcases with rfl | rfl | rfl | rfl | rfl | rfl | rfl | rfl | rfl | rfl | rfl
       ·obtain rfl:=Option.some.inj hi
        clear hdn hl3;rw[gs9];clear gs4 gs9 gs10 gs11;refine Zab rfl ?_
        go_wp2_with fail
        exact Zaa ⟨_,rfl,Below.refl _ _,rfl⟩
       ·obtain rfl:=Option.some.inj hi
        have dv0:f' 122 = .bool true:=hdn 0 _ 122 rfl (hl3 0 (by rfl)) rfl;clear hdn hl3;rw[dv0];clear dv0 gs4 gs9 gs10 gs11;refine Zab rfl ?_
        go_wp2_with fail
        exact Zaa ⟨_,rfl,Below.refl _ _,rfl⟩
       ·obtain rfl:=Option.some.inj hi
        have dv1:f' 123 = .bool true:=hdn 1 _ 123 rfl (hl3 1 (by rfl)) rfl;clear hdn hl3;rw[gs4,dv1];clear dv1 gs4 gs9 gs10 gs11;have X2:=HXB.o w' (LR.o.trans (hb.o.mono LR.o.size));refine Zab rfl ?_
        go_wp2_with (refine Zav (by rfl) 26 (.tmp 4) rfl (w.heap.size) ?z1 26 #[.slice qo qn qc,.slice mo mn mc,.slice uo un uc] (0,0) _ X2 Tryz.underlying26 rfl (Zek _ _ _) ?_;(case z1=>rfl))
        exact Zaa ⟨_,rfl,Below.refl _ _,rfl⟩
       ·obtain rfl:=Option.some.inj hi
        have dv1:f' 123 = .bool true:=hdn 1 _ 123 rfl (hl3 1 (by rfl)) rfl;clear hdn hl3;rw[gs11,dv1];clear dv1 gs4 gs9 gs10 gs11;have X2:=HSB.o w' (LR.o.trans (hb.o.mono LR.o.size));refine Zab rfl ?_
        go_wp2_with (refine Zav (by rfl) 39 (.tmp 11) rfl (S) ?z2 39 #[.int .i64 (ks:Nat),.int .i64 x1,.int .i64 x2,.int .i64 x3] (0,0) _ X2 Tryz.underlying39 rfl (Zef _ _ _ _) ?_;(case z2=>rfl))
        exact Zaa ⟨_,rfl,Below.refl _ _,rfl⟩
       ·obtain rfl:=Option.some.inj hi
        have dv1:f' 123 = .bool true:=hdn 1 _ 123 rfl (hl3 1 (by rfl)) rfl;have dv2:f' 124 = .agg #[.slice qo qn qc,.slice mo mn mc,.slice uo un uc]:=hdn 2 _ 124 rfl (hl3 2 (by rfl)) rfl;have dv3:f' 125 = .agg #[.int .i64 (ks:Nat),.int .i64 x1,.int .i64 x2,.int .i64 x3]:=hdn 3 _ 125 rfl (hl3 3 (by rfl)) rfl;clear hdn hl3;rw[dv1,dv2,dv3];clear dv1 dv2 dv3 gs4 gs9 gs10 gs11;refine Zab rfl ?_
        go_wp2_with fail
        refine (HTS.o w' (HBL.o w' (LR.o.trans (hb.o.mono LR.o.size)))).mono ?_;rintro e w4 ⟨b4,o4,c4,rfl,hf⟩;have HF:=ħ hf;have HB4:=ħ b4;clear b4 hf
        go_wp2_with fail
        exact Zaa ⟨_,rfl,HB4.o,o4,c4,rfl,HF.o⟩
       ·obtain rfl:=Option.some.inj hi
        have dv1:f' 123 = .bool true:=hdn 1 _ 123 rfl (hl3 1 (by rfl)) rfl;clear hdn hl3;rw[gs4,dv1];clear dv1 gs4 gs9 gs10 gs11;have X2:=HXB.o w' (LR.o.trans (hb.o.mono LR.o.size));refine Zab rfl ?_
        go_wp2_with (refine Zav (by rfl) 26 (.tmp 4) rfl (w.heap.size) ?z3 26 #[.slice qo qn qc,.slice mo mn mc,.slice uo un uc] (0,0) _ X2 Tryz.underlying26 rfl (Zek _ _ _) ?_;(case z3=>rfl))
        exact Zaa ⟨_,rfl,Below.refl _ _,rfl⟩
       ·obtain rfl:=Option.some.inj hi
        have dv1:f' 123 = .bool true:=hdn 1 _ 123 rfl (hl3 1 (by rfl)) rfl;clear hdn hl3;rw[gs10,dv1];clear dv1 gs4 gs9 gs10 gs11;have X2:=HAB.o w' (LR.o.trans (hb.o.mono LR.o.size));refine Zab rfl ?_
        go_wp2_with (refine Zav (by rfl) 39 (.tmp 10) rfl (A) ?z4 39 #[.int .i64 (iw:Nat),.int .i64 x1,.int .i64 x2,.int .i64 x3] (0,0) _ X2 Tryz.underlying39 rfl (Zef _ _ _ _) ?_;(case z4=>rfl))
        exact Zaa ⟨_,rfl,Below.refl _ _,rfl⟩
       ·obtain rfl:=Option.some.inj hi
        have dv1:f' 123 = .bool true:=hdn 1 _ 123 rfl (hl3 1 (by rfl)) rfl;have dv5:f' 127 = .agg #[.slice qo qn qc,.slice mo mn mc,.slice uo un uc]:=hdn 5 _ 127 rfl (hl3 5 (by rfl)) rfl;have dv6:f' 128 = .agg #[.int .i64 (iw:Nat),.int .i64 x1,.int .i64 x2,.int .i64 x3]:=hdn 6 _ 128 rfl (hl3 6 (by rfl)) rfl;clear hdn hl3;rw[dv1,dv5,dv6];clear dv1 dv5 dv6 gs4 gs9 gs10 gs11;refine Zab rfl ?_
        go_wp2_with fail
        refine (HTW.o w' (HBL.o w' (LR.o.trans (hb.o.mono LR.o.size)))).mono ?_;rintro e w4 ⟨b4,o4,c4,rfl,hf⟩;have HF:=ħ hf;have HB4:=ħ b4;clear b4 hf
        go_wp2_with fail
        exact Zaa ⟨_,rfl,HB4.o,o4,c4,rfl,HF.o⟩
       ·obtain rfl:=Option.some.inj hi
        have dv1:f' 123 = .bool true:=hdn 1 _ 123 rfl (hl3 1 (by rfl)) rfl;have dv4:Z4v (w.heap.size) A S iw ks un uc qn qc mn mc qo mo uo x1 x2 x3 ts tw 4 w' (f' 126):=hdn 4 _ 126 rfl (hl3 4 (by rfl)) rfl;obtain⟨ots,cts,dv4,hts⟩:=dv4;have dv7:Z4v (w.heap.size) A S iw ks un uc qn qc mn mc qo mo uo x1 x2 x3 ts tw 7 w' (f' 129):=hdn 7 _ 129 rfl (hl3 7 (by rfl)) rfl;obtain⟨otw,ctw,dv7,htw⟩:=dv7;clear hdn hl3;rw[dv1,dv4,dv7];clear dv1 dv4 dv7 gs4 gs9 gs10 gs11;have HSB2:=ħ (Z2j w' ts tw ots otw cts ctw hts htw HLS.o HLW.o);rw[HSUB.o] at HSB2;clear hts htw;refine Zab rfl ?_
        go_wp2_with fail
        refine HSB2.o.mono ?_;rintro e w4 ⟨rfl,b4⟩;have HB4:=ħ b4;clear b4
        go_wp2_with fail
        exact Zaa ⟨_,rfl,HB4.o,rfl⟩
       ·obtain rfl:=Option.some.inj hi
        have dv1:f' 123 = .bool true:=hdn 1 _ 123 rfl (hl3 1 (by rfl)) rfl;have dv8:f' 130 = .bool true:=hdn 8 _ 130 rfl (hl3 8 (by rfl)) rfl;clear hdn hl3;rw[dv1,dv8];clear dv1 dv8 gs4 gs9 gs10 gs11;refine Zab rfl ?_
        go_wp2_with fail
        exact Zaa ⟨_,rfl,Below.refl _ _,rfl⟩
       ·obtain rfl:=Option.some.inj hi
        have dv9:f' 131 = .bool true:=hdn 9 _ 131 rfl (hl3 9 (by rfl)) rfl;clear hdn hl3;rw[dv9];clear dv9 gs4 gs9 gs10 gs11;refine Zab rfl ?_
        go_wp2_with fail
        exact Zaa ⟨_,rfl,Below.refl _ _,rfl⟩
      case he =>
       intro listed a' w4 H hall;have hd10:Z4v (w.heap.size) A S iw ks un uc qn qc mn mc qo mo uo x1 x2 x3 ts tw 10 w4 (a'.tmps.getD 8 undef):=H.done 10 _ 8 rfl (hall 10 (by decide)) rfl;have hb4:=ħ H.below;have hact:=H.act [122,123,124,125,126,127,128,129,130,131,8] (Zc9 (by kernel_rfl));clear H hall;simp only[List.foldl_cons,List.foldl_nil] at hact;generalize a'.tmps.getD 122 undef=z122 at *;generalize a'.tmps.getD 123 undef=z123 at *;generalize a'.tmps.getD 124 undef=z124 at *;generalize a'.tmps.getD 125 undef=z125 at *;generalize a'.tmps.getD 126 undef=z126 at *;generalize a'.tmps.getD 127 undef=z127 at *;generalize a'.tmps.getD 128 undef=z128 at *;generalize a'.tmps.getD 129 undef=z129 at *;generalize a'.tmps.getD 130 undef=z130 at *;generalize a'.tmps.getD 131 undef=z131 at *;generalize a'.tmps.getD 8 undef=z8 at *;subst hact;have e10:z8 = .bool true:=hd10;subst e10;clear hd10;simp only[Act.put,List.setIfInBounds_toArray,List.set_cons_succ,List.set_cons_zero]
       go_wp2_with fail
       go_ret;exact⟨rfl,HBL.o _ (LR.o.trans (hb4.o.mono LR.o.size))⟩
end Go.Proofs.YtbcgocpihobjnaaGreatDoor
