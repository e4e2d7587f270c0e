import Derived.Test.YtbcgocpihobjnaaGreatDoorCV44
import Derived.Test.YtbcgocpihobjnaaGreatDoorCV11
import Derived.Test.YtbcgocpihobjnaaGreatDoorCV45
set_option linter.all false
set_option maxHeartbeats 32000000
set_option maxRecDepth 100000
namespace Go.Proofs.YtbcgocpihobjnaaGreatDoor
open Go.RowKit Go.Sort Go.Maps
theorem Zoi (t:Array Value) (h:t.size=189):∃ f:Nat→Value,t=#[f 0,f 1,f 2,f 3,f 4,f 5,f 6,f 7,f 8,f 9,f 10,f 11,f 12,f 13,f 14,f 15,f 16,f 17,f 18,f 19,f 20,f 21,f 22,f 23,f 24,f 25,f 26,f 27,f 28,f 29,f 30,f 31,f 32,f 33,f 34,f 35,f 36,f 37,f 38,f 39,f 40,f 41,f 42,f 43,f 44,f 45,f 46,f 47,f 48,f 49,f 50,f 51,f 52,f 53,f 54,f 55,f 56,f 57,f 58,f 59,f 60,f 61,f 62,f 63,f 64,f 65,f 66,f 67,f 68,f 69,f 70,f 71,f 72,f 73,f 74,f 75,f 76,f 77,f 78,f 79,f 80,f 81,f 82,f 83,f 84,f 85,f 86,f 87,f 88,f 89,f 90,f 91,f 92,f 93,f 94,f 95,f 96,f 97,f 98,f 99,f 100,f 101,f 102,f 103,f 104,f 105,f 106,f 107,f 108,f 109,f 110,f 111,f 112,f 113,f 114,f 115,f 116,f 117,f 118,f 119,f 120,f 121,f 122,f 123,f 124,f 125,f 126,f 127,f 128,f 129,f 130,f 131,f 132,f 133,f 134,f 135,f 136,f 137,f 138,f 139,f 140,f 141,f 142,f 143,f 144,f 145,f 146,f 147,f 148,f 149,f 150,f 151,f 152,f 153,f 154,f 155,f 156,f 157,f 158,f 159,f 160,f 161,f 162,f 163,f 164,f 165,f 166,f 167,f 168,f 169,f 170,f 171,f 172,f 173,f 174,f 175,f 176,f 177,f 178,f 179,f 180,f 181,f 182,f 183,f 184,f 185,f 186,f 187,f 188]:=by
 obtain⟨l⟩:=t;have hl:l.length=189:=h
 have e:l=(List.range 189).map (fun i=>l.getD i undef):=by
  apply List.ext_getElem
  ·simp[hl]
  ·intro i h1 h2
   simp[List.getD,h1]
 exact⟨fun i=>l.getD i undef,congrArg List.toArray e⟩
theorem Zhn (i:Nat) (h:Zli 10 i):i=0∨i=1∨i=2∨i=3∨i=4∨i=5∨i=6∨i=7∨i=8∨i=9∨i=11:=by unfold Zli at h;omega
theorem Zsm (i:Nat) (h:i<37):i=0∨i=1∨i=2∨i=3∨i=4∨i=5∨i=6∨i=7∨i=8∨i=9∨i=10∨i=11∨i=12∨i=13∨i=14∨i=15∨i=16∨i=17∨i=18∨i=19∨i=20∨i=21∨i=22∨i=23∨i=24∨i=25∨i=26∨i=27∨i=28∨i=29∨i=30∨i=31∨i=32∨i=33∨i=34∨i=35∨i=36:=by omega
def Zzi (CB OB WS gu ou n cap u:Nat) (us:List Use) (i:Nat) (W:World) (v:Value):Prop:=match i with
 | 0=>∃ V,v = .slice (some ⟨V,0,none⟩) 0 0∧OwnK W WS 4 0 0 [] (some ⟨V,0,none⟩)
 | 1=>v = .pointer (some ⟨CB,2,none⟩)
 | 2=>v = .slice (some ⟨gu,ou,none⟩) n cap
 | 3=>v = .int .i64 (u:Nat)
 | 4=>v = .slice (some ⟨gu,ou+u*4,none⟩) (n-u) (cap-u)
 | 5=>∃ g5 off5 c5,v = .slice (some ⟨g5,off5,none⟩) (n-u) c5∧OwnK W WS 4 (n-u) c5 ((us.drop u).flatMap Zb2) (some ⟨g5,off5,none⟩)
 | 6=>v = .pointer (some ⟨CB,2,none⟩)
 | 7=>v = .slice (some ⟨gu,ou,none⟩) n cap
 | 8=>v = .int .i64 (u:Nat)
 | 9=>v = .slice (some ⟨gu,ou,none⟩) u cap
 | 10=>True
 | 11=>v = .pointer (some ⟨OB,2,none⟩)
 | _=>True
theorem Zwn (CB OB WS gu ou n cap u:Nat) (us:List Use):∀ i w w' v,Zzi CB OB WS gu ou n cap u us i w v→Below w.heap.size w w'→Zzi CB OB WS gu ou n cap u us i w' v:=by
 intro i w w' v h hb
 match i with
 | 0=>obtain⟨V,h1,h2⟩:=h;exact⟨V,h1,h2.below hb⟩
 | 1=>exact h
 | 2=>exact h
 | 3=>exact h
 | 4=>exact h
 | 5=>obtain⟨g5,off5,c5,h1,h2⟩:=h;exact⟨g5,off5,c5,h1,h2.below hb⟩
 | 6=>exact h
 | 7=>exact h
 | 8=>exact h
 | 9=>exact h
 | 10=>trivial
 | 11=>exact h
 | k+12=>trivial
def Zzj (CB OB WS gu ou n cap u:Nat) (us:List (Zi8 3)) (i:Nat) (W:World) (v:Value):Prop:=match i with
 | 0=>∃ V,v = .slice (some ⟨V,0,none⟩) 0 0∧OwnK W WS 3 0 0 [] (some ⟨V,0,none⟩)
 | 1=>v = .pointer (some ⟨CB,1,none⟩)
 | 2=>v = .slice (some ⟨gu,ou,none⟩) n cap
 | 3=>v = .int .i64 (u:Nat)
 | 4=>v = .slice (some ⟨gu,ou+u*3,none⟩) (n-u) (cap-u)
 | 5=>∃ g5 off5 c5,v = .slice (some ⟨g5,off5,none⟩) (n-u) c5∧OwnK W WS 3 (n-u) c5 ((us.drop u).flatMap Zoe) (some ⟨g5,off5,none⟩)
 | 6=>v = .pointer (some ⟨CB,1,none⟩)
 | 7=>v = .slice (some ⟨gu,ou,none⟩) n cap
 | 8=>v = .int .i64 (u:Nat)
 | 9=>v = .slice (some ⟨gu,ou,none⟩) u cap
 | 10=>True
 | 11=>v = .pointer (some ⟨OB,1,none⟩)
 | _=>True
theorem Zwo (CB OB WS gu ou n cap u:Nat) (us:List (Zi8 3)):∀ i w w' v,Zzj CB OB WS gu ou n cap u us i w v→Below w.heap.size w w'→Zzj CB OB WS gu ou n cap u us i w' v:=by
 intro i w w' v h hb
 match i with
 | 0=>obtain⟨V,h1,h2⟩:=h;exact⟨V,h1,h2.below hb⟩
 | 1=>exact h
 | 2=>exact h
 | 3=>exact h
 | 4=>exact h
 | 5=>obtain⟨g5,off5,c5,h1,h2⟩:=h;exact⟨g5,off5,c5,h1,h2.below hb⟩
 | 6=>exact h
 | 7=>exact h
 | 8=>exact h
 | 9=>exact h
 | 10=>trivial
 | 11=>exact h
 | k+12=>trivial
def Zzk (CB WS gl ol lc un u uc bc ac n e9:Nat) (uo bo ao:Option Addr) (hs:List (Zi8 1)) (i:Nat) (W:World) (v:Value):Prop:=match i with
 | 0=>v = .slice (some ⟨gl,ol,none⟩) un lc
 | 1=>v = .int .i64 (un:Nat)
 | 2=>v = .pointer (some ⟨CB,2,none⟩)
 | 3=>v = .slice uo un uc
 | 4=>v = .int .i64 (un:Nat)
 | 5=>v = .bool false
 | 6=>v = .bool false
 | 7=>v = .slice bo un bc
 | 8=>v = .int .i64 (un:Nat)
 | 9=>v = .slice (some ⟨gl,ol,none⟩) un lc
 | 10=>v = .int .i64 (un:Nat)
 | 11=>v = .bool false
 | 12=>v = .bool false
 | 13=>v = .bool false
 | 14=>v = .slice ao un ac
 | 15=>∃ V,v = .slice (some ⟨V,0,none⟩) 0 0∧OwnK W WS 1 0 0 [] (some ⟨V,0,none⟩)
 | 16=>v = .slice (some ⟨gl,ol,none⟩) un lc
 | 17=>v = .int .i64 (u:Nat)
 | 18=>v = .slice (some ⟨gl,ol+u,none⟩) (un-u) (lc-u)
 | 19=>∃ g5 off5 c5,v = .slice (some ⟨g5,off5,none⟩) (un-u) c5∧OwnK W WS 1 (un-u) c5 ((hs.drop u).flatMap Zoe) (some ⟨g5,off5,none⟩)
 | 20=>v = .slice (some ⟨gl,ol,none⟩) un lc
 | 21=>v = .int .i64 (u:Nat)
 | 22=>v = .slice (some ⟨gl,ol,none⟩) u lc
 | 23=>∃ g5 off5 c5,v = .slice (some ⟨g5,off5,none⟩) un c5∧OwnK W WS 1 un c5 ((Zdo u hs).flatMap Zoe) (some ⟨g5,off5,none⟩)
 | 24=>v = .bool true
 | 25=>v = .bool false
 | 26=>v = .bool false
 | 27=>v = .bool false
 | 28=>v = .int .i64 (n:Nat)
 | 29=>v = .int .i64 (n:Nat)
 | 30=>v = .bool false
 | 31=>v = .bool false
 | 32=>v = .bool false
 | 33=>v = .int .i64 (e9:Nat)
 | 34=>v = .int .i64 (e9:Nat)
 | 35=>v = .bool false
 | 36=>v = .bool false
 | _=>True
theorem Zwp (CB WS gl ol lc un u uc bc ac n e9:Nat) (uo bo ao:Option Addr) (hs:List (Zi8 1)):∀ i w w' v,Zzk CB WS gl ol lc un u uc bc ac n e9 uo bo ao hs i w v→Below w.heap.size w w'→Zzk CB WS gl ol lc un u uc bc ac n e9 uo bo ao hs i w' v:=by
 intro i w w' v h hb
 match i with
 | 0=>exact h
 | 1=>exact h
 | 2=>exact h
 | 3=>exact h
 | 4=>exact h
 | 5=>exact h
 | 6=>exact h
 | 7=>exact h
 | 8=>exact h
 | 9=>exact h
 | 10=>exact h
 | 11=>exact h
 | 12=>exact h
 | 13=>exact h
 | 14=>exact h
 | 15=>obtain⟨V,h1,h2⟩:=h;exact⟨V,h1,h2.below hb⟩
 | 16=>exact h
 | 17=>exact h
 | 18=>exact h
 | 19=>obtain⟨g5,off5,c5,h1,h2⟩:=h;exact⟨g5,off5,c5,h1,h2.below hb⟩
 | 20=>exact h
 | 21=>exact h
 | 22=>exact h
 | 23=>obtain⟨g5,off5,c5,h1,h2⟩:=h;exact⟨g5,off5,c5,h1,h2.below hb⟩
 | 24=>exact h
 | 25=>exact h
 | 26=>exact h
 | 27=>exact h
 | 28=>exact h
 | 29=>exact h
 | 30=>exact h
 | 31=>exact h
 | 32=>exact h
 | 33=>exact h
 | 34=>exact h
 | 35=>exact h
 | 36=>exact h
 | k+37=>trivial
theorem Zwq (CB WS gl ol lc un u uc bc ac n e9:Nat) (uo bo ao:Option Addr) (hs:List (Zi8 1)) (w w':World):∀ j v,j ∉ ([15,19]:List Nat)→j≠23→Zzk CB WS gl ol lc un u uc bc ac n e9 uo bo ao hs j w v→Zzk CB WS gl ol lc un u uc bc ac n e9 uo bo ao hs j w' v:=by
 intro j v h1 h2 h
 match j with
 | 0=>exact h
 | 1=>exact h
 | 2=>exact h
 | 3=>exact h
 | 4=>exact h
 | 5=>exact h
 | 6=>exact h
 | 7=>exact h
 | 8=>exact h
 | 9=>exact h
 | 10=>exact h
 | 11=>exact h
 | 12=>exact h
 | 13=>exact h
 | 14=>exact h
 | 15=>exact absurd (by decide) h1
 | 16=>exact h
 | 17=>exact h
 | 18=>exact h
 | 19=>exact absurd (by decide) h1
 | 20=>exact h
 | 21=>exact h
 | 22=>exact h
 | 23=>exact absurd rfl h2
 | 24=>exact h
 | 25=>exact h
 | 26=>exact h
 | 27=>exact h
 | 28=>exact h
 | 29=>exact h
 | 30=>exact h
 | 31=>exact h
 | 32=>exact h
 | 33=>exact h
 | 34=>exact h
 | 35=>exact h
 | 36=>exact h
 | k+37=>trivial
def Z2m (gl ol lc gb ob bc un ix rn rc sc:Nat) (ro so:Option Addr) (i:Nat) (W:World) (v:Value):Prop:=match i with
 | 0=>v = .slice (some ⟨gl,ol,none⟩) un lc
 | 1=>v = .int .i64 (ix:Nat)
 | 2=>v = .pointer (some ⟨gl,ol+ix,none⟩)
 | 3=>v = .slice ro rn rc
 | 4=>v = .int .i64 (rn:Nat)
 | 5=>v = .slice (some ⟨gb,ob,none⟩) un bc
 | 6=>v = .int .i64 (ix:Nat)
 | 7=>v = .pointer (some ⟨gb,ob+ix,none⟩)
 | 8=>v = .slice so rn sc
 | 9=>v = .int .i64 (rn:Nat)
 | 10=>v = .bool false
 | _=>True
theorem Zwr (gl ol lc gb ob bc un ix rn rc sc:Nat) (ro so:Option Addr):∀ i w w' v,Z2m gl ol lc gb ob bc un ix rn rc sc ro so i w v→Below w.heap.size w w'→Z2m gl ol lc gb ob bc un ix rn rc sc ro so i w' v:=by
 intro i w w' v h hb
 match i with
 | 0=>exact h
 | 1=>exact h
 | 2=>exact h
 | 3=>exact h
 | 4=>exact h
 | 5=>exact h
 | 6=>exact h
 | 7=>exact h
 | 8=>exact h
 | 9=>exact h
 | 10=>exact h
 | k+11=>trivial
theorem Zi9:(Tryz.prog.info? 44).map (fun i=>(i.zero,i.size,i.bytes))=some (some (.agg #[.slice none 0 0,.slice none 0 0,.int .i64 0]),3,56):=by kernel_rfl
theorem Zws {w:World} {c:Crw} {qo mo uo:Option Addr} {qn mn un qc mc uc B:Nat} (h:ArgC w c [.slice qo qn qc,.slice mo mn mc,.slice uo un uc] B) {ms:List Mem} {xo:Option Addr} {xc n:Nat} (hu:Zfu w ms xo) (hn:n=ms.length) (hm:∀ m∈ms,Zyf m) (h9:ms.length≤1000000):ArgC w (Zjq c ms) [.slice qo qn qc,.slice xo n xc,.slice uo un uc] B:=by
 obtain⟨⟨qo',qc',mo',mc',uo',uc',he,h1,h2,h3,h4⟩,htab,hok,hnu⟩:=h;simp only[List.cons.injEq,Value.slice.injEq,and_true] at he;obtain⟨⟨rfl,rfl,rfl⟩,⟨-,-,-⟩,rfl,rfl,rfl⟩:=he;exact⟨⟨_,_,xo,xc,_,_,by rw[hn];rfl,h1,hu,h3,h4⟩,htab,⟨hok.q,hm,hok.nq,h9,hok.nu⟩,hnu⟩
theorem Zzl {c:Crw} (hv:Zam c=true):∀ r∈Zbb c,r.length≤c.ms.length:=fun r hr=>by
 obtain⟨i,hi,rfl⟩:=List.mem_iff_getElem.1 hr;obtain⟨-,e⟩:=Zpi hv (List.getElem?_eq_getElem hi);rw[e,List.length_map];exact Zzd _ _ _
theorem Zmb {us:List Use} {i:Nat} {x:Use} (h:us[i]?=some x):(us.take (i+1)).any (fun x=>x.h != -1)=((us.take i).any (fun x=>x.h != -1)||x.h != -1):=by
 have hi:=(List.getElem?_eq_some_iff.1 h).1;rw[List.take_add_one,h,List.any_append];simp
theorem Zsn (w:World) (c:Crw) (cs:List Value) (B:Nat) (iu km:Int) (hi0:0≤iu) (hi1:iu≤255) (hk0:0≤km) (hk1:km≤255) (hcw:Zg2 w c cs) (hG:Tab w B) (hL:LenC c) (hby:∀ p∈c.qs,ByL p) (hnm:∀ m∈c.ms,∀ b∈m.b,NmL b.n) (hcap:∀ mo mn mc,cs[1]?=some (.slice mo mn mc)→mn≤mc) :
  Calls Tryz.prog 5 #[.agg cs.toArray,.int .u8 iu,.int .u8 km] w fun e w'=>e = .returned (.bool true)∧Below w.heap.size w w':=by
 have HVC:=ħ (fun W (hc:Zg2 W c cs) (hT:Tab W B) (hok:CrwOk c)=>Zkw W c cs hc B hT hok);have HTB:=ħ (fun W (hW:Below w.heap.size w W)=>Zbl.step (w:=w) hG hW);have HCW:=ħ (fun W (hW:Below w.heap.size w W)=>hcw.below hW);have HFK:=ħ (fun hf=>Z08 (c:=c) hf hL hby hnm);have HFW:=ħ (fun W (hW:Below w.heap.size w W)=>Zzc W c cs (hcw.below hW) hL);have hun:=hL.nu;have hmn:=hL.nm;have hqn:=hL.nq;obtain⟨qo,qc,mo,mc,uo,uc,rfl,-⟩:=hcw;have hmc:c.ms.length≤mc:=hcap _ _ _ rfl;clear hcap hL hby hnm hG;generalize hqe:c.qs.length=qn at *;generalize hme:c.ms.length=mn at *;generalize hue:c.us.length=un at *;have HUE:=ħ hue;have HME:=ħ hme;have HQE:=ħ hqe;clear hue hme hqe;have X1:Hid (Zaf (w.alloc (.cells #[.slice qo qn qc,.slice mo mn mc,.slice uo un uc] 26)) w.heap.size 26 [.slice qo qn qc,.slice mo mn mc,.slice uo un uc]):=ħ (heap_alloc_new w _);have B1:=ħ ((Below.refl w.heap.size w).alloc (Nat.le_refl _) (.cells #[.slice qo qn qc,.slice mo mn mc,.slice uo un uc] 26))
 go_enter Tryz.func5,Tryz.ntmps5
 go_upto_region 1 with (fail)
 generalize w.alloc (.cells #[.slice qo qn qc,.slice mo mn mc,.slice uo un uc] 26)=w1 at *
 go_wp2_with fail
 refine (Zvz w1 B (HTB.o w1 B1.o)).mono ?_;rintro e w2 ⟨rfl,b2⟩;have X2:=ħ (X1.o.step b2);have B2:=ħ (B1.o.trans (b2.mono B1.o.size));clear b2 X1 B1
 go_upto_region 2 with (fail)
 go_wp2_with (refine wpList_load_row rfl 26 (.tmp 3) rfl (w.heap.size) ?x1 26 #[.slice qo qn qc,.slice mo mn mc,.slice uo un uc] (0,0) _ X2.o Tryz.underlying26 rfl (Zbr _ _ _) ?_;(case x1=>rfl))
 refine (HFW.o w2 B2.o).mono ?_;rintro e w3 ⟨rfl,b3⟩;have X3:=ħ (X2.o.step b3);have B3:=ħ (B2.o.trans (b3.mono B2.o.size));clear b3 X2 B2 HFW;obtain⟨V,hV⟩:∃ V,Z2a c=V:=⟨_,rfl⟩;rw[hV];have HV:=ħ hV;clear hV
 cases V with
 | false =>
  go_wp2_with fail
  go_ret;exact⟨rfl,B3.o⟩
 | true =>
  obtain⟨hok,h999,h65,h129⟩:=HFK.o HV.o;have HOK:=ħ hok;clear hok;have HAG:=ħ (fun W (hW:Below w.heap.size w W)=>(⟨HCW.o W hW,HTB.o W hW,HOK.o,by rw[HUE.o];exact h999⟩:ArgC W c [.slice qo qn qc,.slice mo mn mc,.slice uo un uc] B));clear HFK HTB HCW HOK;have HVC:=ħ (fun W (hW:Below w.heap.size w W)=>HVC.o W (HAG.o W hW).crw (HAG.o W hW).tab (HAG.o W hW).ok)
  go_wp2_with (refine Zbt (by rfl) 26 (.tmp 3) rfl (w.heap.size) ?x2 26 #[.slice qo qn qc,.slice mo mn mc,.slice uo un uc] (0,0) _ X3.o Tryz.underlying26 rfl (Zbr _ _ _) ?_;(case x2=>rfl))
  refine (HVC.o w3 B3.o).mono ?_;rintro e w4 ⟨rfl,b4⟩;have X4:=ħ (X3.o.step b4);have B4:=ħ (B3.o.trans (b4.mono B3.o.size));clear b4 X3 B3 HVC;obtain⟨vv,hvv⟩:∃ x,Zam c=x:=⟨_,rfl⟩;rw[hvv]
  cases vv with
  | false =>
   go_wp2_with fail
   go_ret;exact⟨rfl,B4.o⟩
  | true =>
  have HVV:=ħ hvv;clear hvv;have c2:=X4.o.cell 2 _ rfl;have c1:=X4.o.cell 1 _ rfl;by_cases hu0:un=0
  ·have hz:(((un:Nat):Int)==0)=true:=by simpa using hu0
   go_wp2_with fail
   go_ret;exact⟨rfl,B4.o⟩
  have hz:(((un:Nat):Int)==0)=false:=by simpa using hu0
  by_cases hm0:mn=0
  ·have hy:(((mn:Nat):Int)==0)=true:=by simpa using hm0
   go_wp2_with fail
   go_ret;exact⟨rfl,B4.o⟩
  have hy:(((mn:Nat):Int)==0)=false:=by simpa using hm0
  obtain⟨yi,rfl⟩:∃ y:Nat,iu=(y:Int):=⟨iu.toNat,by omega⟩;obtain⟨yk,rfl⟩:∃ y:Nat,km=(y:Int):=⟨km.toNat,by omega⟩
  have hzj:¬ ((un:Nat):Int)=0:=by omega
  have hyj:¬ ((mn:Nat):Int)=0:=by omega
  obtain⟨u,hue2⟩:∃ m:Nat,yi%un=m:=⟨_,rfl⟩;obtain⟨m,hme2⟩:∃ m:Nat,yk%mn=m:=⟨_,rfl⟩
  have hul:u<un:=by rw[← hue2];exact Nat.mod_lt _ (by omega)
  have hml:m<mn:=by rw[← hme2];exact Nat.mod_lt _ (by omega)
  have hmu:((yi:Int)%((un:Nat):Int))=((u:Nat):Int):=by rw[← hue2];rfl
  have hmu2:Int.tmod (yi:Int) ((un:Nat):Int)=((u:Nat):Int):=by rw[← hue2];rfl
  have hmm:((yk:Int)%((mn:Nat):Int))=((m:Nat):Int):=by rw[← hme2];rfl
  have hmm2:Int.tmod (yk:Int) ((mn:Nat):Int)=((m:Nat):Int):=by rw[← hme2];rfl
  have ecv1:IntKind.i64.wrap ((yi:Nat):Int)=((yi:Nat):Int):=IntWalk.i64_in _ (by omega);have ecm1:IntKind.i64.wrap ((u:Nat):Int)=((u:Nat):Int):=IntWalk.i64_in _ (by omega);have ecv2:IntKind.i64.wrap ((yk:Nat):Int)=((yk:Nat):Int):=IntWalk.i64_in _ (by omega);have ecm2:IntKind.i64.wrap ((m:Nat):Int)=((m:Nat):Int):=IntWalk.i64_in _ (by omega)
  have HP0:Hid (TurP c (Zjp c (Zdo u c.us)) (Zjq c (Zdo m c.ms)) un u (c.us.any (fun x=>x.h != -1))):=ħ (by
   have:=Z1e (c:=c) HVV.o (by rw[HUE.o];omega) u m
   rwa [HUE.o] at this)
  have HCW:=ħ (fun W (hW:Below w.heap.size w W)=>Z2b (HAG.o W hW).crw);have HMF:=ħ (fun W (hW:Below w.heap.size w W)=>Z2f (HAG.o W hW).crw);have huc:=(HCW.o w4 B4.o).2.2;have HST:=ħ (fun W c' cs' (ha:ArgC W c' cs' B)=>Zsl W c' cs' B ha);have HCT:=ħ (fun W c' cs' (ha:ArgC W c' cs' B)=>Zqv W c' cs' B ha);clear hue2 hme2
  go_upto_region 6 with (fail)
  clear hmu hmu2 hmm hmm2 ecv1 ecm1 ecv2 ecm2 hz hy hzj hyj c1 c2;have L4:=ħ (Below.refl w4.heap.size w4);have O1:Hid (Zaf (w4.alloc (.cells #[.slice none 0 0,.slice none 0 0,.slice none 0 0] 26)) w4.heap.size 26 [.slice none 0 0,.slice none 0 0,.slice none 0 0]):=ħ (heap_alloc_new w4 _);have BO:=ħ ((Below.refl w4.heap.size w4).alloc (Nat.le_refl _) (.cells #[.slice none 0 0,.slice none 0 0,.slice none 0 0] 26))
  go_upto_region 7 with (first | (refine wpList_load_row rfl 26 (.tmp 3) rfl (w.heap.size) ?xl9 26 #[.slice qo qn qc,.slice mo mn mc,.slice uo un uc] (0,0) _ X4.o Tryz.underlying26 rfl (Zbr _ _ _) ?_;(case xl9=>rfl)) | (refine Zaz rfl 26 (.tmp 10) (.tmp 58) rfl w4.heap.size #[.slice qo qn qc,.slice mo mn mc,.slice uo un uc] (by rfl) (by rfl) 26 _ O1.o (Zbr _ _ _) rfl (by simp[Value.oneCell']) ?_;intro w9 s9 u9;have S9:=ħ s9;have U9:=ħ u9;clear s9 u9))
  have A9:=ħ (U9.o.below BO.o (Nat.le_refl _));have S9:Hid (Zaf w9 w4.heap.size 26 [.slice qo qn qc,.slice mo mn mc,.slice uo un uc]):=ħ S9.o;have X9:=ħ (X4.o.step A9.o);have L9:=ħ (L4.o.trans (A9.o.mono L4.o.size));have Z9:Hid (w4.heap.size<w9.heap.size):=ħ S9.o.lt;clear O1 BO U9;have HCB:=ħ (fun W (hW:Below w9.heap.size w9 W)=>X9.o.step hW);obtain⟨x0,hx0⟩:∃ x,c.us[0]?=some x:=⟨_,List.getElem?_eq_getElem (by rw[HUE.o];omega)⟩;obtain⟨gu,ou,huo,-,-⟩:=(HCW.o w4 B4.o).1.at Zaw 0 x0 hx0;have HUO:=ħ huo;have HUF:=ħ (fun W (hW:Below w9.heap.size w9 W)=>(HCW.o W (B4.o.trans ((A9.o.trans (hW.mono A9.o.size)).mono B4.o.size))).1);obtain⟨us,hus⟩:∃ l,c.us=l:=⟨_,rfl⟩;have HUS:=ħ hus;have HUL:=ħ HUE.o.symm;have HUU:Hid (u≤un):=ħ (by omega);have HUC:Hid (u<uc):=ħ (by omega);obtain⟨ob,hob⟩:∃ n,w4.heap.size=n:=⟨_,rfl⟩;have HOB:=ħ hob;rw[huo] at HUF;rw[hus] at HUF HUL;rw[hob] at S9 Z9 ⊢;clear hus hob huo hx0;simp only[Act.put]
  go_cut [] from 59 to 70 (fun wx=>∃ g6 off6 c6,Hid (Zaf wx ob 26 [.slice qo qn qc,.slice mo mn mc,.slice (some ⟨g6,off6,none⟩) un c6])∧Hid (OwnK wx w9.heap.size 4 un c6 ((Zdo u us).flatMap Zb2) (some ⟨g6,off6,none⟩))∧Hid (Below w4.heap.size w4 wx))
  case first =>
   refine Zfl 10 (Zzi (w.heap.size) ob w9.heap.size gu ou un uc u us) (by kernel_rfl) rfl (Zwn (w.heap.size) ob w9.heap.size gu ou un uc u us) (Zlf (by kernel_rfl)) (Ztd (by kernel_rfl)) (Za9 (by kernel_rfl)) (Zh0 (by kernel_rfl)) (Zh0 (by kernel_rfl)) ?hs ?hA ?hB
   case hs =>
    intro i o hin hi listed a' w' H hsn hl2;have hl3:=Zaq hl2;have hb:=ħ H.below;have s3:=hsn 3 (Zea (by kernel_rfl));have s8:=hsn 8 (Zea (by kernel_rfl));have s10:=hsn 10 (Zea (by kernel_rfl));have hdn:=H.done;have hdf:=H.defers;have hts:=H.tsize;clear hl2 H hsn;obtain⟨t',df⟩:=a';obtain⟨f',rfl⟩:=Zoi t' hts;have hdf':df=[]:=hdf;subst hdf';have gs3:f' 3 = .pointer (some ⟨w.heap.size,0,none⟩):=s3;have gs8:f' 8 = .int .i64 (u:Nat):=s8;have gs10:f' 10 = .pointer (some ⟨ob,0,none⟩):=s10;clear s3 s8 s10;clear hdf hts;have hcases:=Zhn i hin;clear hin;rcases hcases with rfl | rfl | rfl | rfl | rfl | rfl | rfl | rfl | rfl | rfl | rfl
    ·obtain rfl:=Option.some.inj hi
     clear hdn hl3;clear gs3 gs8 gs10;have bx:=(Below.refl w'.heap.size w').alloc (Nat.le_refl _) (.cells #[] 39);have HV:=ħ ((OwnK.made w' 39 4).lower hb.o.size);have BX:=ħ bx;clear bx;refine Zab rfl ?_
     go_wp2_with fail
     exact Zaa ⟨_,rfl,BX.o,w'.heap.size,rfl,HV.o⟩
    ·obtain rfl:=Option.some.inj hi
     clear hdn hl3;rw[gs3];clear gs3 gs8 gs10;refine Zab rfl ?_
     go_wp2_with fail
     exact Zaa ⟨_,rfl,Below.refl _ _,rfl⟩
    ·obtain rfl:=Option.some.inj hi
     have dv1:f' 60 = .pointer (some ⟨w.heap.size,2,none⟩):=hdn 1 _ 60 rfl (hl3 1 (by rfl)) rfl;clear hdn hl3;rw[dv1];clear dv1 gs3 gs8 gs10;have c2:=(HCB.o w' hb.o).cell 2 _ rfl;rw[HUO.o] at c2;refine Zab rfl ?_
     go_wp2_with fail
     exact Zaa ⟨_,rfl,Below.refl _ _,rfl⟩
    ·obtain rfl:=Option.some.inj hi
     clear hdn hl3;rw[gs8];clear gs3 gs8 gs10;refine Zab rfl ?_
     go_wp2_with fail
     exact Zaa ⟨_,rfl,Below.refl _ _,rfl⟩
    ·obtain rfl:=Option.some.inj hi
     have dv2:f' 61 = .slice (some ⟨gu,ou,none⟩) un uc:=hdn 2 _ 61 rfl (hl3 2 (by rfl)) rfl;have dv3:f' 62 = .int .i64 (u:Nat):=hdn 3 _ 62 rfl (hl3 3 (by rfl)) rfl;clear hdn hl3;rw[dv2,dv3];clear dv2 dv3 gs3 gs8 gs10;have hs1:=Zwk gu ou un uc u Tryz.underlying24 Zof HUU.o HUC.o;refine Zab rfl ?_
     go_wp2_with fail
     exact Zaa ⟨_,rfl,Below.refl _ _,rfl⟩
    ·obtain rfl:=Option.some.inj hi
     have dv0:Zzi (w.heap.size) ob w9.heap.size gu ou un uc u us 0 w' (f' 59):=hdn 0 _ 59 rfl (hl3 0 (by rfl)) rfl;obtain⟨V,dv0,hV⟩:=dv0;have dv4:f' 63 = .slice (some ⟨gu,ou+u*4,none⟩) (un-u) (uc-u):=hdn 4 _ 63 rfl (hl3 4 (by rfl)) rfl;clear hdn hl3;rw[dv0,dv4];clear dv0 dv4 gs3 gs8 gs10;have HV:=ħ hV;clear hV;have HUW:=ħ ((HUF.o w' hb.o).part Zaw u);refine Zab rfl ?_;refine Zv7 Zb2 24 39 (.agg #[.int .i64 0,.int .i64 0,.int .i64 0,.int .i64 0]) 4 32 Tryz.underlying24 Zef rfl (by omega) (by omega) Zaw Zl8 w' w9.heap.size rfl (.tmp 59) (.tmp 63) rfl ⟨V,0,none⟩ ?q1 HV.o hb.o.size (some ⟨gu,ou+u*4,none⟩) (un-u) (uc-u) (us.drop u) ?q2 (by rw[List.length_drop,← HUL.o]) HUW.o (by omega) ?_
     case q1=>rfl
     case q2=>rfl
     intro g5 off5 c5 wa o8 b8;have O8:=ħ o8;have B8:=ħ b8;clear o8 b8
     go_wp2_with fail
     exact Zaa ⟨_,rfl,B8.o,g5,off5,c5,rfl,O8.o⟩
    ·obtain rfl:=Option.some.inj hi
     clear hdn hl3;rw[gs3];clear gs3 gs8 gs10;refine Zab rfl ?_
     go_wp2_with fail
     exact Zaa ⟨_,rfl,Below.refl _ _,rfl⟩
    ·obtain rfl:=Option.some.inj hi
     have dv6:f' 65 = .pointer (some ⟨w.heap.size,2,none⟩):=hdn 6 _ 65 rfl (hl3 6 (by rfl)) rfl;clear hdn hl3;rw[dv6];clear dv6 gs3 gs8 gs10;have c2:=(HCB.o w' hb.o).cell 2 _ rfl;rw[HUO.o] at c2;refine Zab rfl ?_
     go_wp2_with fail
     exact Zaa ⟨_,rfl,Below.refl _ _,rfl⟩
    ·obtain rfl:=Option.some.inj hi
     clear hdn hl3;rw[gs8];clear gs3 gs8 gs10;refine Zab rfl ?_
     go_wp2_with fail
     exact Zaa ⟨_,rfl,Below.refl _ _,rfl⟩
    ·obtain rfl:=Option.some.inj hi
     have dv7:f' 66 = .slice (some ⟨gu,ou,none⟩) un uc:=hdn 7 _ 66 rfl (hl3 7 (by rfl)) rfl;have dv8:f' 67 = .int .i64 (u:Nat):=hdn 8 _ 67 rfl (hl3 8 (by rfl)) rfl;clear hdn hl3;rw[dv7,dv8];clear dv7 dv8 gs3 gs8 gs10;have hs2:=Zwl gu ou un uc u Tryz.underlying24 Zof (Nat.le_of_lt HUC.o);refine Zab rfl ?_
     go_wp2_with fail
     exact Zaa ⟨_,rfl,Below.refl _ _,rfl⟩
    ·obtain rfl:=Option.some.inj hi
     clear hdn hl3;rw[gs10];clear gs3 gs8 gs10;refine Zab rfl ?_
     go_wp2_with fail
     exact Zaa ⟨_,rfl,Below.refl _ _,rfl⟩
   case hA =>
    intro listed a' w4 H hsn hall hstr;have hd5:Zzi (w.heap.size) ob w9.heap.size gu ou un uc u us 5 w4 (a'.tmps.getD 64 undef):=H.done 5 _ 64 rfl (hall 5 (by decide)) rfl;have hd9:Zzi (w.heap.size) ob w9.heap.size gu ou un uc u us 9 w4 (a'.tmps.getD 68 undef):=H.done 9 _ 68 rfl (hall 9 (by decide)) rfl;have hd11:Zzi (w.heap.size) ob w9.heap.size gu ou un uc u us 11 w4 (a'.tmps.getD 70 undef):=H.done 11 _ 70 rfl hstr rfl;have hb4:=ħ H.below;have hact:=H.actX hsn [59,60,61,62,63,64,65,66,67,68,70] (Zlj (by kernel_rfl));clear H hall hsn hstr;simp only[List.foldl_cons,List.foldl_nil] at hact;generalize a'.tmps.getD 59 undef=z59 at *;generalize a'.tmps.getD 60 undef=z60 at *;generalize a'.tmps.getD 61 undef=z61 at *;generalize a'.tmps.getD 62 undef=z62 at *;generalize a'.tmps.getD 63 undef=z63 at *;generalize a'.tmps.getD 64 undef=z64 at *;generalize a'.tmps.getD 65 undef=z65 at *;generalize a'.tmps.getD 66 undef=z66 at *;generalize a'.tmps.getD 67 undef=z67 at *;generalize a'.tmps.getD 68 undef=z68 at *;generalize a'.tmps.getD 70 undef=z70 at *;subst hact;obtain⟨g5,off5,c5,e5,hO5⟩:=hd5;subst e5;have e9:z68 = .slice (some ⟨gu,ou,none⟩) u uc:=hd9;subst e9;clear hd9;have e11:z70 = .pointer (some ⟨ob,2,none⟩):=hd11;subst e11;clear hd11;simp only[Act.put,List.setIfInBounds_toArray,List.set_cons_succ,List.set_cons_zero];have HO5:=ħ hO5;have S4:=ħ (S9.o.step hb4.o);have A4:=ħ (A9.o.trans (hb4.o.mono A9.o.size));have K4:=ħ hb4.o.size;have HUW:=ħ ((HUF.o w4 hb4.o).first Zaw u)
    have e6:un-u+u=un:=by have:=HUU.o;omega
    clear hO5 hb4;refine (Zab rfl ?_);refine Zsk Zb2 24 39 (.agg #[.int .i64 0,.int .i64 0,.int .i64 0,.int .i64 0]) 4 32 Tryz.underlying24 Zef rfl (by omega) (by omega) Zaw Zl8 w4 w9.heap.size rfl (.tmp 64) (.tmp 68) rfl ⟨g5,off5,none⟩ c5 (un-u) (us.drop u) ?r1A HO5.o K4.o (some ⟨gu,ou,none⟩) u uc (us.take u) ?r2A (by rw[List.length_take,← HUL.o];have:=HUU.o;omega) HUW.o (by rw[e6];omega) ?_
    case r1A=>rfl
    case r2A=>rfl
    intro g6 off6 c6 wq o6 b6;rw[e6] at o6 ⊢;have O6:Hid (OwnK wq w9.heap.size 4 un c6 ((Zdo u us).flatMap Zb2) (some ⟨g6,off6,none⟩)):=ħ o6;have S6:=ħ (S4.o.below b6 Z9.o);have A6:=ħ (A4.o.trans (b6.mono A9.o.size));have HG6:Hid (w9.heap.size≤g6):=ħ (O6.o.blk_lt rfl).1;clear o6 b6 S4 A4 HO5 K4 HUW e6;have c8:=S6.o.cell 2 _ rfl;have f8:=S6.o.warm 2;have SZ:Hid (Zaf (wq.setCell ⟨ob,2,none⟩ (.slice (some ⟨g6,off6,none⟩) un c6)) ob 26 [.slice qo qn qc,.slice mo mn mc,.slice (some ⟨g6,off6,none⟩) un c6]):=ħ (S6.o.set 2 _)
    have OZ:=ħ (O6.o.setCell (p:=⟨ob,2,none⟩) (.slice (some ⟨g6,off6,none⟩) un c6) (fun e=>by
     have e:g6=ob:=Option.some.inj e;have:=HG6.o;have:=Z9.o
     omega))
    have AZ:=ħ (A6.o.setCell (p:=⟨ob,2,none⟩) (Nat.le_of_eq HOB.o) (.slice (some ⟨g6,off6,none⟩) un c6));clear S6 O6 A6
    go_wp2_with fail
    refine Zaa (Zas (Zab rfl ?_))
    go_wp2_with fail
    refine Zaa (Zbo ?_);clear c8 f8;generalize wq.setCell ⟨ob,2,none⟩ (.slice (some ⟨g6,off6,none⟩) un c6)=wz at *
    go_wp2_with fail
    go_meet
    case rel=>exact⟨g6,off6,c6,SZ,OZ,AZ⟩
   case hB =>
    intro listed a' w4 H hsn hall;have hd5:Zzi (w.heap.size) ob w9.heap.size gu ou un uc u us 5 w4 (a'.tmps.getD 64 undef):=H.done 5 _ 64 rfl (hall 5 (by decide)) rfl;have hd9:Zzi (w.heap.size) ob w9.heap.size gu ou un uc u us 9 w4 (a'.tmps.getD 68 undef):=H.done 9 _ 68 rfl (hall 9 (by decide)) rfl;have hb4:=ħ H.below;have hact:=H.actX hsn [59,60,61,62,63,64,65,66,67,68,70] (Zlj (by kernel_rfl));clear H hall hsn;simp only[List.foldl_cons,List.foldl_nil] at hact;generalize a'.tmps.getD 59 undef=z59 at *;generalize a'.tmps.getD 60 undef=z60 at *;generalize a'.tmps.getD 61 undef=z61 at *;generalize a'.tmps.getD 62 undef=z62 at *;generalize a'.tmps.getD 63 undef=z63 at *;generalize a'.tmps.getD 64 undef=z64 at *;generalize a'.tmps.getD 65 undef=z65 at *;generalize a'.tmps.getD 66 undef=z66 at *;generalize a'.tmps.getD 67 undef=z67 at *;generalize a'.tmps.getD 68 undef=z68 at *;generalize a'.tmps.getD 70 undef=z70 at *;subst hact;obtain⟨g5,off5,c5,e5,hO5⟩:=hd5;subst e5;have e9:z68 = .slice (some ⟨gu,ou,none⟩) u uc:=hd9;subst e9;clear hd9;simp only[Act.put,List.setIfInBounds_toArray,List.set_cons_succ,List.set_cons_zero];have HO5:=ħ hO5;have S4:=ħ (S9.o.step hb4.o);have A4:=ħ (A9.o.trans (hb4.o.mono A9.o.size));have K4:=ħ hb4.o.size;have HUW:=ħ ((HUF.o w4 hb4.o).first Zaw u)
    have e6:un-u+u=un:=by have:=HUU.o;omega
    clear hO5 hb4;refine Zas (Zab rfl ?_);refine Zsk Zb2 24 39 (.agg #[.int .i64 0,.int .i64 0,.int .i64 0,.int .i64 0]) 4 32 Tryz.underlying24 Zef rfl (by omega) (by omega) Zaw Zl8 w4 w9.heap.size rfl (.tmp 64) (.tmp 68) rfl ⟨g5,off5,none⟩ c5 (un-u) (us.drop u) ?r1B HO5.o K4.o (some ⟨gu,ou,none⟩) u uc (us.take u) ?r2B (by rw[List.length_take,← HUL.o];have:=HUU.o;omega) HUW.o (by rw[e6];omega) ?_
    case r1B=>rfl
    case r2B=>rfl
    intro g6 off6 c6 wq o6 b6;rw[e6] at o6 ⊢;have O6:Hid (OwnK wq w9.heap.size 4 un c6 ((Zdo u us).flatMap Zb2) (some ⟨g6,off6,none⟩)):=ħ o6;have S6:=ħ (S4.o.below b6 Z9.o);have A6:=ħ (A4.o.trans (b6.mono A9.o.size));have HG6:Hid (w9.heap.size≤g6):=ħ (O6.o.blk_lt rfl).1;clear o6 b6 S4 A4 HO5 K4 HUW e6;have c8:=S6.o.cell 2 _ rfl;have f8:=S6.o.warm 2;have SZ:Hid (Zaf (wq.setCell ⟨ob,2,none⟩ (.slice (some ⟨g6,off6,none⟩) un c6)) ob 26 [.slice qo qn qc,.slice mo mn mc,.slice (some ⟨g6,off6,none⟩) un c6]):=ħ (S6.o.set 2 _)
    have OZ:=ħ (O6.o.setCell (p:=⟨ob,2,none⟩) (.slice (some ⟨g6,off6,none⟩) un c6) (fun e=>by
     have e:g6=ob:=Option.some.inj e;have:=HG6.o;have:=Z9.o
     omega))
    have AZ:=ħ (A6.o.setCell (p:=⟨ob,2,none⟩) (Nat.le_of_eq HOB.o) (.slice (some ⟨g6,off6,none⟩) un c6));clear S6 O6 A6
    go_wp2_with fail
    refine Zaa (Zas (Zab rfl ?_))
    go_wp2_with fail
    refine Zaa (Zas (Zab rfl ?_))
    go_wp2_with fail
    refine Zaa (Zbo ?_);clear c8 f8;generalize wq.setCell ⟨ob,2,none⟩ (.slice (some ⟨g6,off6,none⟩) un c6)=wz at *
    go_wp2_with fail
    go_meet
    case rel=>exact⟨g6,off6,c6,SZ,OZ,AZ⟩
  case rest =>
   obtain⟨g6,off6,c6,SZ,OZ,AZ⟩:=hcut;have HRU:=ħ (OZ.o.flatR Zaw (by rw[Zcs];exact HUL.o));have HC6:=ħ OZ.o.len_le.1;generalize wc=wz at *;have XZ:=ħ (X4.o.step AZ.o);have LZ:=ħ (Below.refl wz.heap.size wz);clear S9 A9 Z9 X9 L9 HCB HUF HUU HUC HUO OZ HOB;have O1:Hid (Zaf (wz.alloc (.cells #[.slice none 0 0,.slice none 0 0,.slice none 0 0] 26)) wz.heap.size 26 [.slice none 0 0,.slice none 0 0,.slice none 0 0]):=ħ (heap_alloc_new wz _);have BO:=ħ ((Below.refl wz.heap.size wz).alloc (Nat.le_refl _) (.cells #[.slice none 0 0,.slice none 0 0,.slice none 0 0] 26))
   go_upto_region 9 with (first | (refine wpList_load_row rfl 26 (.tmp 3) rfl (w.heap.size) ?xl9 26 #[.slice qo qn qc,.slice mo mn mc,.slice uo un uc] (0,0) _ XZ.o Tryz.underlying26 rfl (Zbr _ _ _) ?_;(case xl9=>rfl)) | (refine Zaz rfl 26 (.tmp 11) (.tmp 71) rfl wz.heap.size #[.slice qo qn qc,.slice mo mn mc,.slice uo un uc] (by rfl) (by rfl) 26 _ O1.o (Zbr _ _ _) rfl (by simp[Value.oneCell']) ?_;intro w9 s9 u9;have S9:=ħ s9;have U9:=ħ u9;clear s9 u9))
   have A9:=ħ (U9.o.below BO.o (Nat.le_refl _));have S9:Hid (Zaf w9 wz.heap.size 26 [.slice qo qn qc,.slice mo mn mc,.slice uo un uc]):=ħ S9.o;have X9:=ħ (XZ.o.step A9.o);have L9:=ħ (LZ.o.trans (A9.o.mono LZ.o.size));have Z9:Hid (wz.heap.size<w9.heap.size):=ħ S9.o.lt;clear O1 BO U9;have S5:=SZ;have H5:=HRU;have HUN:=HUL;clear HUL HRU;have BZ:=ħ (B4.o.trans (AZ.o.mono B4.o.size));have HCB:=ħ (fun W (hW:Below w9.heap.size w9 W)=>X9.o.step hW);have hmr:=HMF.o wz BZ.o;obtain⟨m0,hm0'⟩:∃ x,c.ms[0]?=some x:=⟨_,List.getElem?_eq_getElem (by rw[HME.o];omega)⟩;obtain⟨gu,ou,cs0,huo,-,-,-⟩:=hmr.at 0 m0 hm0';obtain⟨hs,hfl,hhd⟩:=Zwg hmr;have HUO:=ħ huo;have HUF:=ħ (fun W (hW:Below w9.heap.size w9 W)=>hfl.below (A9.o.trans (hW.mono A9.o.size)));have HHY:=ħ hhd;have HUL:Hid (mn=hs.length):=ħ (by rw[hhd.1];exact HME.o.symm);have HUU:Hid (m≤mn):=ħ (by omega);have HUC:Hid (m<mc):=ħ (by omega);obtain⟨ob2,hob⟩:∃ n,wz.heap.size=n:=⟨_,rfl⟩;have HOB:=ħ hob;rw[huo] at HUF;rw[hob] at S9 Z9 ⊢;clear hob huo hm0' hfl hhd hmr SZ;simp only[Act.put]
   go_cut [] from 72 to 83 (fun wx=>∃ g6 off6 c6,Hid (Zaf wx ob2 26 [.slice qo qn qc,.slice (some ⟨g6,off6,none⟩) mn c6,.slice uo un uc])∧Hid (OwnK wx w9.heap.size 3 mn c6 ((Zdo m hs).flatMap Zoe) (some ⟨g6,off6,none⟩))∧Hid (Below wz.heap.size wz wx))
   case first =>
    refine Zfl 10 (Zzj (w.heap.size) ob2 w9.heap.size gu ou mn mc m hs) (by kernel_rfl) rfl (Zwo (w.heap.size) ob2 w9.heap.size gu ou mn mc m hs) (Zlf (by kernel_rfl)) (Ztd (by kernel_rfl)) (Za9 (by kernel_rfl)) (Zh0 (by kernel_rfl)) (Zh0 (by kernel_rfl)) ?hs ?hA ?hB
    case hs =>
     intro i o hin hi listed a' w' H hsn hl2;have hl3:=Zaq hl2;have hb:=ħ H.below;have s3:=hsn 3 (Zea (by kernel_rfl));have s9:=hsn 9 (Zea (by kernel_rfl));have s11:=hsn 11 (Zea (by kernel_rfl));have hdn:=H.done;have hdf:=H.defers;have hts:=H.tsize;clear hl2 H hsn;obtain⟨t',df⟩:=a';obtain⟨f',rfl⟩:=Zoi t' hts;have hdf':df=[]:=hdf;subst hdf';have gs3:f' 3 = .pointer (some ⟨w.heap.size,0,none⟩):=s3;have gs9:f' 9 = .int .i64 (m:Nat):=s9;have gs11:f' 11 = .pointer (some ⟨ob2,0,none⟩):=s11;clear s3 s9 s11;clear hdf hts;have hcases:=Zhn i hin;clear hin;rcases hcases with rfl | rfl | rfl | rfl | rfl | rfl | rfl | rfl | rfl | rfl | rfl
     ·obtain rfl:=Option.some.inj hi
      clear hdn hl3;clear gs3 gs9 gs11;have bx:=(Below.refl w'.heap.size w').alloc (Nat.le_refl _) (.cells #[] 44);have HV:=ħ ((OwnK.made w' 44 3).lower hb.o.size);have BX:=ħ bx;clear bx;refine Zab rfl ?_
      go_wp2_with fail
      exact Zaa ⟨_,rfl,BX.o,w'.heap.size,rfl,HV.o⟩
     ·obtain rfl:=Option.some.inj hi
      clear hdn hl3;rw[gs3];clear gs3 gs9 gs11;refine Zab rfl ?_
      go_wp2_with fail
      exact Zaa ⟨_,rfl,Below.refl _ _,rfl⟩
     ·obtain rfl:=Option.some.inj hi
      have dv1:f' 73 = .pointer (some ⟨w.heap.size,1,none⟩):=hdn 1 _ 73 rfl (hl3 1 (by rfl)) rfl;clear hdn hl3;rw[dv1];clear dv1 gs3 gs9 gs11;have c1:=(HCB.o w' hb.o).cell 1 _ rfl;rw[HUO.o] at c1;refine Zab rfl ?_
      go_wp2_with fail
      exact Zaa ⟨_,rfl,Below.refl _ _,rfl⟩
     ·obtain rfl:=Option.some.inj hi
      clear hdn hl3;rw[gs9];clear gs3 gs9 gs11;refine Zab rfl ?_
      go_wp2_with fail
      exact Zaa ⟨_,rfl,Below.refl _ _,rfl⟩
     ·obtain rfl:=Option.some.inj hi
      have dv2:f' 74 = .slice (some ⟨gu,ou,none⟩) mn mc:=hdn 2 _ 74 rfl (hl3 2 (by rfl)) rfl;have dv3:f' 75 = .int .i64 (m:Nat):=hdn 3 _ 75 rfl (hl3 3 (by rfl)) rfl;clear hdn hl3;rw[dv2,dv3];clear dv2 dv3 gs3 gs9 gs11;have hs1:=Zwk gu ou mn mc m Tryz.underlying23 Zog HUU.o HUC.o;refine Zab rfl ?_
      go_wp2_with fail
      exact Zaa ⟨_,rfl,Below.refl _ _,rfl⟩
     ·obtain rfl:=Option.some.inj hi
      have dv0:Zzj (w.heap.size) ob2 w9.heap.size gu ou mn mc m hs 0 w' (f' 72):=hdn 0 _ 72 rfl (hl3 0 (by rfl)) rfl;obtain⟨V,dv0,hV⟩:=dv0;have dv4:f' 76 = .slice (some ⟨gu,ou+m*3,none⟩) (mn-m) (mc-m):=hdn 4 _ 76 rfl (hl3 4 (by rfl)) rfl;clear hdn hl3;rw[dv0,dv4];clear dv0 dv4 gs3 gs9 gs11;have HV:=ħ hV;clear hV;have HUW:=ħ ((HUF.o w' hb.o).part Zbh m);refine Zab rfl ?_;refine Zv7 Zoe 23 44 (.agg #[.slice none 0 0,.slice none 0 0,.int .i64 0]) 3 56 Tryz.underlying23 Zi9 rfl (by omega) (by omega) Zbh Zgo w' w9.heap.size rfl (.tmp 72) (.tmp 76) rfl ⟨V,0,none⟩ ?q1 HV.o hb.o.size (some ⟨gu,ou+m*3,none⟩) (mn-m) (mc-m) (hs.drop m) ?q2 (by rw[List.length_drop,← HUL.o]) HUW.o (by omega) ?_
      case q1=>rfl
      case q2=>rfl
      intro g5 off5 c5 wa o8 b8;have O8:=ħ o8;have B8:=ħ b8;clear o8 b8
      go_wp2_with fail
      exact Zaa ⟨_,rfl,B8.o,g5,off5,c5,rfl,O8.o⟩
     ·obtain rfl:=Option.some.inj hi
      clear hdn hl3;rw[gs3];clear gs3 gs9 gs11;refine Zab rfl ?_
      go_wp2_with fail
      exact Zaa ⟨_,rfl,Below.refl _ _,rfl⟩
     ·obtain rfl:=Option.some.inj hi
      have dv6:f' 78 = .pointer (some ⟨w.heap.size,1,none⟩):=hdn 6 _ 78 rfl (hl3 6 (by rfl)) rfl;clear hdn hl3;rw[dv6];clear dv6 gs3 gs9 gs11;have c1:=(HCB.o w' hb.o).cell 1 _ rfl;rw[HUO.o] at c1;refine Zab rfl ?_
      go_wp2_with fail
      exact Zaa ⟨_,rfl,Below.refl _ _,rfl⟩
     ·obtain rfl:=Option.some.inj hi
      clear hdn hl3;rw[gs9];clear gs3 gs9 gs11;refine Zab rfl ?_
      go_wp2_with fail
      exact Zaa ⟨_,rfl,Below.refl _ _,rfl⟩
     ·obtain rfl:=Option.some.inj hi
      have dv7:f' 79 = .slice (some ⟨gu,ou,none⟩) mn mc:=hdn 7 _ 79 rfl (hl3 7 (by rfl)) rfl;have dv8:f' 80 = .int .i64 (m:Nat):=hdn 8 _ 80 rfl (hl3 8 (by rfl)) rfl;clear hdn hl3;rw[dv7,dv8];clear dv7 dv8 gs3 gs9 gs11;have hs2:=Zwl gu ou mn mc m Tryz.underlying23 Zog (Nat.le_of_lt HUC.o);refine Zab rfl ?_
      go_wp2_with fail
      exact Zaa ⟨_,rfl,Below.refl _ _,rfl⟩
     ·obtain rfl:=Option.some.inj hi
      clear hdn hl3;rw[gs11];clear gs3 gs9 gs11;refine Zab rfl ?_
      go_wp2_with fail
      exact Zaa ⟨_,rfl,Below.refl _ _,rfl⟩
    case hA =>
     intro listed a' w4 H hsn hall hstr;have hd5:Zzj (w.heap.size) ob2 w9.heap.size gu ou mn mc m hs 5 w4 (a'.tmps.getD 77 undef):=H.done 5 _ 77 rfl (hall 5 (by decide)) rfl;have hd9:Zzj (w.heap.size) ob2 w9.heap.size gu ou mn mc m hs 9 w4 (a'.tmps.getD 81 undef):=H.done 9 _ 81 rfl (hall 9 (by decide)) rfl;have hd11:Zzj (w.heap.size) ob2 w9.heap.size gu ou mn mc m hs 11 w4 (a'.tmps.getD 83 undef):=H.done 11 _ 83 rfl hstr rfl;have hb4:=ħ H.below;have hact:=H.actX hsn [72,73,74,75,76,77,78,79,80,81,83] (Zlj (by kernel_rfl));clear H hall hsn hstr;simp only[List.foldl_cons,List.foldl_nil] at hact;generalize a'.tmps.getD 72 undef=z72 at *;generalize a'.tmps.getD 73 undef=z73 at *;generalize a'.tmps.getD 74 undef=z74 at *;generalize a'.tmps.getD 75 undef=z75 at *;generalize a'.tmps.getD 76 undef=z76 at *;generalize a'.tmps.getD 77 undef=z77 at *;generalize a'.tmps.getD 78 undef=z78 at *;generalize a'.tmps.getD 79 undef=z79 at *;generalize a'.tmps.getD 80 undef=z80 at *;generalize a'.tmps.getD 81 undef=z81 at *;generalize a'.tmps.getD 83 undef=z83 at *;subst hact;obtain⟨g5,off5,c5,e5,hO5⟩:=hd5;subst e5;have e9:z81 = .slice (some ⟨gu,ou,none⟩) m mc:=hd9;subst e9;clear hd9;have e11:z83 = .pointer (some ⟨ob2,1,none⟩):=hd11;subst e11;clear hd11;simp only[Act.put,List.setIfInBounds_toArray,List.set_cons_succ,List.set_cons_zero];have HO5:=ħ hO5;have S4:=ħ (S9.o.step hb4.o);have A4:=ħ (A9.o.trans (hb4.o.mono A9.o.size));have K4:=ħ hb4.o.size;have HUW:=ħ ((HUF.o w4 hb4.o).first Zbh m)
     have e6:mn-m+m=mn:=by have:=HUU.o;omega
     clear hO5 hb4;refine (Zab rfl ?_);refine Zsk Zoe 23 44 (.agg #[.slice none 0 0,.slice none 0 0,.int .i64 0]) 3 56 Tryz.underlying23 Zi9 rfl (by omega) (by omega) Zbh Zgo w4 w9.heap.size rfl (.tmp 77) (.tmp 81) rfl ⟨g5,off5,none⟩ c5 (mn-m) (hs.drop m) ?r1A HO5.o K4.o (some ⟨gu,ou,none⟩) m mc (hs.take m) ?r2A (by rw[List.length_take,← HUL.o];have:=HUU.o;omega) HUW.o (by rw[e6];omega) ?_
     case r1A=>rfl
     case r2A=>rfl
     intro g6 off6 c6 wq o6 b6;rw[e6] at o6 ⊢;have O6:Hid (OwnK wq w9.heap.size 3 mn c6 ((Zdo m hs).flatMap Zoe) (some ⟨g6,off6,none⟩)):=ħ o6;have S6:=ħ (S4.o.below b6 Z9.o);have A6:=ħ (A4.o.trans (b6.mono A9.o.size));have HG6:Hid (w9.heap.size≤g6):=ħ (O6.o.blk_lt rfl).1;clear o6 b6 S4 A4 HO5 K4 HUW e6;have c8:=S6.o.cell 1 _ rfl;have f8:=S6.o.warm 1;have SZ:Hid (Zaf (wq.setCell ⟨ob2,1,none⟩ (.slice (some ⟨g6,off6,none⟩) mn c6)) ob2 26 [.slice qo qn qc,.slice (some ⟨g6,off6,none⟩) mn c6,.slice uo un uc]):=ħ (S6.o.set 1 _)
     have OZ:=ħ (O6.o.setCell (p:=⟨ob2,1,none⟩) (.slice (some ⟨g6,off6,none⟩) mn c6) (fun e=>by
      have e:g6=ob2:=Option.some.inj e;have:=HG6.o;have:=Z9.o
      omega))
     have AZ:=ħ (A6.o.setCell (p:=⟨ob2,1,none⟩) (Nat.le_of_eq HOB.o) (.slice (some ⟨g6,off6,none⟩) mn c6));clear S6 O6 A6
     go_wp2_with fail
     refine Zaa (Zas (Zab rfl ?_))
     go_wp2_with fail
     refine Zaa (Zbo ?_);clear c8 f8;generalize wq.setCell ⟨ob2,1,none⟩ (.slice (some ⟨g6,off6,none⟩) mn c6)=wz at *
     go_wp2_with fail
     go_meet
     case rel=>exact⟨g6,off6,c6,SZ,OZ,AZ⟩
    case hB =>
     intro listed a' w4 H hsn hall;have hd5:Zzj (w.heap.size) ob2 w9.heap.size gu ou mn mc m hs 5 w4 (a'.tmps.getD 77 undef):=H.done 5 _ 77 rfl (hall 5 (by decide)) rfl;have hd9:Zzj (w.heap.size) ob2 w9.heap.size gu ou mn mc m hs 9 w4 (a'.tmps.getD 81 undef):=H.done 9 _ 81 rfl (hall 9 (by decide)) rfl;have hb4:=ħ H.below;have hact:=H.actX hsn [72,73,74,75,76,77,78,79,80,81,83] (Zlj (by kernel_rfl));clear H hall hsn;simp only[List.foldl_cons,List.foldl_nil] at hact;generalize a'.tmps.getD 72 undef=z72 at *;generalize a'.tmps.getD 73 undef=z73 at *;generalize a'.tmps.getD 74 undef=z74 at *;generalize a'.tmps.getD 75 undef=z75 at *;generalize a'.tmps.getD 76 undef=z76 at *;generalize a'.tmps.getD 77 undef=z77 at *;generalize a'.tmps.getD 78 undef=z78 at *;generalize a'.tmps.getD 79 undef=z79 at *;generalize a'.tmps.getD 80 undef=z80 at *;generalize a'.tmps.getD 81 undef=z81 at *;generalize a'.tmps.getD 83 undef=z83 at *;subst hact;obtain⟨g5,off5,c5,e5,hO5⟩:=hd5;subst e5;have e9:z81 = .slice (some ⟨gu,ou,none⟩) m mc:=hd9;subst e9;clear hd9;simp only[Act.put,List.setIfInBounds_toArray,List.set_cons_succ,List.set_cons_zero];have HO5:=ħ hO5;have S4:=ħ (S9.o.step hb4.o);have A4:=ħ (A9.o.trans (hb4.o.mono A9.o.size));have K4:=ħ hb4.o.size;have HUW:=ħ ((HUF.o w4 hb4.o).first Zbh m)
     have e6:mn-m+m=mn:=by have:=HUU.o;omega
     clear hO5 hb4;refine Zas (Zab rfl ?_);refine Zsk Zoe 23 44 (.agg #[.slice none 0 0,.slice none 0 0,.int .i64 0]) 3 56 Tryz.underlying23 Zi9 rfl (by omega) (by omega) Zbh Zgo w4 w9.heap.size rfl (.tmp 77) (.tmp 81) rfl ⟨g5,off5,none⟩ c5 (mn-m) (hs.drop m) ?r1B HO5.o K4.o (some ⟨gu,ou,none⟩) m mc (hs.take m) ?r2B (by rw[List.length_take,← HUL.o];have:=HUU.o;omega) HUW.o (by rw[e6];omega) ?_
     case r1B=>rfl
     case r2B=>rfl
     intro g6 off6 c6 wq o6 b6;rw[e6] at o6 ⊢;have O6:Hid (OwnK wq w9.heap.size 3 mn c6 ((Zdo m hs).flatMap Zoe) (some ⟨g6,off6,none⟩)):=ħ o6;have S6:=ħ (S4.o.below b6 Z9.o);have A6:=ħ (A4.o.trans (b6.mono A9.o.size));have HG6:Hid (w9.heap.size≤g6):=ħ (O6.o.blk_lt rfl).1;clear o6 b6 S4 A4 HO5 K4 HUW e6;have c8:=S6.o.cell 1 _ rfl;have f8:=S6.o.warm 1;have SZ:Hid (Zaf (wq.setCell ⟨ob2,1,none⟩ (.slice (some ⟨g6,off6,none⟩) mn c6)) ob2 26 [.slice qo qn qc,.slice (some ⟨g6,off6,none⟩) mn c6,.slice uo un uc]):=ħ (S6.o.set 1 _)
     have OZ:=ħ (O6.o.setCell (p:=⟨ob2,1,none⟩) (.slice (some ⟨g6,off6,none⟩) mn c6) (fun e=>by
      have e:g6=ob2:=Option.some.inj e;have:=HG6.o;have:=Z9.o
      omega))
     have AZ:=ħ (A6.o.setCell (p:=⟨ob2,1,none⟩) (Nat.le_of_eq HOB.o) (.slice (some ⟨g6,off6,none⟩) mn c6));clear S6 O6 A6
     go_wp2_with fail
     refine Zaa (Zas (Zab rfl ?_))
     go_wp2_with fail
     refine Zaa (Zas (Zab rfl ?_))
     go_wp2_with fail
     refine Zaa (Zbo ?_);clear c8 f8;generalize wq.setCell ⟨ob2,1,none⟩ (.slice (some ⟨g6,off6,none⟩) mn c6)=wz at *
     go_wp2_with fail
     go_meet
     case rel=>exact⟨g6,off6,c6,SZ,OZ,AZ⟩
   case rest =>
    obtain⟨g7,off7,c7,SM,OM,AM⟩:=hcut;generalize wc=wy at *;have BY:=ħ (BZ.o.trans (AM.o.mono BZ.o.size));have XY:=ħ (XZ.o.step AM.o);have SU:=ħ (S5.o.step AM.o);have HA1:=ħ (fun W (hW:Below wy.heap.size wy W)=>Zv8 (HAG.o W (BY.o.trans (hW.mono BY.o.size))) (H5.o.below (AM.o.trans (hW.mono AM.o.size))) (by rw[Zcs];exact HUN.o) HC6.o (by rw[Zcs,← HUN.o];exact h999));have HMO:=ħ (HAG.o wy BY.o).ok.m;have HMR:=ħ (Zwh (OM.o.flatR Zbh (by rw[Zcs];exact HUL.o)) ((HHY.o.mem AM.o).rot m));have HA2:=ħ (fun W (hW:Below wy.heap.size wy W)=>Zws (HAG.o W (BY.o.trans (hW.mono BY.o.size))) (HMR.o.below hW) (n:=mn) (xc:=c7) (by rw[Zcs];exact HME.o.symm) (fun x hx=>HMO.o x ((Zdp m c.ms).mem_iff.1 hx)) (by rw[Zcs,HME.o];omega));clear S9 A9 Z9 X9 L9 HCB HUF HUU HUC HUO OM HOB S5 H5 HHY AM HMR XZ BZ AZ;rw[HUS.o.symm] at HA1;obtain⟨L,hL⟩:∃ x,Zbb c=x:=⟨_,rfl⟩;obtain⟨M2,hM2⟩:∃ x,Zbb (Zjq c (Zdo m c.ms))=x:=⟨_,rfl⟩
    have hr65:∀ r∈L,r.length≤65:=fun r hr=>by
     rw[← hL] at hr;exact Nat.le_trans (Zzl HVV.o r hr) (by rw[HME.o];exact h65)
    have HS0:=ħ (fun W (hW:Below wy.heap.size wy W)=>HST.o W _ _ (HAG.o W (BY.o.trans (hW.mono BY.o.size))));have HS1:=ħ (fun W (hW:Below wy.heap.size wy W)=>HST.o W _ _ (HA1.o W hW));have HS2:=ħ (fun W (hW:Below wy.heap.size wy W)=>HST.o W _ _ (HA2.o W hW));have HC0:=ħ (fun W (hW:Below wy.heap.size wy W)=>HCT.o W _ _ (HAG.o W (BY.o.trans (hW.mono BY.o.size))));have HC1:=ħ (fun W (hW:Below wy.heap.size wy W)=>HCT.o W _ _ (HA1.o W hW));have HC2:=ħ (fun W (hW:Below wy.heap.size wy W)=>HCT.o W _ _ (HA2.o W hW));rw[HP0.o.cnt] at HC1;rw[HP0.o.rot,hL,Zcs] at HS1;rw[hL] at HS0;rw[hM2] at HS2;have HPL:=ħ HP0.o.ls;have HP2:=ħ HP0.o.l2;rw[hL] at HPL;rw[hM2] at HP2;rw[HPL.o] at HS0 HS1;rw[HP2.o] at HS2;obtain⟨op,hop⟩:∃ b,c.us.any (fun x=>x.h != -1)=b:=⟨_,rfl⟩;rw[hop] at HP0;have HCN:=ħ HP0.o.cn2;have HRW:=ħ HP0.o.row;rw[hL,hM2] at HRW;obtain⟨n,hn⟩:∃ x,(Zbw c).1=x:=⟨_,rfl⟩;obtain⟨e9,he9⟩:∃ x,(Zbw c).2=x:=⟨_,rfl⟩;obtain⟨n2,hn2⟩:∃ x,(Zbw (Zjq c (Zdo m c.ms))).1=x:=⟨_,rfl⟩;obtain⟨e2,he2⟩:∃ x,(Zbw (Zjq c (Zdo m c.ms))).2=x:=⟨_,rfl⟩;have HCE:Hid (op=false→n2=n∧e2=e9):=ħ (fun h=>by rw[← hn2,← he2,HCN.o h,hn,he9];exact⟨rfl,rfl⟩);rw[hn,he9] at HC0 HC1;rw[hn2,he2] at HC2;have HOP:=ħ hop;have H65:=ħ hr65;clear hL hM2 hn he9 hn2 he2 hop hr65 HCN HP0 HST HCT HA1 HA2 HMO;have HXG:=ħ (fun i (hi:i<un)=>(⟨_,List.getElem?_eq_getElem (by rw[HUE.o];exact hi)⟩:∃ x,c.us[i]?=some x));have HTE:Hid (c.us.take un=c.us):=ħ (by rw[← HUE.o];exact List.take_length);have HXY:=ħ (fun W (hW:Below wy.heap.size wy W)=>XY.o.step hW)
    go_upto_region 12 with (fail)
    go_loopw [12,13] (fun bv iv wr=>∃ (ix:Nat),bv = .bool ((c.us.take ix).any (fun x=>x.h != -1))∧iv = .int .i64 ix∧ix≤un∧wr=wy) (fun _ i _=>(un-intOf i).toNat)
    case atStart=>exact⟨0,rfl,rfl,by omega,rfl⟩
    case round =>
     obtain⟨ix,rfl,rfl,hi,rfl⟩:=hrel;have e3:IntKind.i64.wrap ((ix:Int)+1)=((ix+1:Nat):Int):=IntWalk.i64_in _ (by omega);have c2:=XY.o.cell 2 _ rfl;by_cases hin:ix<un
     ·have ii:(ix:Int)<un:=by omega
      obtain⟨x,hx⟩:=HXG.o ix hin;obtain⟨gv,ov,hvo,hgv,hcv⟩:=(HCW.o wr BY.o).1.at Zaw ix x hx;have u3:=hcv 3 _ rfl;have hat:=Zmb hx;obtain⟨bv,hbv⟩:∃ b,(c.us.take ix).any (fun x=>x.h != -1)=b:=⟨_,rfl⟩;rw[hbv] at hat ⊢;have HAT:=ħ hat;have HVO:=ħ hvo;rw[hvo] at c2;clear hvo hgv hcv hx hat hbv
      cases bv with
      | true =>
       go_wp2_with fail
       go_roundw
       case rel=>exact⟨ix+1,by rw[HAT.o];rfl,by go_num,by omega,(by trivial)⟩
       case measure=>simp only[intOf];omega
      | false =>
       go_wp2_with fail
       go_roundw
       case rel=>exact⟨ix+1,by rw[HAT.o];rfl,by go_num,by omega,(by trivial)⟩
       case measure=>simp only[intOf];omega
     ·have ii:¬ (ix:Int)<un:=by omega
      obtain rfl:un=ix:=by omega
      rw[HTE.o,HOP.o]
      go_upto_region 15 with (fail)
      clear c2 ii;have L0:=ħ (Below.refl wr.heap.size wr)
      go_wp2_with (refine wpList_load_row rfl 26 (.tmp 3) rfl (w.heap.size) ?l15 26 #[.slice qo qn qc,.slice mo mn mc,.slice uo un uc] (0,0) _ XY.o Tryz.underlying26 rfl (Zbr _ _ _) ?_;(case l15=>rfl))
      refine (HS0.o wr L0.o).mono ?_;rintro e wa ⟨ba,lo,lc,rfl,hra,hlc⟩;have HLC:=ħ hlc;have LA:=ħ ba;have HRA:=ħ (fun W (hW:Below wa.heap.size wa W)=>hra.below hW);have SU1:=ħ (SU.o.step ba);have SM1:=ħ (SM.o.step ba);clear ba hra hlc L0 HS0 SU SM
      go_upto_region 16 with (fail)
      go_wp2_with (refine wpList_load_row rfl 26 (.tmp 10) rfl (ob) ?l16 26 #[.slice qo qn qc,.slice mo mn mc,.slice (some ⟨g6,off6,none⟩) un c6] (0,0) _ SU1.o Tryz.underlying26 rfl (Zbr _ _ _) ?_;(case l16=>rfl))
      refine (HS1.o wa LA.o).mono ?_;rintro e wb ⟨bb,ao,ac,rfl,hrb,-⟩;have LB:=ħ (LA.o.trans (bb.mono LA.o.size));have HRB:=ħ (fun W (hW:Below wb.heap.size wb W)=>hrb.below hW);have HRA1:=ħ (fun W (hW:Below wb.heap.size wb W)=>HRA.o W (bb.trans (hW.mono bb.size)));have SU2:=ħ (SU1.o.step bb);have SM2:=ħ (SM1.o.step bb);clear bb hrb HS1 SU1 SM1 HRA LA
      go_upto_region 17 with (fail)
      go_wp2_with (refine wpList_load_row rfl 26 (.tmp 11) rfl (ob2) ?l17 26 #[.slice qo qn qc,.slice (some ⟨g7,off7,none⟩) mn c7,.slice uo un uc] (0,0) _ SM2.o Tryz.underlying26 rfl (Zbr _ _ _) ?_;(case l17=>rfl))
      refine (HS2.o wb LB.o).mono ?_;rintro e wd ⟨bd,bo,bc,rfl,hrd,-⟩;have LD:=ħ (LB.o.trans (bd.mono LB.o.size));have HRD:=ħ (fun W (hW:Below wd.heap.size wd W)=>hrd.below hW);have HRB2:=ħ (fun W (hW:Below wd.heap.size wd W)=>HRB.o W (bd.trans (hW.mono bd.size)));have HRA2:=ħ (fun W (hW:Below wd.heap.size wd W)=>HRA1.o W (bd.trans (hW.mono bd.size)));have SU3:=ħ (SU2.o.step bd);have SM3:=ħ (SM2.o.step bd);clear bd hrd HS2 SU2 SM2 HRA1 HRB LB
      go_upto_region 18 with (fail)
      have X3:=ħ (HXY.o wd LD.o)
      go_wp2_with (refine wpList_load_row rfl 26 (.tmp 3) rfl (w.heap.size) ?l18 26 #[.slice qo qn qc,.slice mo mn mc,.slice uo un uc] (0,0) _ X3.o Tryz.underlying26 rfl (Zbr _ _ _) ?_;(case l18=>rfl))
      refine (HC0.o wd LD.o).mono ?_;rintro e we ⟨rfl,be⟩;have LE:=ħ (LD.o.trans (be.mono LD.o.size));have SU4:=ħ (SU3.o.step be);have SM4:=ħ (SM3.o.step be);have HRD1:=ħ (fun W (hW:Below we.heap.size we W)=>HRD.o W (be.trans (hW.mono be.size)));have HRB3:=ħ (fun W (hW:Below we.heap.size we W)=>HRB2.o W (be.trans (hW.mono be.size)));have HRA3:=ħ (fun W (hW:Below we.heap.size we W)=>HRA2.o W (be.trans (hW.mono be.size)));clear be HC0 SU3 SM3 X3 LD HRD HRB2 HRA2
      go_upto_region 19 with (fail)
      go_wp2_with (refine wpList_load_row rfl 26 (.tmp 10) rfl (ob) ?l19 26 #[.slice qo qn qc,.slice mo mn mc,.slice (some ⟨g6,off6,none⟩) un c6] (0,0) _ SU4.o Tryz.underlying26 rfl (Zbr _ _ _) ?_;(case l19=>rfl))
      refine (HC1.o we LE.o).mono ?_;rintro e wf ⟨rfl,bf⟩;have LF:=ħ (LE.o.trans (bf.mono LE.o.size));have SM5:=ħ (SM4.o.step bf);have HRD2:=ħ (fun W (hW:Below wf.heap.size wf W)=>HRD1.o W (bf.trans (hW.mono bf.size)));have HRB4:=ħ (fun W (hW:Below wf.heap.size wf W)=>HRB3.o W (bf.trans (hW.mono bf.size)));have HRA4:=ħ (fun W (hW:Below wf.heap.size wf W)=>HRA3.o W (bf.trans (hW.mono bf.size)));clear bf HC1 SU4 SM4 LE HRD1 HRB3 HRA3
      go_upto_region 20 with (fail)
      go_wp2_with (refine wpList_load_row rfl 26 (.tmp 11) rfl (ob2) ?l20 26 #[.slice qo qn qc,.slice (some ⟨g7,off7,none⟩) mn c7,.slice uo un uc] (0,0) _ SM5.o Tryz.underlying26 rfl (Zbr _ _ _) ?_;(case l20=>rfl))
      refine (HC2.o wf LF.o).mono ?_;rintro e wg ⟨rfl,bg⟩;have LR:=ħ (LF.o.trans (bg.mono LF.o.size));have HRD3:=ħ (fun W (hW:Below wg.heap.size wg W)=>HRD2.o W (bg.trans (hW.mono bg.size)));have HRB5:=ħ (fun W (hW:Below wg.heap.size wg W)=>HRB4.o W (bg.trans (hW.mono bg.size)));have HRA5:=ħ (fun W (hW:Below wg.heap.size wg W)=>HRA4.o W (bg.trans (hW.mono bg.size)));clear bg HC2 SM5 LF HRD2 HRB4 HRA4;obtain⟨r0,hr0⟩:∃ r,L[0]?=some r:=⟨_,List.getElem?_eq_getElem (by rw[HPL.o];omega)⟩;obtain⟨gl,ol,ro0,rc0,hlo,-,-,-⟩:=(HRA5.o wg (Below.refl _ _)).at 0 r0 hr0;obtain⟨hs2,hfl,hhd⟩:=Zwi (HRA5.o wg (Below.refl _ _));have HUF:=ħ (fun W (hW:Below wg.heap.size wg W)=>hfl.below hW);have HHD:=ħ (fun W (hW:Below wg.heap.size wg W)=>hhd.row hW);have HUL2:Hid (un=hs2.length):=ħ (by rw[hhd.1];exact HPL.o.symm);have HUU:Hid (u≤un):=ħ (by omega);have hlcc:=HLC.o;have HUC:Hid (u<lc):=ħ (by omega);have HCB:=ħ (fun W (hW:Below wg.heap.size wg W)=>HXY.o W (LR.o.trans (hW.mono LR.o.size)))
      have HSS:Hid (∀ W,Below wg.heap.size wg W→∀ o cap,Zer W (Zdo u L) o→Calls Tryz.prog 27 #[.slice ao un ac,.slice o un cap] W fun e w'=>e = .returned (.bool true)∧Below W.heap.size W w'):=ħ (fun W hW o cap ho=>by
       have:=Zoc W (Zdo u L) (Zdo u L) ao o ac cap (HRB5.o W hW) ho (by rw[Zcs,HPL.o];omega) (fun r hr=>Nat.le_trans (H65.o r ((Zdp u L).mem_iff.1 hr)) (by omega));rw[Zcs,HPL.o,decide_eq_true rfl] at this
       exact this)
      have HLO:=ħ hlo;rw[hlo] at HUF;subst hlo;clear hr0 hfl hhd hlcc
      go_upto_region 21 with (fail)
      refine Zji 23 [15,19] (Zzk (w.heap.size) wg.heap.size gl ol lc un u uc bc ac n e9 uo bo ao hs2) (by kernel_rfl) (Zwp (w.heap.size) wg.heap.size gl ol lc un u uc bc ac n e9 uo bo ao hs2) (Zlf (by kernel_rfl)) (Zz5 (by kernel_rfl)) (Za9 (by kernel_rfl)) (by decide) (by decide) (Zte (by kernel_rfl)) ?hs ?hk ?he
      case hs =>
       intro i o hik hi listed a' w' H hl2;have hl3:=Zaq hl2;have hin:i<37:=(Array.getElem?_eq_some_iff.1 hi).1;have hb:=ħ H.below;have s3:=H.same 3 (Zaj (by kernel_rfl));have s8:=H.same 8 (Zaj (by kernel_rfl));have s14:=H.same 14 (Zaj (by kernel_rfl));have s15:=H.same 15 (Zaj (by kernel_rfl));have s16:=H.same 16 (Zaj (by kernel_rfl));have s17:=H.same 17 (Zaj (by kernel_rfl));have s18:=H.same 18 (Zaj (by kernel_rfl));have s19:=H.same 19 (Zaj (by kernel_rfl));have s20:=H.same 20 (Zaj (by kernel_rfl));have hdn:=H.done;have hdf:=H.defers;have hts:=H.tsize;clear hl2 H;obtain⟨t',df⟩:=a';obtain⟨f',rfl⟩:=Zoi t' hts;have hdf':df=[]:=hdf;subst hdf';have gs3:f' 3 = .pointer (some ⟨w.heap.size,0,none⟩):=s3;have gs8:f' 8 = .int .i64 (u:Nat):=s8;have gs14:f' 14 = .slice (some ⟨gl,ol,none⟩) un lc:=s14;have gs15:f' 15 = .slice ao un ac:=s15;have gs16:f' 16 = .slice bo un bc:=s16;have gs17:f' 17 = .int .i64 (n:Nat):=s17;have gs18:f' 18 = .int .i64 (e9:Nat):=s18;have gs19:f' 19 = .int .i64 (n:Nat):=s19;have gs20:f' 20 = .int .i64 (e9:Nat):=s20;clear s3 s8 s14 s15 s16 s17 s18 s19 s20;clear hdf hts;have hcases:=Zsm i hin;clear hin;rcases hcases with rfl | rfl | rfl | rfl | rfl | rfl | rfl | rfl | rfl | rfl | rfl | rfl | rfl | rfl | rfl | rfl | rfl | rfl | rfl | rfl | rfl | rfl | rfl | rfl | rfl | rfl | rfl | rfl | rfl | rfl | rfl | rfl | rfl | rfl | rfl | rfl | rfl
       ·obtain rfl:=Option.some.inj hi
        clear hik;clear hdn hl3;rw[gs14];clear gs3 gs8 gs14 gs15 gs16 gs17 gs18 gs19 gs20;refine Zab rfl ?_
        go_wp2_with fail
        exact Zaa ⟨_,rfl,Below.refl _ _,rfl⟩
       ·obtain rfl:=Option.some.inj hi
        clear hik;have dv0:f' 122 = .slice (some ⟨gl,ol,none⟩) un lc:=hdn 0 _ 122 rfl (hl3 0 (by rfl)) rfl (by decide);clear hdn hl3;rw[dv0];clear dv0 gs3 gs8 gs14 gs15 gs16 gs17 gs18 gs19 gs20;refine Zab rfl ?_
        go_wp2_with fail
        exact Zaa ⟨_,rfl,Below.refl _ _,rfl⟩
       ·obtain rfl:=Option.some.inj hi
        clear hik;clear hdn hl3;rw[gs3];clear gs3 gs8 gs14 gs15 gs16 gs17 gs18 gs19 gs20;refine Zab rfl ?_
        go_wp2_with fail
        exact Zaa ⟨_,rfl,Below.refl _ _,rfl⟩
       ·obtain rfl:=Option.some.inj hi
        clear hik;have dv2:f' 124 = .pointer (some ⟨w.heap.size,2,none⟩):=hdn 2 _ 124 rfl (hl3 2 (by rfl)) rfl (by decide);clear hdn hl3;rw[dv2];clear dv2 gs3 gs8 gs14 gs15 gs16 gs17 gs18 gs19 gs20;have c2:=(HCB.o w' hb.o).cell 2 _ rfl;refine Zab rfl ?_
        go_wp2_with fail
        exact Zaa ⟨_,rfl,Below.refl _ _,rfl⟩
       ·obtain rfl:=Option.some.inj hi
        clear hik;have dv3:f' 125 = .slice uo un uc:=hdn 3 _ 125 rfl (hl3 3 (by rfl)) rfl (by decide);clear hdn hl3;rw[dv3];clear dv3 gs3 gs8 gs14 gs15 gs16 gs17 gs18 gs19 gs20;refine Zab rfl ?_
        go_wp2_with fail
        exact Zaa ⟨_,rfl,Below.refl _ _,rfl⟩
       ·obtain rfl:=Option.some.inj hi
        clear hik;have dv1:f' 123 = .int .i64 (un:Nat):=hdn 1 _ 123 rfl (hl3 1 (by rfl)) rfl (by decide);have dv4:f' 126 = .int .i64 (un:Nat):=hdn 4 _ 126 rfl (hl3 4 (by rfl)) rfl (by decide);clear hdn hl3;rw[dv1,dv4];clear dv1 dv4 gs3 gs8 gs14 gs15 gs16 gs17 gs18 gs19 gs20
        have huu:(((un:Nat):Int) != ((un:Nat):Int))=false:=by simp
        refine Zab rfl ?_
        go_wp2_with fail
        exact Zaa ⟨_,rfl,Below.refl _ _,rfl⟩
       ·obtain rfl:=Option.some.inj hi
        clear hik;have dv5:f' 127 = .bool false:=hdn 5 _ 127 rfl (hl3 5 (by rfl)) rfl (by decide);clear hdn hl3;rw[dv5];clear dv5 gs3 gs8 gs14 gs15 gs16 gs17 gs18 gs19 gs20;refine Zab rfl ?_
        go_wp2_with fail
        exact Zaa ⟨_,rfl,Below.refl _ _,rfl⟩
       ·obtain rfl:=Option.some.inj hi
        clear hik;have dv6:f' 128 = .bool false:=hdn 6 _ 128 rfl (hl3 6 (by rfl)) rfl (by decide);clear hdn hl3;rw[gs16,dv6];clear dv6 gs3 gs8 gs14 gs15 gs16 gs17 gs18 gs19 gs20;refine Zab rfl ?_
        go_wp2_with fail
        exact Zaa ⟨_,rfl,Below.refl _ _,rfl⟩
       ·obtain rfl:=Option.some.inj hi
        clear hik;have dv6:f' 128 = .bool false:=hdn 6 _ 128 rfl (hl3 6 (by rfl)) rfl (by decide);have dv7:f' 129 = .slice bo un bc:=hdn 7 _ 129 rfl (hl3 7 (by rfl)) rfl (by decide);clear hdn hl3;rw[dv6,dv7];clear dv6 dv7 gs3 gs8 gs14 gs15 gs16 gs17 gs18 gs19 gs20;refine Zab rfl ?_
        go_wp2_with fail
        exact Zaa ⟨_,rfl,Below.refl _ _,rfl⟩
       ·obtain rfl:=Option.some.inj hi
        clear hik;have dv6:f' 128 = .bool false:=hdn 6 _ 128 rfl (hl3 6 (by rfl)) rfl (by decide);clear hdn hl3;rw[gs14,dv6];clear dv6 gs3 gs8 gs14 gs15 gs16 gs17 gs18 gs19 gs20;refine Zab rfl ?_
        go_wp2_with fail
        exact Zaa ⟨_,rfl,Below.refl _ _,rfl⟩
       ·obtain rfl:=Option.some.inj hi
        clear hik;have dv6:f' 128 = .bool false:=hdn 6 _ 128 rfl (hl3 6 (by rfl)) rfl (by decide);have dv9:f' 131 = .slice (some ⟨gl,ol,none⟩) un lc:=hdn 9 _ 131 rfl (hl3 9 (by rfl)) rfl (by decide);clear hdn hl3;rw[dv6,dv9];clear dv6 dv9 gs3 gs8 gs14 gs15 gs16 gs17 gs18 gs19 gs20;refine Zab rfl ?_
        go_wp2_with fail
        exact Zaa ⟨_,rfl,Below.refl _ _,rfl⟩
       ·obtain rfl:=Option.some.inj hi
        clear hik;have dv6:f' 128 = .bool false:=hdn 6 _ 128 rfl (hl3 6 (by rfl)) rfl (by decide);have dv8:f' 130 = .int .i64 (un:Nat):=hdn 8 _ 130 rfl (hl3 8 (by rfl)) rfl (by decide);have dv10:f' 132 = .int .i64 (un:Nat):=hdn 10 _ 132 rfl (hl3 10 (by rfl)) rfl (by decide);clear hdn hl3;rw[dv6,dv8,dv10];clear dv6 dv8 dv10 gs3 gs8 gs14 gs15 gs16 gs17 gs18 gs19 gs20
        have huu:(((un:Nat):Int) != ((un:Nat):Int))=false:=by simp
        refine Zab rfl ?_
        go_wp2_with fail
        exact Zaa ⟨_,rfl,Below.refl _ _,rfl⟩
       ·obtain rfl:=Option.some.inj hi
        clear hik;have dv6:f' 128 = .bool false:=hdn 6 _ 128 rfl (hl3 6 (by rfl)) rfl (by decide);have dv11:f' 133 = .bool false:=hdn 11 _ 133 rfl (hl3 11 (by rfl)) rfl (by decide);clear hdn hl3;rw[dv6,dv11];clear dv6 dv11 gs3 gs8 gs14 gs15 gs16 gs17 gs18 gs19 gs20;refine Zab rfl ?_
        go_wp2_with fail
        exact Zaa ⟨_,rfl,Below.refl _ _,rfl⟩
       ·obtain rfl:=Option.some.inj hi
        clear hik;have dv12:f' 134 = .bool false:=hdn 12 _ 134 rfl (hl3 12 (by rfl)) rfl (by decide);clear hdn hl3;rw[dv12];clear dv12 gs3 gs8 gs14 gs15 gs16 gs17 gs18 gs19 gs20;refine Zab rfl ?_
        go_wp2_with fail
        exact Zaa ⟨_,rfl,Below.refl _ _,rfl⟩
       ·obtain rfl:=Option.some.inj hi
        clear hik;have dv13:f' 135 = .bool false:=hdn 13 _ 135 rfl (hl3 13 (by rfl)) rfl (by decide);clear hdn hl3;rw[gs15,dv13];clear dv13 gs3 gs8 gs14 gs15 gs16 gs17 gs18 gs19 gs20;refine Zab rfl ?_
        go_wp2_with fail
        exact Zaa ⟨_,rfl,Below.refl _ _,rfl⟩
       ·obtain rfl:=Option.some.inj hi
        clear hik;have dv13:f' 135 = .bool false:=hdn 13 _ 135 rfl (hl3 13 (by rfl)) rfl (by decide);clear hdn hl3;rw[dv13];clear dv13 gs3 gs8 gs14 gs15 gs16 gs17 gs18 gs19 gs20;have bx:=(Below.refl w'.heap.size w').alloc (Nat.le_refl _) (.cells #[] 33);have HV:=ħ ((OwnK.made w' 33 1).lower hb.o.size);have BX:=ħ bx;clear bx;refine Zab rfl ?_
        go_wp2_with fail
        exact Zaa ⟨_,rfl,BX.o,w'.heap.size,rfl,HV.o⟩
       ·obtain rfl:=Option.some.inj hi
        clear hik;have dv13:f' 135 = .bool false:=hdn 13 _ 135 rfl (hl3 13 (by rfl)) rfl (by decide);clear hdn hl3;rw[gs14,dv13];clear dv13 gs3 gs8 gs14 gs15 gs16 gs17 gs18 gs19 gs20;refine Zab rfl ?_
        go_wp2_with fail
        exact Zaa ⟨_,rfl,Below.refl _ _,rfl⟩
       ·obtain rfl:=Option.some.inj hi
        clear hik;have dv13:f' 135 = .bool false:=hdn 13 _ 135 rfl (hl3 13 (by rfl)) rfl (by decide);clear hdn hl3;rw[gs8,dv13];clear dv13 gs3 gs8 gs14 gs15 gs16 gs17 gs18 gs19 gs20;refine Zab rfl ?_
        go_wp2_with fail
        exact Zaa ⟨_,rfl,Below.refl _ _,rfl⟩
       ·obtain rfl:=Option.some.inj hi
        clear hik;have dv13:f' 135 = .bool false:=hdn 13 _ 135 rfl (hl3 13 (by rfl)) rfl (by decide);have dv16:f' 138 = .slice (some ⟨gl,ol,none⟩) un lc:=hdn 16 _ 138 rfl (hl3 16 (by rfl)) rfl (by decide);have dv17:f' 139 = .int .i64 (u:Nat):=hdn 17 _ 139 rfl (hl3 17 (by rfl)) rfl (by decide);clear hdn hl3;rw[dv13,dv16,dv17];clear dv13 dv16 dv17 gs3 gs8 gs14 gs15 gs16 gs17 gs18 gs19 gs20;have hs1:=Zwk gl ol un lc u Tryz.underlying36 Zoh HUU.o HUC.o;simp only[Nat.mul_one] at hs1;refine Zab rfl ?_
        go_wp2_with fail
        exact Zaa ⟨_,rfl,Below.refl _ _,rfl⟩
       ·obtain rfl:=Option.some.inj hi
        clear hik;have dv13:f' 135 = .bool false:=hdn 13 _ 135 rfl (hl3 13 (by rfl)) rfl (by decide);have dv15:Zzk (w.heap.size) wg.heap.size gl ol lc un u uc bc ac n e9 uo bo ao hs2 15 w' (f' 137):=hdn 15 _ 137 rfl (hl3 15 (by rfl)) rfl (by decide);obtain⟨V,dv15,hV⟩:=dv15;have dv18:f' 140 = .slice (some ⟨gl,ol+u,none⟩) (un-u) (lc-u):=hdn 18 _ 140 rfl (hl3 18 (by rfl)) rfl (by decide);clear hdn hl3;rw[dv13,dv15,dv18];clear dv13 dv15 dv18 gs3 gs8 gs14 gs15 gs16 gs17 gs18 gs19 gs20;have HV:=ħ hV;clear hV;have HUW:=ħ ((HUF.o w' hb.o).part Zbh u);rw[Nat.mul_one] at HUW;refine Zab rfl ?_;refine Zin (by rfl) ?_;refine Zv7 Zoe 36 33 (.slice none 0 0) 1 24 Tryz.underlying36 Zgg rfl (by omega) (by omega) Zbh Zgo w' wg.heap.size rfl (.tmp 137) (.tmp 140) rfl ⟨V,0,none⟩ ?q1 HV.o hb.o.size (some ⟨gl,ol+u,none⟩) (un-u) (lc-u) (hs2.drop u) ?q2 (by rw[List.length_drop,← HUL2.o]) HUW.o (by omega) ?_
        case q1=>rfl
        case q2=>rfl
        intro g5 off5 c5 wa o8 b8;have O8:=ħ o8;have B8:=ħ b8;clear o8 b8
        go_wp2_with fail
        exact Zaa ⟨_,rfl,B8.o,g5,off5,c5,rfl,O8.o⟩
       ·obtain rfl:=Option.some.inj hi
        clear hik;have dv13:f' 135 = .bool false:=hdn 13 _ 135 rfl (hl3 13 (by rfl)) rfl (by decide);clear hdn hl3;rw[gs14,dv13];clear dv13 gs3 gs8 gs14 gs15 gs16 gs17 gs18 gs19 gs20;refine Zab rfl ?_
        go_wp2_with fail
        exact Zaa ⟨_,rfl,Below.refl _ _,rfl⟩
       ·obtain rfl:=Option.some.inj hi
        clear hik;have dv13:f' 135 = .bool false:=hdn 13 _ 135 rfl (hl3 13 (by rfl)) rfl (by decide);clear hdn hl3;rw[gs8,dv13];clear dv13 gs3 gs8 gs14 gs15 gs16 gs17 gs18 gs19 gs20;refine Zab rfl ?_
        go_wp2_with fail
        exact Zaa ⟨_,rfl,Below.refl _ _,rfl⟩
       ·obtain rfl:=Option.some.inj hi
        clear hik;have dv13:f' 135 = .bool false:=hdn 13 _ 135 rfl (hl3 13 (by rfl)) rfl (by decide);have dv20:f' 142 = .slice (some ⟨gl,ol,none⟩) un lc:=hdn 20 _ 142 rfl (hl3 20 (by rfl)) rfl (by decide);have dv21:f' 143 = .int .i64 (u:Nat):=hdn 21 _ 143 rfl (hl3 21 (by rfl)) rfl (by decide);clear hdn hl3;rw[dv13,dv20,dv21];clear dv13 dv20 dv21 gs3 gs8 gs14 gs15 gs16 gs17 gs18 gs19 gs20;have hs2:=Zwl gl ol un lc u Tryz.underlying36 Zoh (Nat.le_of_lt HUC.o);refine Zab rfl ?_
        go_wp2_with fail
        exact Zaa ⟨_,rfl,Below.refl _ _,rfl⟩
       ·exact absurd rfl hik
       ·obtain rfl:=Option.some.inj hi
        clear hik;have dv13:f' 135 = .bool false:=hdn 13 _ 135 rfl (hl3 13 (by rfl)) rfl (by decide);have dv14:f' 136 = .slice ao un ac:=hdn 14 _ 136 rfl (hl3 14 (by rfl)) rfl (by decide);have dv23:Zzk (w.heap.size) wg.heap.size gl ol lc un u uc bc ac n e9 uo bo ao hs2 23 w' (f' 145):=hdn 23 _ 145 rfl (hl3 23 (by rfl)) rfl (by decide);obtain⟨g7,off7,c7,dv23,hO7⟩:=dv23;clear hdn hl3;rw[dv13,dv14,dv23];clear dv13 dv14 dv23 gs3 gs8 gs14 gs15 gs16 gs17 gs18 gs19 gs20;have HRW:=ħ (Zwj (hO7.flatR Zbh (by rw[Zcs,← HUL2.o])) ((HHD.o w' hb.o).rot u));clear hO7;refine Zab rfl ?_
        go_wp2_with fail
        refine (HSS.o w' hb.o _ _ HRW.o).mono ?_;rintro e w4 ⟨rfl,b4⟩;have HB4:=ħ b4;clear b4
        go_wp2_with fail
        exact Zaa ⟨_,rfl,HB4.o,rfl⟩
       ·obtain rfl:=Option.some.inj hi
        clear hik;have dv13:f' 135 = .bool false:=hdn 13 _ 135 rfl (hl3 13 (by rfl)) rfl (by decide);have dv24:f' 146 = .bool true:=hdn 24 _ 146 rfl (hl3 24 (by rfl)) rfl (by decide);clear hdn hl3;rw[dv13,dv24];clear dv13 dv24 gs3 gs8 gs14 gs15 gs16 gs17 gs18 gs19 gs20;refine Zab rfl ?_
        go_wp2_with fail
        exact Zaa ⟨_,rfl,Below.refl _ _,rfl⟩
       ·obtain rfl:=Option.some.inj hi
        clear hik;have dv13:f' 135 = .bool false:=hdn 13 _ 135 rfl (hl3 13 (by rfl)) rfl (by decide);have dv25:f' 147 = .bool false:=hdn 25 _ 147 rfl (hl3 25 (by rfl)) rfl (by decide);clear hdn hl3;rw[dv13,dv25];clear dv13 dv25 gs3 gs8 gs14 gs15 gs16 gs17 gs18 gs19 gs20;refine Zab rfl ?_
        go_wp2_with fail
        exact Zaa ⟨_,rfl,Below.refl _ _,rfl⟩
       ·obtain rfl:=Option.some.inj hi
        clear hik;have dv26:f' 148 = .bool false:=hdn 26 _ 148 rfl (hl3 26 (by rfl)) rfl (by decide);clear hdn hl3;rw[dv26];clear dv26 gs3 gs8 gs14 gs15 gs16 gs17 gs18 gs19 gs20;refine Zab rfl ?_
        go_wp2_with fail
        exact Zaa ⟨_,rfl,Below.refl _ _,rfl⟩
       ·obtain rfl:=Option.some.inj hi
        clear hik;have dv27:f' 149 = .bool false:=hdn 27 _ 149 rfl (hl3 27 (by rfl)) rfl (by decide);clear hdn hl3;rw[gs17,dv27];clear dv27 gs3 gs8 gs14 gs15 gs16 gs17 gs18 gs19 gs20;refine Zab rfl ?_
        go_wp2_with fail
        exact Zaa ⟨_,rfl,Below.refl _ _,rfl⟩
       ·obtain rfl:=Option.some.inj hi
        clear hik;have dv27:f' 149 = .bool false:=hdn 27 _ 149 rfl (hl3 27 (by rfl)) rfl (by decide);clear hdn hl3;rw[gs19,dv27];clear dv27 gs3 gs8 gs14 gs15 gs16 gs17 gs18 gs19 gs20;refine Zab rfl ?_
        go_wp2_with fail
        exact Zaa ⟨_,rfl,Below.refl _ _,rfl⟩
       ·obtain rfl:=Option.some.inj hi
        clear hik;have dv27:f' 149 = .bool false:=hdn 27 _ 149 rfl (hl3 27 (by rfl)) rfl (by decide);have dv28:f' 150 = .int .i64 (n:Nat):=hdn 28 _ 150 rfl (hl3 28 (by rfl)) rfl (by decide);have dv29:f' 151 = .int .i64 (n:Nat):=hdn 29 _ 151 rfl (hl3 29 (by rfl)) rfl (by decide);clear hdn hl3;rw[dv27,dv28,dv29];clear dv27 dv28 dv29 gs3 gs8 gs14 gs15 gs16 gs17 gs18 gs19 gs20
        have hnn:(((n:Nat):Int) != ((n:Nat):Int))=false:=by simp
        refine Zab rfl ?_
        go_wp2_with fail
        exact Zaa ⟨_,rfl,Below.refl _ _,rfl⟩
       ·obtain rfl:=Option.some.inj hi
        clear hik;have dv27:f' 149 = .bool false:=hdn 27 _ 149 rfl (hl3 27 (by rfl)) rfl (by decide);have dv30:f' 152 = .bool false:=hdn 30 _ 152 rfl (hl3 30 (by rfl)) rfl (by decide);clear hdn hl3;rw[dv27,dv30];clear dv27 dv30 gs3 gs8 gs14 gs15 gs16 gs17 gs18 gs19 gs20;refine Zab rfl ?_
        go_wp2_with fail
        exact Zaa ⟨_,rfl,Below.refl _ _,rfl⟩
       ·obtain rfl:=Option.some.inj hi
        clear hik;have dv31:f' 153 = .bool false:=hdn 31 _ 153 rfl (hl3 31 (by rfl)) rfl (by decide);clear hdn hl3;rw[dv31];clear dv31 gs3 gs8 gs14 gs15 gs16 gs17 gs18 gs19 gs20;refine Zab rfl ?_
        go_wp2_with fail
        exact Zaa ⟨_,rfl,Below.refl _ _,rfl⟩
       ·obtain rfl:=Option.some.inj hi
        clear hik;have dv32:f' 154 = .bool false:=hdn 32 _ 154 rfl (hl3 32 (by rfl)) rfl (by decide);clear hdn hl3;rw[gs18,dv32];clear dv32 gs3 gs8 gs14 gs15 gs16 gs17 gs18 gs19 gs20;refine Zab rfl ?_
        go_wp2_with fail
        exact Zaa ⟨_,rfl,Below.refl _ _,rfl⟩
       ·obtain rfl:=Option.some.inj hi
        clear hik;have dv32:f' 154 = .bool false:=hdn 32 _ 154 rfl (hl3 32 (by rfl)) rfl (by decide);clear hdn hl3;rw[gs20,dv32];clear dv32 gs3 gs8 gs14 gs15 gs16 gs17 gs18 gs19 gs20;refine Zab rfl ?_
        go_wp2_with fail
        exact Zaa ⟨_,rfl,Below.refl _ _,rfl⟩
       ·obtain rfl:=Option.some.inj hi
        clear hik;have dv32:f' 154 = .bool false:=hdn 32 _ 154 rfl (hl3 32 (by rfl)) rfl (by decide);have dv33:f' 155 = .int .i64 (e9:Nat):=hdn 33 _ 155 rfl (hl3 33 (by rfl)) rfl (by decide);have dv34:f' 156 = .int .i64 (e9:Nat):=hdn 34 _ 156 rfl (hl3 34 (by rfl)) rfl (by decide);clear hdn hl3;rw[dv32,dv33,dv34];clear dv32 dv33 dv34 gs3 gs8 gs14 gs15 gs16 gs17 gs18 gs19 gs20
        have hnn:(((e9:Nat):Int) != ((e9:Nat):Int))=false:=by simp
        refine Zab rfl ?_
        go_wp2_with fail
        exact Zaa ⟨_,rfl,Below.refl _ _,rfl⟩
       ·obtain rfl:=Option.some.inj hi
        clear hik;have dv32:f' 154 = .bool false:=hdn 32 _ 154 rfl (hl3 32 (by rfl)) rfl (by decide);have dv35:f' 157 = .bool false:=hdn 35 _ 157 rfl (hl3 35 (by rfl)) rfl (by decide);clear hdn hl3;rw[dv32,dv35];clear dv32 dv35 gs3 gs8 gs14 gs15 gs16 gs17 gs18 gs19 gs20;refine Zab rfl ?_
        go_wp2_with fail
        exact Zaa ⟨_,rfl,Below.refl _ _,rfl⟩
      case hk =>
       intro o hi listed a' w' H hl2;have hl3:=Zaq hl2;have hb:=ħ H.below;have s3:=H.same 3 (Zaj (by kernel_rfl));have s8:=H.same 8 (Zaj (by kernel_rfl));have s14:=H.same 14 (Zaj (by kernel_rfl));have s15:=H.same 15 (Zaj (by kernel_rfl));have s16:=H.same 16 (Zaj (by kernel_rfl));have s17:=H.same 17 (Zaj (by kernel_rfl));have s18:=H.same 18 (Zaj (by kernel_rfl));have s19:=H.same 19 (Zaj (by kernel_rfl));have s20:=H.same 20 (Zaj (by kernel_rfl));have hdn:=H.done;have hdf:=H.defers;have hts:=H.tsize;clear hl2 H;obtain⟨t',df⟩:=a';obtain⟨f',rfl⟩:=Zoi t' hts;have hdf':df=[]:=hdf;subst hdf';have gs3:f' 3 = .pointer (some ⟨w.heap.size,0,none⟩):=s3;have gs8:f' 8 = .int .i64 (u:Nat):=s8;have gs14:f' 14 = .slice (some ⟨gl,ol,none⟩) un lc:=s14;have gs15:f' 15 = .slice ao un ac:=s15;have gs16:f' 16 = .slice bo un bc:=s16;have gs17:f' 17 = .int .i64 (n:Nat):=s17;have gs18:f' 18 = .int .i64 (e9:Nat):=s18;have gs19:f' 19 = .int .i64 (n:Nat):=s19;have gs20:f' 20 = .int .i64 (e9:Nat):=s20;clear s3 s8 s14 s15 s16 s17 s18 s19 s20;clear hdf hts;obtain rfl:=Option.some.inj hi;have dv13:f' 135 = .bool false:=hdn 13 _ 135 rfl (hl3 13 (by rfl)) rfl;have dv19:Zzk (w.heap.size) wg.heap.size gl ol lc un u uc bc ac n e9 uo bo ao hs2 19 w' (f' 141):=hdn 19 _ 141 rfl (hl3 19 (by rfl)) rfl;obtain⟨g5,off5,c5,dv19,hO5⟩:=dv19;have dv22:f' 144 = .slice (some ⟨gl,ol,none⟩) u lc:=hdn 22 _ 144 rfl (hl3 22 (by rfl)) rfl;clear hdn hl3;rw[dv13,dv19,dv22];clear dv13 dv19 dv22 gs3 gs8 gs14 gs15 gs16 gs17 gs18 gs19 gs20;have HO5:=ħ hO5;have HUW:=ħ ((HUF.o w' hb.o).first Zbh u)
       have e6:un-u+u=un:=by have:=HUU.o;omega
       clear hO5;refine Zab rfl ?_;refine Zin (by rfl) ?_;refine Zsk Zoe 36 33 (.slice none 0 0) 1 24 Tryz.underlying36 Zgg rfl (by omega) (by omega) Zbh Zgo w' wg.heap.size rfl (.tmp 141) (.tmp 144) rfl ⟨g5,off5,none⟩ c5 (un-u) (hs2.drop u) ?q3 HO5.o hb.o.size (some ⟨gl,ol,none⟩) u lc (hs2.take u) ?q4 (by rw[List.length_take,← HUL2.o];have:=HUU.o;omega) HUW.o (by rw[e6];omega) ?_
       case q3=>rfl
       case q4=>rfl
       intro g6 off6 c6 wa o8 b8;rw[e6] at o8 ⊢;have O8:=ħ o8;have B8:=ħ (hb.o.trans b8);clear o8 b8
       go_wp2_with fail
       exact Zaa ⟨_,rfl,B8.o,(fun j v h1 h2 h3=>Zwq (w.heap.size) wg.heap.size gl ol lc un u uc bc ac n e9 uo bo ao hs2 w' wa j v (by simp[h1,h2]) h3),g6,off6,c6,rfl,O8.o⟩
      case he =>
       intro listed a' w4 H hall;have hd36:Zzk (w.heap.size) wg.heap.size gl ol lc un u uc bc ac n e9 uo bo ao hs2 36 w4 (a'.tmps.getD 158 undef):=H.done 36 _ 158 rfl (hall 36 (by decide)) rfl (by decide);have hb4:=ħ H.below;have hact:=H.act [122,123,124,125,126,127,128,129,130,131,132,133,134,135,136,137,138,139,140,141,142,143,144,145,146,147,148,149,150,151,152,153,154,155,156,157,158] (Zdu (by kernel_rfl));clear H hall;simp only[List.foldl_cons,List.foldl_nil] at hact;generalize a'.tmps.getD 122 undef=z122 at *;generalize a'.tmps.getD 123 undef=z123 at *;generalize a'.tmps.getD 124 undef=z124 at *;generalize a'.tmps.getD 125 undef=z125 at *;generalize a'.tmps.getD 126 undef=z126 at *;generalize a'.tmps.getD 127 undef=z127 at *;generalize a'.tmps.getD 128 undef=z128 at *;generalize a'.tmps.getD 129 undef=z129 at *;generalize a'.tmps.getD 130 undef=z130 at *;generalize a'.tmps.getD 131 undef=z131 at *;generalize a'.tmps.getD 132 undef=z132 at *;generalize a'.tmps.getD 133 undef=z133 at *;generalize a'.tmps.getD 134 undef=z134 at *;generalize a'.tmps.getD 135 undef=z135 at *;generalize a'.tmps.getD 136 undef=z136 at *;generalize a'.tmps.getD 137 undef=z137 at *;generalize a'.tmps.getD 138 undef=z138 at *;generalize a'.tmps.getD 139 undef=z139 at *;generalize a'.tmps.getD 140 undef=z140 at *;generalize a'.tmps.getD 141 undef=z141 at *;generalize a'.tmps.getD 142 undef=z142 at *;generalize a'.tmps.getD 143 undef=z143 at *;generalize a'.tmps.getD 144 undef=z144 at *;generalize a'.tmps.getD 145 undef=z145 at *;generalize a'.tmps.getD 146 undef=z146 at *;generalize a'.tmps.getD 147 undef=z147 at *;generalize a'.tmps.getD 148 undef=z148 at *;generalize a'.tmps.getD 149 undef=z149 at *;generalize a'.tmps.getD 150 undef=z150 at *;generalize a'.tmps.getD 151 undef=z151 at *;generalize a'.tmps.getD 152 undef=z152 at *;generalize a'.tmps.getD 153 undef=z153 at *;generalize a'.tmps.getD 154 undef=z154 at *;generalize a'.tmps.getD 155 undef=z155 at *;generalize a'.tmps.getD 156 undef=z156 at *;generalize a'.tmps.getD 157 undef=z157 at *;generalize a'.tmps.getD 158 undef=z158 at *;subst hact;have e36:z158 = .bool false:=hd36;subst e36;clear hd36;simp only[Act.put,List.setIfInBounds_toArray,List.set_cons_succ,List.set_cons_zero];have LQ:=ħ (LR.o.trans (hb4.o.mono LR.o.size));have BQ:=ħ (BY.o.trans (LQ.o.mono BY.o.size));have HRA6:=ħ (fun W (hW:Below w4.heap.size w4 W)=>HRA5.o W (hb4.o.trans (hW.mono hb4.o.size)));have HRD4:=ħ (fun W (hW:Below w4.heap.size w4 W)=>HRD3.o W (hb4.o.trans (hW.mono hb4.o.size)));clear hb4 LR HRA5 HRD3 HRB5 HSS HUF HHD HCB;generalize w4=wl at *
       cases op with
       | true =>
        go_wp2_with fail
        go_ret;exact⟨rfl,BQ.o⟩
       | false =>
        obtain⟨rfl,rfl⟩:=HCE.o (by trivial);have HRX:=ħ (HRW.o (by trivial));clear HRW
        go_upto_region 26 with (fail)
        go_loopw [23] (fun iv wr=>∃ (ix:Nat),iv = .int .i64 ix∧ix≤un∧Hid (Below wl.heap.size wl wr)) (fun i _=>(un-intOf i).toNat)
        case atStart=>exact⟨0,rfl,by omega,ħ (Below.refl _ _)⟩
        case round =>
         obtain⟨ix,rfl,hi,LR⟩:=hrel;have e3:IntKind.i64.wrap ((ix:Int)+1)=((ix+1:Nat):Int):=IntWalk.i64_in _ (by omega);by_cases hin:ix<un
         ·have ii:(ix:Int)<un:=by omega
          obtain⟨ra,hra⟩:∃ r,L[ix]?=some r:=⟨_,List.getElem?_eq_getElem (by rw[HPL.o];exact hin)⟩;obtain⟨rb,hrb⟩:∃ r,M2[ix]?=some r:=⟨_,List.getElem?_eq_getElem (by rw[HP2.o];exact hin)⟩;obtain⟨ga,oa,ro,rc,hao,hga,hca,-⟩:=(HRA6.o wr LR.o).at ix ra hra;obtain⟨gb,ob3,so,sc,hbo,hgb,hcb,-⟩:=(HRD4.o wr LR.o).at ix rb hrb
          obtain⟨rfl,rfl⟩:gl=ga∧ol=oa:=by simpa using hao
          have hre:=HRX.o ix ra rb hra hrb;rw[← hre] at hcb;have HCL:=ħ (fun W (hW:Below wr.heap.size wr W)=>(hW.cell (p:=⟨gl,ol+ix,none⟩) hga).trans hca);have HCM:=ħ (fun W (hW:Below wr.heap.size wr W)=>(hW.cell (p:=⟨gb,ob3+ix,none⟩) hgb).trans hcb);have HII:=ħ ii;have HBO:=ħ hbo;subst hbo;clear hra hrb hao hga hca hgb hcb hre;generalize ra.length=rn at *
          go_upto_region 28 with (fail)
          refine Zbe (Z2m gl ol lc gb ob3 bc un ix rn rc sc ro so) (by kernel_rfl) (Zwr gl ol lc gb ob3 bc un ix rn rc sc ro so) (Zc1 (by kernel_rfl)) (Zii (by kernel_rfl)) (Za9 (by kernel_rfl)) ?hs ?he
          case hs =>
           intro i o hi listed a' w' H hl2;have hl3:=Zaq hl2;have hin:i<11:=(Array.getElem?_eq_some_iff.1 hi).1;have hb:=ħ H.below;have s14:=H.same 14 (Zaj (by kernel_rfl));have s16:=H.same 16 (Zaj (by kernel_rfl));have s23:=H.same 23 (Zaj (by kernel_rfl));have hdn:=H.done;have hdf:=H.defers;have hts:=H.tsize;clear hl2 H;obtain⟨t',df⟩:=a';obtain⟨f',rfl⟩:=Zoi t' hts;have hdf':df=[]:=hdf;subst hdf';have gs14:f' 14 = .slice (some ⟨gl,ol,none⟩) un lc:=s14;have gs16:f' 16 = .slice (some ⟨gb,ob3,none⟩) un bc:=s16;have gs23:f' 23 = .int .i64 (ix:Nat):=s23;clear s14 s16 s23;clear hdf hts;have hcases:=Zg3 i hin;clear hin;rcases hcases with rfl | rfl | rfl | rfl | rfl | rfl | rfl | rfl | rfl | rfl | rfl
           ·obtain rfl:=Option.some.inj hi
            clear hdn hl3;rw[gs14];clear gs14 gs16 gs23;refine Zab rfl ?_
            go_wp2_with fail
            exact Zaa ⟨_,rfl,Below.refl _ _,rfl⟩
           ·obtain rfl:=Option.some.inj hi
            clear hdn hl3;rw[gs23];clear gs14 gs16 gs23;refine Zab rfl ?_
            go_wp2_with fail
            exact Zaa ⟨_,rfl,Below.refl _ _,rfl⟩
           ·obtain rfl:=Option.some.inj hi
            have dv0:f' 167 = .slice (some ⟨gl,ol,none⟩) un lc:=hdn 0 _ 167 rfl (hl3 0 (by rfl)) rfl;have dv1:f' 168 = .int .i64 (ix:Nat):=hdn 1 _ 168 rfl (hl3 1 (by rfl)) rfl;clear hdn hl3;rw[dv0,dv1];clear dv0 dv1 gs14 gs16 gs23;have ii:=HII.o;refine Zab rfl ?_
            go_wp2_with fail
            exact Zaa ⟨_,rfl,Below.refl _ _,rfl⟩
           ·obtain rfl:=Option.some.inj hi
            have dv2:f' 169 = .pointer (some ⟨gl,ol+ix,none⟩):=hdn 2 _ 169 rfl (hl3 2 (by rfl)) rfl;clear hdn hl3;rw[dv2];clear dv2 gs14 gs16 gs23;have rr:=HCL.o w' hb.o;refine Zab rfl ?_
            go_wp2_with fail
            exact Zaa ⟨_,rfl,Below.refl _ _,rfl⟩
           ·obtain rfl:=Option.some.inj hi
            have dv3:f' 170 = .slice ro rn rc:=hdn 3 _ 170 rfl (hl3 3 (by rfl)) rfl;clear hdn hl3;rw[dv3];clear dv3 gs14 gs16 gs23;refine Zab rfl ?_
            go_wp2_with fail
            exact Zaa ⟨_,rfl,Below.refl _ _,rfl⟩
           ·obtain rfl:=Option.some.inj hi
            clear hdn hl3;rw[gs16];clear gs14 gs16 gs23;refine Zab rfl ?_
            go_wp2_with fail
            exact Zaa ⟨_,rfl,Below.refl _ _,rfl⟩
           ·obtain rfl:=Option.some.inj hi
            clear hdn hl3;rw[gs23];clear gs14 gs16 gs23;refine Zab rfl ?_
            go_wp2_with fail
            exact Zaa ⟨_,rfl,Below.refl _ _,rfl⟩
           ·obtain rfl:=Option.some.inj hi
            have dv5:f' 172 = .slice (some ⟨gb,ob3,none⟩) un bc:=hdn 5 _ 172 rfl (hl3 5 (by rfl)) rfl;have dv6:f' 173 = .int .i64 (ix:Nat):=hdn 6 _ 173 rfl (hl3 6 (by rfl)) rfl;clear hdn hl3;rw[dv5,dv6];clear dv5 dv6 gs14 gs16 gs23;have ii:=HII.o;refine Zab rfl ?_
            go_wp2_with fail
            exact Zaa ⟨_,rfl,Below.refl _ _,rfl⟩
           ·obtain rfl:=Option.some.inj hi
            have dv7:f' 174 = .pointer (some ⟨gb,ob3+ix,none⟩):=hdn 7 _ 174 rfl (hl3 7 (by rfl)) rfl;clear hdn hl3;rw[dv7];clear dv7 gs14 gs16 gs23;have rr:=HCM.o w' hb.o;refine Zab rfl ?_
            go_wp2_with fail
            exact Zaa ⟨_,rfl,Below.refl _ _,rfl⟩
           ·obtain rfl:=Option.some.inj hi
            have dv8:f' 175 = .slice so rn sc:=hdn 8 _ 175 rfl (hl3 8 (by rfl)) rfl;clear hdn hl3;rw[dv8];clear dv8 gs14 gs16 gs23;refine Zab rfl ?_
            go_wp2_with fail
            exact Zaa ⟨_,rfl,Below.refl _ _,rfl⟩
           ·obtain rfl:=Option.some.inj hi
            have dv4:f' 171 = .int .i64 (rn:Nat):=hdn 4 _ 171 rfl (hl3 4 (by rfl)) rfl;have dv9:f' 176 = .int .i64 (rn:Nat):=hdn 9 _ 176 rfl (hl3 9 (by rfl)) rfl;clear hdn hl3;rw[dv4,dv9];clear dv4 dv9 gs14 gs16 gs23
            have hnn:(((rn:Nat):Int) != ((rn:Nat):Int))=false:=by simp
            refine Zab rfl ?_
            go_wp2_with fail
            exact Zaa ⟨_,rfl,Below.refl _ _,rfl⟩
          case he =>
           intro listed a' w4 H hall;have hd10:Z2m gl ol lc gb ob3 bc un ix rn rc sc ro so 10 w4 (a'.tmps.getD 177 undef):=H.done 10 _ 177 rfl (hall 10 (by decide)) rfl;have hb4:=ħ H.below;have hact:=H.act [167,168,169,170,171,172,173,174,175,176,177] (Zdu (by kernel_rfl));clear H hall;simp only[List.foldl_cons,List.foldl_nil] at hact;generalize a'.tmps.getD 167 undef=z167 at *;generalize a'.tmps.getD 168 undef=z168 at *;generalize a'.tmps.getD 169 undef=z169 at *;generalize a'.tmps.getD 170 undef=z170 at *;generalize a'.tmps.getD 171 undef=z171 at *;generalize a'.tmps.getD 172 undef=z172 at *;generalize a'.tmps.getD 173 undef=z173 at *;generalize a'.tmps.getD 174 undef=z174 at *;generalize a'.tmps.getD 175 undef=z175 at *;generalize a'.tmps.getD 176 undef=z176 at *;generalize a'.tmps.getD 177 undef=z177 at *;subst hact;have e10:z177 = .bool false:=hd10;subst e10;clear hd10;simp only[Act.put,List.setIfInBounds_toArray,List.set_cons_succ,List.set_cons_zero];have L7:=ħ (LR.o.trans (hb4.o.mono LR.o.size));clear hb4 LR
           go_wp2_with fail
           go_roundw
           case rel=>exact⟨ix+1,by go_num,by omega,L7⟩
           case measure=>simp only[intOf];omega
         ·have ii:¬ (ix:Int)<un:=by omega
          have hnn:(((n2:Nat):Int)==((n2:Nat):Int))=true:=by simp
          have hee:(((e2:Nat):Int)==((e2:Nat):Int))=true:=by simp
          have BF:=ħ (BQ.o.trans (LR.o.mono BQ.o.size))
          go_wp2_with fail
          go_ret;exact⟨rfl,BF.o⟩
end Go.Proofs.YtbcgocpihobjnaaGreatDoor
