import Derived.Test.YtbcgocpihobjnaaGreatDoorCL44
import Derived.Test.YtbcgocpihobjnaaGreatDoorCL46
import Derived.Test.YtbcgocpihobjnaaGreatDoorCL43
set_option linter.all false
set_option maxHeartbeats 32000000
set_option maxRecDepth 100000
namespace Go.Proofs.YtbcgocpihobjnaaGreatDoor
open Go.RowKit Go.Sort Go.Maps
def Hz(w w':World)(l:List Nat)(b:Bool)(e:Ending):Prop:=Below w.heap.size w w'/\∃ o cap,e = .returned (.tuple #[.slice o l.length cap,.bool b])/\aY aZ w' o (l.map Int.ofNat)
def To(c:Crw)(C:List (List Bool)):List Nat×Bool:=if gD (aR c C)=true then(fO c c.us.length 0 C [],true) else([],false)
def vU(c:Crw)(l:List Int):List Nat×Bool:=match Bf c l with | none=>([],false) | some C=>To c C
def vV(c:Crw)(u m:Int):List Nat×Bool:=if pA c u m=true then To c (bV c (aW c) u.toNat m.toNat) else([],false)
theorem GH{w w':World}(hb:Below w.heap.size w w'):Hz w w' [] false (.returned (.tuple #[.slice none 0 0,.bool false])):=⟨hb,none,0,rfl,.inl rfl⟩
theorem Zyn{w w':World}{l:List Nat}{o:Option Addr}{cap:Nat}(hb:Below w.heap.size w w')(ho:OwnK w' w.heap.size 1 l.length cap (bE l) o):Hz w w' l true (.returned (.tuple #[.slice o l.length cap,.bool true])):=⟨hb,o,cap,rfl,Nz ho rfl⟩
theorem d6{w w':World}{c:Crw}{C:List (List Bool)}{e:Ending}(hb:Below w.heap.size w w')(h:if gD (aR c C)=true then ∃ o cap,e = .returned (.tuple #[.slice o (fO c c.us.length 0 C []).length cap,.bool true])/\OwnK w' w.heap.size 1 (fO c c.us.length 0 C []).length cap (bE (fO c c.us.length 0 C [])) o else e = .returned (.tuple #[.slice none 0 0,.bool false])):Hz w w' (To c C).1 (To c C).2 e:=by
 unfold To
 cases hf:gD (aR c C) with
 | true =>
  rw[hf,if_pos rfl] at h;obtain⟨o,cap,rfl,ho⟩:=h;rw[if_pos rfl];exact Zyn hb ho
 | false =>
  rw[hf,if_neg (by decide)] at h;subst h;rw[if_neg (by decide)];exact GH hb
theorem Li.lst{w w':World}{c:Crw}{l:List Int}{e:Ending}(h:Li w w' c l e):Hz w w' (vU c l).1 (vU c l).2 e:=by
 unfold Li at h;unfold vU;obtain⟨hb,h⟩:=h
 cases ha:Bf c l with
 | none =>
  rw[ha] at h;have h:e=_:=h;subst h;exact GH hb
 | some C =>
  rw[ha] at h;exact d6 hb h
theorem Nx.lst{w w':World}{c:Crw}{u m:Int}{e:Ending}(h:Nx w w' c u m e):Hz w w' (vV c u m).1 (vV c u m).2 e:=by
 unfold Nx at h;unfold vV;obtain⟨hb,h⟩:=h
 cases hf:pA c u m with
 | true =>
  rw[hf,cH] at h;rw[if_pos rfl];exact d6 hb h
 | false =>
  rw[hf,dS,if_neg (by decide)] at h;subst h;rw[if_neg (by decide)];exact GH hb
theorem GI(c:Crw):∀ (n u:Nat) (C:List (List Bool)) (out:List Nat),(fO c n u C out).length<=out.length+n
 | 0,u,C,out=>aO _
 | n+1,u,C,out=>by
  unfold fO
  cases xA c C u with
  | some m =>
   have h:=GI c n (u+1) (bV c C u m) (out++[m]);rw[gL,List.length_singleton] at h;show(fO c n (u+1) (bV c C u m) (out++[m])).length<=_;omega
  | none =>
   have h:=GI c n (u+1) C out;show(fO c n (u+1) C out).length<=_;omega
theorem d7(c:Crw)(C:List (List Bool)):(To c C).1.length<=c.us.length:=by
 unfold To;split
 ·have h:=GI c c.us.length 0 C []
  rwa [List.length_nil,Nat.zero_add] at h
 ·exact Nat.zero_le _
theorem Z08(c:Crw)(l:List Int):(vU c l).1.length<=c.us.length:=by
 unfold vU
 cases Bf c l with
 | none=>exact Nat.zero_le _
 | some C=>exact d7 c C
theorem Z09(c:Crw)(u m:Int):(vV c u m).1.length<=c.us.length:=by
 unfold vV;split
 ·exact d7 c _
 ·exact Nat.zero_le _
theorem Zyo(c:Crw)(u:Int):(tM c u).length<=c.ms.length:=by
 unfold tM;split
 ·exact Ta _ _
 ·exact Nat.zero_le _
theorem d8(c:Crw):(iW c).length<=c.us.length/\∀ r∈iW c,r.length<=c.ms.length:=by
 unfold iW;split
 ·refine⟨by rw[eB,List.length_range];exact aO _,fun r hr=>?_⟩
  obtain⟨u,-,rfl⟩:=List.mem_map.1 hr;rw[eB];exact Ta _ _
 ·exact⟨Nat.zero_le _,fun r hr=>by simp at hr⟩
theorem GJ(t:Array Value)(h:t.size=139):∃ f:Nat->Value,t=#[f 0,f 1,f 2,f 3,f 4,f 5,f 6,f 7,f 8,f 9,f 10,f 11,f 12,f 13,f 14,f 15,f 16,f 17,f 18,f 19,f 20,f 21,f 22,f 23,f 24,f 25,f 26,f 27,f 28,f 29,f 30,f 31,f 32,f 33,f 34,f 35,f 36,f 37,f 38,f 39,f 40,f 41,f 42,f 43,f 44,f 45,f 46,f 47,f 48,f 49,f 50,f 51,f 52,f 53,f 54,f 55,f 56,f 57,f 58,f 59,f 60,f 61,f 62,f 63,f 64,f 65,f 66,f 67,f 68,f 69,f 70,f 71,f 72,f 73,f 74,f 75,f 76,f 77,f 78,f 79,f 80,f 81,f 82,f 83,f 84,f 85,f 86,f 87,f 88,f 89,f 90,f 91,f 92,f 93,f 94,f 95,f 96,f 97,f 98,f 99,f 100,f 101,f 102,f 103,f 104,f 105,f 106,f 107,f 108,f 109,f 110,f 111,f 112,f 113,f 114,f 115,f 116,f 117,f 118,f 119,f 120,f 121,f 122,f 123,f 124,f 125,f 126,f 127,f 128,f 129,f 130,f 131,f 132,f 133,f 134,f 135,f 136,f 137,f 138]/\∀ d,t.getD d undef=f d:=by
 obtain⟨l⟩:=t;have hl:l.length=139:=h
 have e:l=(List.range 139).map (fun i=>l.getD i undef):=by
  apply List.ext_getElem
  ·simp[hl]
  ·intro i h1 h2
   simp[List.getD,h1]
 exact⟨fun i=>l.getD i undef,congrArg List.toArray e,fun d=>by simp⟩
theorem Zum(i:Nat)(h:i<47):i=0\/i=1\/i=2\/i=3\/i=4\/i=5\/i=6\/i=7\/i=8\/i=9\/i=10\/i=11\/i=12\/i=13\/i=14\/i=15\/i=16\/i=17\/i=18\/i=19\/i=20\/i=21\/i=22\/i=23\/i=24\/i=25\/i=26\/i=27\/i=28\/i=29\/i=30\/i=31\/i=32\/i=33\/i=34\/i=35\/i=36\/i=37\/i=38\/i=39\/i=40\/i=41\/i=42\/i=43\/i=44\/i=45\/i=46:=by omega
theorem Zun(i:Nat)(h:i<21):i=0\/i=1\/i=2\/i=3\/i=4\/i=5\/i=6\/i=7\/i=8\/i=9\/i=10\/i=11\/i=12\/i=13\/i=14\/i=15\/i=16\/i=17\/i=18\/i=19\/i=20:=by omega
def Z5p(CB qn qc mn mc un uc an ac bc dn dc ec n lc:Nat)(qo mo uo ao bo do_ eo lo:Option Addr)(x0 x1 x2 x3 who:Int)(ok can vc el fi:Bool):List Value:=[.bool ok,.bool ok,.bool false,.bool false,.slice ao an ac,.slice bo an bc,.bool true,.bool false,.bool false,.bool false,.bool can,.bool can,.bool false,.bool false,.bool false,.slice do_ dn dc,.slice eo dn ec,.bool true,.bool false,.bool false,.bool false,.agg #[.slice qo qn qc,.slice mo mn mc,.slice uo un uc],.bool vc,.agg #[.slice qo qn qc,.slice mo mn mc,.slice uo un uc],.bool vc,.bool false,.bool false,.bool false,.agg #[.slice qo qn qc,.slice mo mn mc,.slice uo un uc],.agg #[.int .i64 x0,.int .i64 x1,.int .i64 x2,.int .i64 x3],.int .i64 who,.bool el,.agg #[.slice qo qn qc,.slice mo mn mc,.slice uo un uc],.agg #[.int .i64 x0,.int .i64 x1,.int .i64 x2,.int .i64 x3],.int .i64 who,.bool el,.bool false,.bool false,.bool false,.agg #[.slice qo qn qc,.slice mo mn mc,.slice uo un uc],.slice lo n lc,.bool fi,.agg #[.slice qo qn qc,.slice mo mn mc,.slice uo un uc],.slice lo n lc,.bool fi,.bool false,.bool false]
def fq(CB qn qc mn mc un uc n lc pl:Nat)(qo mo uo lo:Option Addr)(use who:Int)(bk:Bool)(PL:List Int)(i:Nat)(W:World)(v:Value):Prop:=match i with
 | 0=>v = .agg #[.slice qo qn qc,.slice mo mn mc,.slice uo un uc]
 | 1=>v = .int .i64 use
 | 2=>v = .int .i64 who
 | 3=>v = .slice lo n lc
 | 4=>v = .bool bk
 | 5=>v = .agg #[.slice qo qn qc,.slice mo mn mc,.slice uo un uc]
 | 6=>v = .int .i64 use
 | 7=>v = .int .i64 who
 | 8=>v = .slice lo n lc
 | 9=>v = .bool bk
 | 10=>v = .bool false
 | 11=>v = .bool false
 | 12=>v = .agg #[.slice qo qn qc,.slice mo mn mc,.slice uo un uc]
 | 13=>v = .int .i64 use
 | 14=>∃ o cap,v = .slice o pl cap/\aY aZ W o PL
 | 15=>v = .agg #[.slice qo qn qc,.slice mo mn mc,.slice uo un uc]
 | 16=>v = .int .i64 use
 | 17=>∃ o cap,v = .slice o pl cap/\aY aZ W o PL
 | 18=>v = .bool true
 | 19=>v = .bool false
 | 20=>v = .bool false
 | _=>True
theorem Zuo(CB qn qc mn mc un uc n lc pl:Nat)(qo mo uo lo:Option Addr)(use who:Int)(bk:Bool)(PL:List Int):∀ i w w' v,fq CB qn qc mn mc un uc n lc pl qo mo uo lo use who bk PL i w v->Below w.heap.size w w'->fq CB qn qc mn mc un uc n lc pl qo mo uo lo use who bk PL i w' v:=by
 intro i w w' v h hb
 match i with
 | 0=>exact h
 | 1=>exact h
 | 2=>exact h
 | 3=>exact h
 | 4=>exact h
 | 5=>exact h
 | 6=>exact h
 | 7=>exact h
 | 8=>exact h
 | 9=>exact h
 | 10=>exact h
 | 11=>exact h
 | 12=>exact h
 | 13=>exact h
 | 14=>obtain⟨o,cap,h1,h2⟩:=h;exact⟨o,cap,h1,h2.below hb⟩
 | 15=>exact h
 | 16=>exact h
 | 17=>obtain⟨o,cap,h1,h2⟩:=h;exact⟨o,cap,h1,h2.below hb⟩
 | 18=>exact h
 | 19=>exact h
 | 20=>exact h
 | k+21=>trivial
def Tp(CB qn qc mn mc un uc sl nl:Nat)(qo mo uo:Option Addr)(SF:List (List Int))(NL:List Int)(i:Nat)(W:World)(v:Value):Prop:=match i with
 | 0=>v = .bool true
 | 1=>v = .bool true
 | 2=>v = .agg #[.slice qo qn qc,.slice mo mn mc,.slice uo un uc]
 | 3=>∃ o cap,v = .slice o sl cap/\sF W SF o
 | 4=>v = .agg #[.slice qo qn qc,.slice mo mn mc,.slice uo un uc]
 | 5=>∃ o cap,v = .slice o sl cap/\sF W SF o
 | 6=>v = .bool true
 | 7=>v = .bool true
 | 8=>v = .bool true
 | 9=>v = .agg #[.slice qo qn qc,.slice mo mn mc,.slice uo un uc]
 | 10=>∃ o cap,v = .slice o nl cap/\aY aZ W o NL
 | 11=>v = .agg #[.slice qo qn qc,.slice mo mn mc,.slice uo un uc]
 | 12=>∃ o cap,v = .slice o nl cap/\aY aZ W o NL
 | 13=>v = .bool true
 | 14=>v = .bool true
 | 15=>v = .bool true
 | _=>True
theorem Zup(CB qn qc mn mc un uc sl nl:Nat)(qo mo uo:Option Addr)(SF:List (List Int))(NL:List Int):∀ i w w' v,Tp CB qn qc mn mc un uc sl nl qo mo uo SF NL i w v->Below w.heap.size w w'->Tp CB qn qc mn mc un uc sl nl qo mo uo SF NL i w' v:=by
 intro i w w' v h hb
 match i with
 | 0=>exact h
 | 1=>exact h
 | 2=>exact h
 | 3=>obtain⟨o,cap,h1,h2⟩:=h;exact⟨o,cap,h1,h2.below hb⟩
 | 4=>exact h
 | 5=>obtain⟨o,cap,h1,h2⟩:=h;exact⟨o,cap,h1,h2.below hb⟩
 | 6=>exact h
 | 7=>exact h
 | 8=>exact h
 | 9=>exact h
 | 10=>obtain⟨o,cap,h1,h2⟩:=h;exact⟨o,cap,h1,h2.below hb⟩
 | 11=>exact h
 | 12=>obtain⟨o,cap,h1,h2⟩:=h;exact⟨o,cap,h1,h2.below hb⟩
 | 13=>exact h
 | 14=>exact h
 | 15=>exact h
 | k+16=>trivial
theorem Zuq(w:World)(c:Crw)(cs:List Value)(B:Nat)(x:Use)(use who:Int)(l:List Int)(lo:Option Addr)(lc:Nat)(BH:mO w c cs)(hG:Tab w B)(hL:LenC c)(Nd:∀ p∈c.qs,ByL p)(cY:∀ m∈c.ms,∀ b∈m.b,NmL b.n)(hl:aY aZ w lo l)(fX:l.length<=9223372036854775807) :
  Calls Tryz.prog 14 #[.agg cs.toArray,.agg (cQ x).toArray,.int .i64 use,.int .i64 who,.slice lo l.length lc] w fun e w'=>e = .returned (.bool true)/\Below w.heap.size w w':=by
 have fQ:=I (fun W (hW:Below w.heap.size w W)=>hl.below hW);have Nb:=I hL.q;have zJ:=I (fun hf=>Z2u (c:=c) hf);have fA:=I (fun W (hW:Below w.heap.size w W)=>gS.step (w:=w) hG hW);have PI:=I (fun W (hW:Below w.heap.size w W)=>BH.below hW);have pG:=I (fun hf=>Z2r (c:=c) hf hL Nd cY);have ir:=I (fun W (hW:Below w.heap.size w W)=>Z0w W c cs (BH.below hW) hL);have gV:=hL.nu;have Dr:=hL.nm;have Xq:=hL.nq;obtain⟨qo,qc,mo,mc,uo,uc,rfl,-⟩:=BH;clear hL Nd cY hG hl;generalize PJ:c.qs.length=qn at *;generalize lG:c.ms.length=mn at *;generalize jQ:c.us.length=un at *;have dZ:=I jQ;have fF:=I lG;have wN:=I PJ;clear jQ lG PJ;obtain⟨x0,x1,x2,x3⟩:=x;have X1:=I (aC.new w 26 [.slice qo qn qc,.slice mo mn mc,.slice uo un uc]);have Y1:=I (aC.new (w.alloc (.cells #[.slice qo qn qc,.slice mo mn mc,.slice uo un uc] 26)) 39 [.int .i64 x0,.int .i64 x1,.int .i64 x2,.int .i64 x3]);have b1:=bwA w (.cells #[.slice qo qn qc,.slice mo mn mc,.slice uo un uc] 26);have b2:=b1.alloc b1.size (.cells #[.int .i64 x0,.int .i64 x1,.int .i64 x2,.int .i64 x3] 39)
 have e1:(w.alloc (.cells #[.slice qo qn qc,.slice mo mn mc,.slice uo un uc] 26)).heap.size=w.heap.size+1:=by rw[eH]
 have Y1:Hid (aC ((w.alloc (.cells #[.slice qo qn qc,.slice mo mn mc,.slice uo un uc] 26)).alloc (.cells #[.int .i64 x0,.int .i64 x1,.int .i64 x2,.int .i64 x3] 39)) (w.heap.size+1) 39 [.int .i64 x0,.int .i64 x1,.int .i64 x2,.int .i64 x3]):=I (by have:=Y1.o;rw[e1] at this;exact this);have X1:Hid (aC ((w.alloc (.cells #[.slice qo qn qc,.slice mo mn mc,.slice uo un uc] 26)).alloc (.cells #[.int .i64 x0,.int .i64 x1,.int .i64 x2,.int .i64 x3] 39)) w.heap.size 26 [.slice qo qn qc,.slice mo mn mc,.slice uo un uc]):=I (X1.o.step ((aG _ _).alloc (aO _) (.cells #[.int .i64 x0,.int .i64 x1,.int .i64 x2,.int .i64 x3] 39)));have B1:=I b2;clear b1 b2 e1;change Calls Tryz.prog 14 #[.agg #[.slice qo qn qc,.slice mo mn mc,.slice uo un uc],.agg #[.int .i64 x0,.int .i64 x1,.int .i64 x2,.int .i64 x3],.int .i64 use,.int .i64 who,.slice lo l.length lc] w _
 go_enter Tryz.func14,Tryz.ntmps14
 go_upto_region 1 with(fail)
 generalize (w.alloc (.cells #[.slice qo qn qc,.slice mo mn mc,.slice uo un uc] 26)).alloc (.cells #[.int .i64 x0,.int .i64 x1,.int .i64 x2,.int .i64 x3] 39)=w1 at *
 go_wp2_with fail
 refine(Zx5 w1 B (fA.o w1 B1.o)).mono ?_;rintro e w2 ⟨rfl,b2⟩;have X2:=X1.st b2;have Y2:=Y1.st b2;have B2:=B1.tr b2;clear b2 X1 B1 Y1
 go_upto_region 2 with(fail)
 go_wp2_with (refine wpList_load_row rfl 26 (.tmp 5) rfl (w.heap.size) ?x1 26 #[.slice qo qn qc,.slice mo mn mc,.slice uo un uc] (0,0) _ X2.o Tryz.underlying26 rfl (kU _ _ _) ?_;(case x1=>rfl))
 refine(ir.o w2 B2.o).mono ?_;rintro e w3 ⟨rfl,b3⟩;have X3:=X2.st b3;have Y3:=Y2.st b3;have B3:=B2.tr b3;clear b3 X2 B2 ir Y2;obtain⟨V,hV⟩:=exq (Tk c);rw[hV];have HV:=I hV;clear hV
 cases V with
 | false =>
  go_wp2_with fail
  go_ret;exact⟨rfl,B3.o⟩
 | true =>
  obtain⟨aJ,BI,PM,t_⟩:=pG.o HV.o;have cV:=I aJ;clear aJ;have nR:=I (fun W (hW:Below w.heap.size w W)=>(⟨PI.o W hW,fA.o W hW,cV.o,by rw[dZ.o];exact BI⟩:ArgC W c [.slice qo qn qc,.slice mo mn mc,.slice uo un uc] B));clear pG fA PI cV;have He:=I (fun W (hW:Below w.heap.size w W)=>(⟨(nR.o W hW).crw,(nR.o W hW).ok,Nb.o,(nR.o W hW).nu,zJ.o HV.o⟩:ArgR W c [.slice qo qn qc,.slice mo mn mc,.slice uo un uc]));by_cases Cd:(20:Int)<l.length
  ·go_wp2_with fail
   go_ret;exact⟨rfl,B3.o⟩
  have Ux:=I (fun W (hW:Below w.heap.size w W)=>WG W c _ (nR.o W hW).crw B (nR.o W hW).tab (nR.o W hW).ok);have cr:Hid (∀ W,Below w.heap.size w W->Calls Tryz.prog 23 #[.agg #[.slice qo qn qc,.slice mo mn mc,.slice uo un uc],.slice lo l.length lc] W fun e w'=>Hz W w' (vU c l).1 (vU c l).2 e):=I (fun W hW=>(YL W c _ B l lo lc (nR.o W hW) (fQ.o W hW)).mono (fun e w' h=>h.lst));have rX:Hid (∀ W,Below w.heap.size w W->Calls Tryz.prog 53 #[.agg #[.slice qo qn qc,.slice mo mn mc,.slice uo un uc],.slice lo l.length lc] W fun e w'=>Hz W w' (vU c l).1 (vU c l).2 e):=I (fun W hW=>(Zqx W c _ l lo lc (He.o W hW) (fQ.o W hW) (by omega)).mono (fun e w' h=>h.lst));have wT:Hid (∀ W,Below w.heap.size w W->Calls Tryz.prog 49 #[.agg #[.slice qo qn qc,.slice mo mn mc,.slice uo un uc],.int .i64 use,.int .i64 who] W fun e w'=>Hz W w' (vV c use who).1 (vV c use who).2 e):=I (fun W hW=>(Z2i W c _ B use who (nR.o W hW)).mono (fun e w' h=>h.lst));have ku:Hid (∀ W,Below w.heap.size w W->Calls Tryz.prog 54 #[.agg #[.slice qo qn qc,.slice mo mn mc,.slice uo un uc],.int .i64 use,.int .i64 who] W fun e w'=>Hz W w' (vV c use who).1 (vV c use who).2 e):=I (fun W hW=>(Zpk W c _ use who (He.o W hW)).mono (fun e w' h=>h.lst));have fZ:=I (fun W (hW:Below w.heap.size w W)=>Wm W c _ (He.o W hW));have vG:Hid (∀ W,Below w.heap.size w W->Calls Tryz.prog 51 #[.agg #[.slice qo qn qc,.slice mo mn mc,.slice uo un uc],.agg #[.int .i64 x0,.int .i64 x1,.int .i64 x2,.int .i64 x3],.int .i64 who] W fun e w'=>e = .returned (.bool (Lh c (⟨x0,x1,x2,x3⟩:Use) who))/\Below W.heap.size W w'):=I (fun W hW=>Z0a W c _ B (⟨x0,x1,x2,x3⟩:Use) who (nR.o W hW));have iY:Hid (∀ W,Below w.heap.size w W->Calls Tryz.prog 56 #[.agg #[.slice qo qn qc,.slice mo mn mc,.slice uo un uc],.agg #[.int .i64 x0,.int .i64 x1,.int .i64 x2,.int .i64 x3],.int .i64 who] W fun e w'=>e = .returned (.bool (Lh c (⟨x0,x1,x2,x3⟩:Use) who))/\Below W.heap.size W w'):=I (fun W hW=>Znd W c _ (⟨x0,x1,x2,x3⟩:Use) who (He.o W hW));have wC:=I (fun W (hW:Below w.heap.size w W)=>Z0e W c _ B l lo lc (nR.o W hW) (fQ.o W hW));have sO:=I (fun W (hW:Below w.heap.size w W)=>Zyi W c _ l lo lc (He.o W hW) (fQ.o W hW) (by omega));have Vm:=I (fun W (hW:Below w.heap.size w W)=>YO W c _ B use who l lo lc (nR.o W hW) (fQ.o W hW) (by omega));have xT:=I (fun W (hW:Below w.heap.size w W)=>Zqy W c _ use who l lo lc (He.o W hW) (fQ.o W hW) (by omega));have Ga:=I (fun W (hW:Below w.heap.size w W)=>Zz9 W c _ B use (nR.o W hW));have vJ:=I (fun W (hW:Below w.heap.size w W)=>Znc W c _ use (He.o W hW));have Jf:=I (fun W (hW:Below w.heap.size w W)=>FF W c _ B (nR.o W hW));have ct:=I (fun W (hW:Below w.heap.size w W)=>ZX W c _ (He.o W hW));have Se:=I (fun W (hW:Below w.heap.size w W)=>YK W c _ B (nR.o W hW));have uS:=I (fun W (hW:Below w.heap.size w W)=>Zuk W c _ (He.o W hW));unfold xB at Ga vJ;unfold Ny at Jf ct;unfold Wi at Se uS
  have Ga:Hid (∀ W,Below w.heap.size w W->Calls Tryz.prog 47 #[.agg #[.slice qo qn qc,.slice mo mn mc,.slice uo un uc],.int .i64 use] W fun e w'=>(∃ o cap,e = .returned (.slice o (tM c use).length cap)/\aY aZ w' o ((tM c use).map Int.ofNat))/\Below W.heap.size W w'):=I (fun W hW=>(Ga.o W hW).mono (fun e w' h=>by
   obtain⟨⟨o,cap,h1,h2⟩,h3⟩:=h
   exact⟨⟨o,cap,h1,Nz h2 rfl⟩,h3⟩))
  have vJ:Hid (∀ W,Below w.heap.size w W->Calls Tryz.prog 60 #[.agg #[.slice qo qn qc,.slice mo mn mc,.slice uo un uc],.int .i64 use] W fun e w'=>(∃ o cap,e = .returned (.slice o (tM c use).length cap)/\aY aZ w' o ((tM c use).map Int.ofNat))/\Below W.heap.size W w'):=I (fun W hW=>(vJ.o W hW).mono (fun e w' h=>by
   obtain⟨⟨o,cap,h1,h2⟩,h3⟩:=h
   exact⟨⟨o,cap,h1,Nz h2 rfl⟩,h3⟩))
  have Se:Hid (∀ W,Below w.heap.size w W->Calls Tryz.prog 62 #[.agg #[.slice qo qn qc,.slice mo mn mc,.slice uo un uc]] W fun e w'=>(∃ o cap,e = .returned (.slice o (vT c).length cap)/\aY aZ w' o (vT c))/\Below W.heap.size W w'):=I (fun W hW=>(Se.o W hW).mono (fun e w' h=>by
   obtain⟨⟨o,cap,h1,h2⟩,h3⟩:=h
   exact⟨⟨o,cap,h1,h2.flatR jN rfl⟩,h3⟩))
  have uS:Hid (∀ W,Below w.heap.size w W->Calls Tryz.prog 63 #[.agg #[.slice qo qn qc,.slice mo mn mc,.slice uo un uc]] W fun e w'=>(∃ o cap,e = .returned (.slice o (vT c).length cap)/\aY aZ w' o (vT c))/\Below W.heap.size W w'):=I (fun W hW=>(uS.o W hW).mono (fun e w' h=>by
   obtain⟨⟨o,cap,h1,h2⟩,h3⟩:=h
   exact⟨⟨o,cap,h1,h2.flatR jN rfl⟩,h3⟩))
  have Qh:Hid ((vU c l).1.length<=999):=I (dQ (Z08 c l) (nR.o w (aG _ _)).nu);have Mv:Hid ((vV c use who).1.length<=999):=I (dQ (Z09 c use who) (nR.o w (aG _ _)).nu);have gO:Hid ((tM c use).length<=65):=I (dQ (Zyo c use) (by rw[fF.o];exact PM));have Dt:Hid ((iW c).length<=999/\∀ r∈iW c,r.length<=65):=I ⟨dQ (d8 c).1 (nR.o w (aG _ _)).nu,fun r hr=>dQ ((d8 c).2 r hr) (by rw[fF.o];exact PM)⟩;have Gh:Hid ((vT c).length<=999):=I (by unfold vT;rw[eB];exact Dt.o.1);have xQ:Hid (((tM c use).map Int.ofNat).length=(tM c use).length):=I (by rw[eB]);have Ch:Hid (((vU c l).1.map Int.ofNat).length=(vU c l).1.length):=I (by rw[eB]);have kw:Hid (((vV c use who).1.map Int.ofNat).length=(vV c use who).1.length):=I (by rw[eB]);unfold Hz at cr rX wT ku;obtain⟨AL,hAL⟩:=exq ((vU c l).1.map Int.ofNat);obtain⟨an,kx⟩:=exq ((vU c l).1.length);obtain⟨ok,aJ⟩:=exq ((vU c l).2);rw[hAL,kx,aJ] at cr rX;rw[hAL,kx] at Ch;rw[kx] at Qh;obtain⟨DL,hDL⟩:=exq ((vV c use who).1.map Int.ofNat);obtain⟨dn,aA⟩:=exq ((vV c use who).1.length);obtain⟨can,iS⟩:=exq ((vV c use who).2);rw[hDL,aA,iS] at wT ku;rw[hDL,aA] at kw;rw[aA] at Mv;obtain⟨PL,hPL⟩:=exq ((tM c use).map Int.ofNat);obtain⟨pl,Pp⟩:=exq ((tM c use).length);rw[hPL,Pp] at Ga vJ xQ;rw[Pp] at gO;obtain⟨sl,Cx⟩:=exq ((iW c).length);have sY:=I Cx;rw[Cx] at Jf ct Dt;generalize iW c=SF at *;obtain⟨nl,wR⟩:=exq ((vT c).length);have qV:=I wR;rw[wR] at Se uS Gh;generalize vT c=NL at *;obtain⟨vc,iM⟩:=exq (bG c);rw[iM] at Ux fZ;obtain⟨el,nN⟩:∃ b,Lh c (⟨x0,x1,x2,x3⟩:Use) who=b:=⟨_,rfl⟩;rw[nN] at vG iY;obtain⟨fi,PN⟩:=exq (Lj c l);rw[PN] at wC sO;obtain⟨bk,mC⟩:=exq (Hu c use who l);rw[mC] at Vm xT;obtain⟨n,hn⟩:=exq (l.length);rw[hn] at cr rX wC sO Vm xT Cd ⊢;clear hAL kx aJ hDL aA iS hPL Pp Cx wR iM nN PN mC hn nR He fQ Nb zJ
  go_upto_region 4 with(fail)
  go_wp2_with (refine wpList_load_row rfl 26 (.tmp 5) rfl (w.heap.size) ?x3 26 #[.slice qo qn qc,.slice mo mn mc,.slice uo un uc] (0,0) _ X3.o Tryz.underlying26 rfl (kU _ _ _) ?_;(case x3=>rfl))
  refine(cr.o w3 B3.o).mono ?_;rintro e w4 ⟨b4,ao,ac,rfl,PO⟩;have X4:=X3.st b4;have Y4:=Y3.st b4;have B4:=B3.tr b4;have FA:=I (fun W (hW:Below w4.heap.size w4 W)=>PO.below hW);clear PO;clear b4 X3 Y3 B3 cr
  go_upto_region 5 with(fail)
  go_wp2_with (refine wpList_load_row rfl 26 (.tmp 5) rfl (w.heap.size) ?x4 26 #[.slice qo qn qc,.slice mo mn mc,.slice uo un uc] (0,0) _ X4.o Tryz.underlying26 rfl (kU _ _ _) ?_;(case x4=>rfl))
  refine(rX.o w4 B4.o).mono ?_;rintro e w5 ⟨b5,bo,bc,rfl,wM⟩;have X5:=X4.st b5;have Y5:=Y4.st b5;have B5:=B4.tr b5;have L5:=I b5;have FB:=I (fun W (hW:Below w5.heap.size w5 W)=>wM.below hW);clear wM;clear b5 X4 Y4 B4 rX
  go_upto_region 6 with(fail)
  go_wp2_with (refine wpList_load_row rfl 26 (.tmp 5) rfl (w.heap.size) ?x5 26 #[.slice qo qn qc,.slice mo mn mc,.slice uo un uc] (0,0) _ X5.o Tryz.underlying26 rfl (kU _ _ _) ?_;(case x5=>rfl))
  refine(wT.o w5 B5.o).mono ?_;rintro e w6 ⟨b6,do_,dc,rfl,PP⟩;have X6:=X5.st b6;have Y6:=Y5.st b6;have B6:=B5.tr b6;have L6:=I b6;have FD:=I (fun W (hW:Below w6.heap.size w6 W)=>PP.below hW);clear PP;clear b6 X5 Y5 B5 wT
  go_upto_region 7 with(fail)
  go_wp2_with (refine wpList_load_row rfl 26 (.tmp 5) rfl (w.heap.size) ?x6 26 #[.slice qo qn qc,.slice mo mn mc,.slice uo un uc] (0,0) _ X6.o Tryz.underlying26 rfl (kU _ _ _) ?_;(case x6=>rfl))
  refine(ku.o w6 B6.o).mono ?_;rintro e w7 ⟨b7,eo,ec,rfl,PQ⟩;have X7:=X6.st b7;have Y7:=Y6.st b7;have B7:=B6.tr b7;have L7:=I b7;have FE:=I (fun W (hW:Below w7.heap.size w7 W)=>PQ.below hW);clear PQ;clear b7 X6 Y6 B6 ku;have K7:Hid (Below w4.heap.size w4 w7/\Below w5.heap.size w5 w7/\Below w6.heap.size w6 w7):=I ⟨L5.o.trans ((L6.o.trans (L7.o.mono L6.o.size)).mono L5.o.size),L6.o.trans (L7.o.mono L6.o.size),L7.o⟩;have zO:=I (fun W (hW:Below w7.heap.size w7 W)=>Lm W AL ao bo ac bc (FA.o W (K7.o.1.trans (hW.mono K7.o.1.size))) (FB.o W (K7.o.2.1.trans (hW.mono K7.o.2.1.size))) (by rw[Ch.o];have:=Qh.o;omega));rw[Ch.o] at zO;have xO:=I (fun W (hW:Below w7.heap.size w7 W)=>Lm W DL do_ eo dc ec (FD.o W (K7.o.2.2.trans (hW.mono K7.o.2.2.size))) (FE.o W hW) (by rw[kw.o];have:=Mv.o;omega));rw[kw.o] at xO;have sU:=I (fun W o1 o2 cap1 cap2 (h1:aY aZ W o1 PL) (h2:aY aZ W o2 PL)=>Lm W PL o1 o2 cap1 cap2 h1 h2 (by rw[xQ.o];have:=gO.o;omega));rw[xQ.o] at sU;have zF:=I (fun W o1 o2 cap1 cap2 (h1:aY aZ W o1 NL) (h2:aY aZ W o2 NL)=>Lm W NL o1 o2 cap1 cap2 h1 h2 (by rw[qV.o];have:=Gh.o;omega));rw[qV.o] at zF
  have bQ:Hid (∀ W o1 o2 cap1 cap2,sF W SF o1->sF W SF o2->Calls Tryz.prog 27 #[.slice o1 sl cap1,.slice o2 sl cap2] W fun e w'=>e = .returned (.bool true)/\Below W.heap.size W w'):=I (fun W o1 o2 cap1 cap2 h1 h2=>by
   have h:=ZG W SF SF o1 o2 cap1 cap2 h1 h2 (by rw[sY.o];have:=Dt.o.1;omega) (fun r hr=>by have:=Dt.o.2 r hr;omega);rw[sY.o,decide_eq_true (show SF=SF from rfl)] at h
   exact h)
  have bZ:=I (fun W (hW:Below w7.heap.size w7 W)=>X7.o.step hW);have wS:=I (fun W (hW:Below w7.heap.size w7 W)=>Y7.o.step hW);have Tz:=I (fun W (hW:Below w7.heap.size w7 W)=>Ux.o W (B7.o.trans (hW.mono B7.o.size)));have fZ:=I (fun W (hW:Below w7.heap.size w7 W)=>fZ.o W (B7.o.trans (hW.mono B7.o.size)));have vG:=I (fun W (hW:Below w7.heap.size w7 W)=>vG.o W (B7.o.trans (hW.mono B7.o.size)));have iY:=I (fun W (hW:Below w7.heap.size w7 W)=>iY.o W (B7.o.trans (hW.mono B7.o.size)));have wC:=I (fun W (hW:Below w7.heap.size w7 W)=>wC.o W (B7.o.trans (hW.mono B7.o.size)));have sO:=I (fun W (hW:Below w7.heap.size w7 W)=>sO.o W (B7.o.trans (hW.mono B7.o.size)));clear FA FB FD FE L5 L6 L7 K7 Ch kw xQ qV sY Qh Mv gO Gh Dt Ux
  go_upto_region 8 with(fail)
  refine oK (lF (Z5p w.heap.size qn qc mn mc un uc an ac bc dn dc ec n lc qo mo uo ao bo do_ eo lo x0 x1 x2 x3 who ok can vc el fi)) (by kernel_rfl) (fun _ _ _ _ h _=>h) (jD (by kernel_rfl)) (oJ (by kernel_rfl)) (iV (by kernel_rfl)) ?hs ?he
  case hs =>
   intro i o hi listed a' w' H aU;have hb:=I H.below;obtain⟨t',df⟩:=a';obtain⟨f',rfl,hf⟩:=GJ t' H.tsize;obtain rfl:df=[]:=H.defers;have bB:f' 3 = .int .i64 who:=H.sm 3 (by kernel_rfl);have bY:f' 4 = .slice lo n lc:=H.sm 4 (by kernel_rfl);have cD:f' 5 = .pointer (some ⟨w.heap.size,0,none⟩):=H.sm 5 (by kernel_rfl);have dP:f' 6 = .pointer (some ⟨w.heap.size+1,0,none⟩):=H.sm 6 (by kernel_rfl);have eG:f' 12 = .slice ao an ac:=H.sm 12 (by kernel_rfl);have fM:f' 13 = .bool ok:=H.sm 13 (by kernel_rfl);have fN:f' 14 = .slice bo an bc:=H.sm 14 (by kernel_rfl);have pQ:f' 15 = .bool ok:=H.sm 15 (by kernel_rfl);have pR:f' 16 = .slice do_ dn dc:=H.sm 16 (by kernel_rfl);have pS:f' 17 = .bool can:=H.sm 17 (by kernel_rfl);have pT:f' 18 = .slice eo dn ec:=H.sm 18 (by kernel_rfl);have pU:f' 19 = .bool can:=H.sm 19 (by kernel_rfl);have aA:=H.hL aU hf;clear aU H hf;rcases Zum i (lI.1 hi).1 with rfl | rfl | rfl | rfl | rfl | rfl | rfl | rfl | rfl | rfl | rfl | rfl | rfl | rfl | rfl | rfl | rfl | rfl | rfl | rfl | rfl | rfl | rfl | rfl | rfl | rfl | rfl | rfl | rfl | rfl | rfl | rfl | rfl | rfl | rfl | rfl | rfl | rfl | rfl | rfl | rfl | rfl | rfl | rfl | rfl | rfl | rfl<;>obtain rfl:=bF hi;rw[fM]
   rotate_left
   rw[pQ]
   rotate_left
   rw[aA 0 56 rfl rfl,aA 1 57 rfl rfl]
   have qq:(ok != ok)=false:=by cases ok<;>rfl
   rotate_left
   rw[aA 2 58 rfl rfl]
   rotate_left
   rw[eG,aA 3 59 rfl rfl]
   rotate_left
   rw[fN,aA 3 59 rfl rfl]
   rotate_left
   ·have dC:=aA 3 59 rfl rfl
    have fL:=aA 4 60 rfl rfl;have dR:=aA 5 61 rfl rfl;clear aA;rw[dC,fL,dR];clear dC fL dR bB bY cD dP eG fM fN pQ pR pS pT pU;refine aP rfl ?_
    go_wp2_with fail
    refine(zO.o w' hb.o).mono ?_;rintro e w4 ⟨rfl,b4⟩;have bC:=I b4;clear b4
    go_wp2_with fail
    exact aI ⟨_,rfl,bC.o,rfl⟩
   rw[aA 3 59 rfl rfl,aA 6 62 rfl rfl]
   rotate_left
   rw[aA 3 59 rfl rfl,aA 7 63 rfl rfl]
   rotate_left
   rw[aA 8 64 rfl rfl]
   rotate_left
   rw[pS,aA 9 65 rfl rfl]
   rotate_left
   rw[pU,aA 9 65 rfl rfl]
   rotate_left
   rw[aA 9 65 rfl rfl,aA 10 66 rfl rfl,aA 11 67 rfl rfl]
   have qq:(can != can)=false:=by cases can<;>rfl
   rotate_left
   rw[aA 9 65 rfl rfl,aA 12 68 rfl rfl]
   rotate_left
   rw[aA 13 69 rfl rfl]
   rotate_left
   rw[pR,aA 14 70 rfl rfl]
   rotate_left
   rw[pT,aA 14 70 rfl rfl]
   rotate_left
   ·have kE:=aA 14 70 rfl rfl
    have jK:=aA 15 71 rfl rfl;have jL:=aA 16 72 rfl rfl;clear aA;rw[kE,jK,jL];clear kE jK jL bB bY cD dP eG fM fN pQ pR pS pT pU;refine aP rfl ?_
    go_wp2_with fail
    refine(xO.o w' hb.o).mono ?_;rintro e w4 ⟨rfl,b4⟩;have bC:=I b4;clear b4
    go_wp2_with fail
    exact aI ⟨_,rfl,bC.o,rfl⟩
   rw[aA 14 70 rfl rfl,aA 17 73 rfl rfl]
   rotate_left
   rw[aA 14 70 rfl rfl,aA 18 74 rfl rfl]
   rotate_left
   rw[aA 19 75 rfl rfl]
   rotate_left
   rw[cD,aA 20 76 rfl rfl];have hx:=bZ.o w' hb.o;obtain⟨c0,c1,c2⟩:=hx.c3;clear hx
   rotate_left
   ·have Fa:=aA 20 76 rfl rfl
    have cu:=aA 21 77 rfl rfl;clear aA;rw[Fa,cu];clear Fa cu bB bY cD dP eG fM fN pQ pR pS pT pU;refine aP rfl ?_
    go_wp2_with fail
    refine(Tz.o w' hb.o).mono ?_;rintro e w4 ⟨rfl,b4⟩;have bC:=I b4;clear b4
    go_wp2_with fail
    exact aI ⟨_,rfl,bC.o,rfl⟩
   rw[cD,aA 20 76 rfl rfl];have hx:=bZ.o w' hb.o;obtain⟨c0,c1,c2⟩:=hx.c3;clear hx
   rotate_left
   ·have Fa:=aA 20 76 rfl rfl
    have cv:=aA 23 79 rfl rfl;clear aA;rw[Fa,cv];clear Fa cv bB bY cD dP eG fM fN pQ pR pS pT pU;refine aP rfl ?_
    go_wp2_with fail
    refine(fZ.o w' hb.o).mono ?_;rintro e w4 ⟨rfl,b4⟩;have bC:=I b4;clear b4
    go_wp2_with fail
    exact aI ⟨_,rfl,bC.o,rfl⟩
   rw[aA 20 76 rfl rfl,aA 22 78 rfl rfl,aA 24 80 rfl rfl]
   have qq:(vc != vc)=false:=by cases vc<;>rfl
   rotate_left
   rw[aA 20 76 rfl rfl,aA 25 81 rfl rfl]
   rotate_left
   rw[aA 26 82 rfl rfl]
   rotate_left
   rw[cD,aA 27 83 rfl rfl];have hx:=bZ.o w' hb.o;obtain⟨c0,c1,c2⟩:=hx.c3;clear hx
   rotate_left
   rw[dP,aA 27 83 rfl rfl];have hy:=wS.o w' hb.o;obtain⟨y0,y1,y2,y3⟩:=hy.c4;clear hy
   rotate_left
   rw[bB,aA 27 83 rfl rfl]
   rotate_left
   ·have Fb:=aA 27 83 rfl rfl
    have cy:=aA 28 84 rfl rfl;have cz:=aA 29 85 rfl rfl;have oF:=aA 30 86 rfl rfl;clear aA;rw[Fb,cy,cz,oF];clear Fb cy cz oF bB bY cD dP eG fM fN pQ pR pS pT pU;refine aP rfl ?_
    go_wp2_with fail
    refine(vG.o w' hb.o).mono ?_;rintro e w4 ⟨rfl,b4⟩;have bC:=I b4;clear b4
    go_wp2_with fail
    exact aI ⟨_,rfl,bC.o,rfl⟩
   rw[cD,aA 27 83 rfl rfl];have hx:=bZ.o w' hb.o;obtain⟨c0,c1,c2⟩:=hx.c3;clear hx
   rotate_left
   rw[dP,aA 27 83 rfl rfl];have hy:=wS.o w' hb.o;obtain⟨y0,y1,y2,y3⟩:=hy.c4;clear hy
   rotate_left
   rw[bB,aA 27 83 rfl rfl]
   rotate_left
   ·have Fb:=aA 27 83 rfl rfl
    have Do:=aA 32 88 rfl rfl;have Dp:=aA 33 89 rfl rfl;have dd:=aA 34 90 rfl rfl;clear aA;rw[Fb,Do,Dp,dd];clear Fb Do Dp dd bB bY cD dP eG fM fN pQ pR pS pT pU;refine aP rfl ?_
    go_wp2_with fail
    refine(iY.o w' hb.o).mono ?_;rintro e w4 ⟨rfl,b4⟩;have bC:=I b4;clear b4
    go_wp2_with fail
    exact aI ⟨_,rfl,bC.o,rfl⟩
   rw[aA 27 83 rfl rfl,aA 31 87 rfl rfl,aA 35 91 rfl rfl]
   have qq:(el != el)=false:=by cases el<;>rfl
   rotate_left
   rw[aA 27 83 rfl rfl,aA 36 92 rfl rfl]
   rotate_left
   rw[aA 37 93 rfl rfl]
   rotate_left
   rw[cD,aA 38 94 rfl rfl];have hx:=bZ.o w' hb.o;obtain⟨c0,c1,c2⟩:=hx.c3;clear hx
   rotate_left
   rw[bY,aA 38 94 rfl rfl]
   rotate_left
   ·have Fc:=aA 38 94 rfl rfl
    have de:=aA 39 95 rfl rfl;have dg:=aA 40 96 rfl rfl;clear aA;rw[Fc,de,dg];clear Fc de dg bB bY cD dP eG fM fN pQ pR pS pT pU;refine aP rfl ?_
    go_wp2_with fail
    refine(wC.o w' hb.o).mono ?_;rintro e w4 ⟨rfl,b4⟩;have bC:=I b4;clear b4
    go_wp2_with fail
    exact aI ⟨_,rfl,bC.o,rfl⟩
   rw[cD,aA 38 94 rfl rfl];have hx:=bZ.o w' hb.o;obtain⟨c0,c1,c2⟩:=hx.c3;clear hx
   rotate_left
   rw[bY,aA 38 94 rfl rfl]
   rotate_left
   ·have Fc:=aA 38 94 rfl rfl
    have dh:=aA 42 98 rfl rfl;have dl:=aA 43 99 rfl rfl;clear aA;rw[Fc,dh,dl];clear Fc dh dl bB bY cD dP eG fM fN pQ pR pS pT pU;refine aP rfl ?_
    go_wp2_with fail
    refine(sO.o w' hb.o).mono ?_;rintro e w4 ⟨rfl,b4⟩;have bC:=I b4;clear b4
    go_wp2_with fail
    exact aI ⟨_,rfl,bC.o,rfl⟩
   rw[aA 38 94 rfl rfl,aA 41 97 rfl rfl,aA 44 100 rfl rfl]
   have qq:(fi != fi)=false:=by cases fi<;>rfl
   rotate_left
   rw[aA 38 94 rfl rfl,aA 45 101 rfl rfl]
   rotate_left
   all_goals clear aA bB bY cD dP eG fM fN pQ pR pS pT pU
   all_goals (refine aP rfl ?_;go_wp2_with fail;exact aI ⟨_,rfl,aG _ _,rfl⟩)
  case he =>
   intro listed a' w8 H aD;have Sf:=H.done 46 _ 102 rfl (aD 46 (by decide)) rfl;have aK:=I H.below;obtain⟨zf,hz,rfl⟩:=H.actz [56,57,58,59,60,61,62,63,64,65,66,67,68,69,70,71,72,73,74,75,76,77,78,79,80,81,82,83,84,85,86,87,88,89,90,91,92,93,94,95,96,97,98,99,100,101,102] (oL (by kernel_rfl));rw[hz] at Sf;clear H aD hz;simp only[fcL,fnL,Act.put,sbT,scS,scZ];rw[show zf 102=_ from Sf];clear Sf;have B8:=B7.tr aK.o;have bZ:=I (fun W (hW:Below w8.heap.size w8 W)=>bZ.o W (aK.o.trans (hW.mono aK.o.size)));have Vm:=I (fun W (hW:Below w8.heap.size w8 W)=>Vm.o W (B8.o.trans (hW.mono B8.o.size)));have xT:=I (fun W (hW:Below w8.heap.size w8 W)=>xT.o W (B8.o.trans (hW.mono B8.o.size)));have Ga:=I (fun W (hW:Below w8.heap.size w8 W)=>Ga.o W (B8.o.trans (hW.mono B8.o.size)));have vJ:=I (fun W (hW:Below w8.heap.size w8 W)=>vJ.o W (B8.o.trans (hW.mono B8.o.size)));clear aK B7 X7 Y7 Tz fZ vG iY wC sO zO xO wS
   go_upto_region 10 with(fail)
   refine oK (fq w.heap.size qn qc mn mc un uc n lc pl qo mo uo lo use who bk PL) (by kernel_rfl) (Zuo w.heap.size qn qc mn mc un uc n lc pl qo mo uo lo use who bk PL) (jD (by kernel_rfl)) (oJ (by kernel_rfl)) (iV (by kernel_rfl)) ?hs ?he
   case hs =>
    intro i o hi listed a' w' H aU;have hb:=I H.below;obtain⟨t',df⟩:=a';obtain⟨f',rfl,-⟩:=GJ t' H.tsize;obtain rfl:df=[]:=H.defers;have eC:f' 2 = .int .i64 use:=H.sm 2 (by kernel_rfl);have bB:f' 3 = .int .i64 who:=H.sm 3 (by kernel_rfl);have bY:f' 4 = .slice lo n lc:=H.sm 4 (by kernel_rfl);have cD:f' 5 = .pointer (some ⟨w.heap.size,0,none⟩):=H.sm 5 (by kernel_rfl);have aA:=H.hC aU;clear aU H;rcases Zun i (lI.1 hi).1 with rfl | rfl | rfl | rfl | rfl | rfl | rfl | rfl | rfl | rfl | rfl | rfl | rfl | rfl | rfl | rfl | rfl | rfl | rfl | rfl | rfl<;>obtain rfl:=bF hi;rw[cD];have hx:=bZ.o w' hb.o;obtain⟨c0,c1,c2⟩:=hx.c3;clear hx
    rotate_left
    rw[eC]
    rotate_left
    rw[bB]
    rotate_left
    rw[bY]
    rotate_left
    ·have fT:f' 103=_:=aA 0 103 rfl
     have fY:f' 104=_:=aA 1 104 rfl;have kF:f' 105=_:=aA 2 105 rfl;have dC:f' 106=_:=aA 3 106 rfl;clear aA;rw[fT,fY,kF,dC];clear fT fY kF dC eC bB bY cD;refine aP rfl ?_
     go_wp2_with fail
     refine(Vm.o w' hb.o).mono ?_;rintro e w4 ⟨rfl,b4⟩;have bC:=I b4;clear b4
     go_wp2_with fail
     exact aI ⟨_,rfl,bC.o,rfl⟩
    rw[cD];have hx:=bZ.o w' hb.o;obtain⟨c0,c1,c2⟩:=hx.c3;clear hx
    rotate_left
    rw[eC]
    rotate_left
    rw[bB]
    rotate_left
    rw[bY]
    rotate_left
    ·have dR:f' 108=_:=aA 5 108 rfl
     have iL:f' 109=_:=aA 6 109 rfl;have jA:f' 110=_:=aA 7 110 rfl;have fE:f' 111=_:=aA 8 111 rfl;clear aA;rw[dR,iL,jA,fE];clear dR iL jA fE eC bB bY cD;refine aP rfl ?_
     go_wp2_with fail
     refine(xT.o w' hb.o).mono ?_;rintro e w4 ⟨rfl,b4⟩;have bC:=I b4;clear b4
     go_wp2_with fail
     exact aI ⟨_,rfl,bC.o,rfl⟩
    rw[show f' 107=_ from aA 4 107 rfl,show f' 112=_ from aA 9 112 rfl]
    have qq:(bk != bk)=false:=by cases bk<;>rfl
    rotate_left
    rw[show f' 113=_ from aA 10 113 rfl]
    rotate_left
    rw[cD,show f' 114=_ from aA 11 114 rfl];have hx:=bZ.o w' hb.o;obtain⟨c0,c1,c2⟩:=hx.c3;clear hx
    rotate_left
    rw[eC,show f' 114=_ from aA 11 114 rfl]
    rotate_left
    ·have eE:f' 114=_:=aA 11 114 rfl
     have cW:f' 115=_:=aA 12 115 rfl;have lU:f' 116=_:=aA 13 116 rfl;clear aA;rw[eE,cW,lU];clear eE cW lU eC bB bY cD;refine aP rfl ?_
     go_wp2_with fail
     refine(Ga.o w' hb.o).mono ?_;rintro e w4 ⟨⟨o,cap,rfl,ho⟩,b4⟩;have HO:=I ho;have bC:=I b4;clear ho b4
     go_wp2_with fail
     exact aI ⟨_,rfl,bC.o,o,cap,rfl,HO.o⟩
    rw[cD,show f' 114=_ from aA 11 114 rfl];have hx:=bZ.o w' hb.o;obtain⟨c0,c1,c2⟩:=hx.c3;clear hx
    rotate_left
    rw[eC,show f' 114=_ from aA 11 114 rfl]
    rotate_left
    ·have eE:f' 114=_:=aA 11 114 rfl
     have jK:f' 118=_:=aA 15 118 rfl;have jL:f' 119=_:=aA 16 119 rfl;clear aA;rw[eE,jK,jL];clear eE jK jL eC bB bY cD;refine aP rfl ?_
     go_wp2_with fail
     refine(vJ.o w' hb.o).mono ?_;rintro e w4 ⟨⟨o,cap,rfl,ho⟩,b4⟩;have HO:=I ho;have bC:=I b4;clear ho b4
     go_wp2_with fail
     exact aI ⟨_,rfl,bC.o,o,cap,rfl,HO.o⟩
    ·have eE:f' 114=_:=aA 11 114 rfl
     have kE:fq w.heap.size qn qc mn mc un uc n lc pl qo mo uo lo use who bk PL 14 w' (f' 117):=aA 14 117 rfl;obtain⟨o1,cap1,kE,qT⟩:=kE;have Kn:fq w.heap.size qn qc mn mc un uc n lc pl qo mo uo lo use who bk PL 17 w' (f' 120):=aA 17 120 rfl;obtain⟨o2,cap2,Kn,iX⟩:=Kn;clear aA;rw[eE,kE,Kn];clear eE kE Kn eC bB bY cD;have Gu:=I qT;have qJ:=I iX;clear qT iX;refine aP rfl ?_
     go_wp2_with fail
     refine(sU.o w' o1 o2 cap1 cap2 Gu.o qJ.o).mono ?_;rintro e w4 ⟨rfl,b4⟩;have bC:=I b4;clear b4
     go_wp2_with fail
     exact aI ⟨_,rfl,bC.o,rfl⟩
    rw[show f' 114=_ from aA 11 114 rfl,show f' 121=_ from aA 18 121 rfl]
    rotate_left
    rw[show f' 114=_ from aA 11 114 rfl,show f' 122=_ from aA 19 122 rfl]
    rotate_left
    all_goals clear aA eC bB bY cD
    all_goals (refine aP rfl ?_;go_wp2_with fail;exact aI ⟨_,rfl,aG _ _,rfl⟩)
   case he =>
    intro listed a' w9 H aD;have Sg:=H.done 20 _ 123 rfl (aD 20 (by decide)) rfl;have aK:=I H.below;obtain⟨zf,hz,rfl⟩:=H.actz [103,104,105,106,107,108,109,110,111,112,113,114,115,116,117,118,119,120,121,122,123] (oL (by kernel_rfl));rw[hz] at Sg;clear H aD hz;simp only[fcL,fnL,Act.put,sbT,scS,scZ];rw[show zf 123=_ from Sg];clear Sg;have B9:=B8.tr aK.o;have bZ:=I (fun W (hW:Below w9.heap.size w9 W)=>bZ.o W (aK.o.trans (hW.mono aK.o.size)));have Jf:=I (fun W (hW:Below w9.heap.size w9 W)=>Jf.o W (B9.o.trans (hW.mono B9.o.size)));have ct:=I (fun W (hW:Below w9.heap.size w9 W)=>ct.o W (B9.o.trans (hW.mono B9.o.size)));have Se:=I (fun W (hW:Below w9.heap.size w9 W)=>Se.o W (B9.o.trans (hW.mono B9.o.size)));have uS:=I (fun W (hW:Below w9.heap.size w9 W)=>uS.o W (B9.o.trans (hW.mono B9.o.size)));clear aK B8 Vm xT Ga vJ sU
    go_upto_region 12 with(fail)
    refine oK (Tp w.heap.size qn qc mn mc un uc sl nl qo mo uo SF NL) (by kernel_rfl) (Zup w.heap.size qn qc mn mc un uc sl nl qo mo uo SF NL) (jD (by kernel_rfl)) (oJ (by kernel_rfl)) (iV (by kernel_rfl)) ?hs ?he
    case hs =>
     intro i o hi listed a' w' H aU;have hb:=I H.below;obtain⟨t',df⟩:=a';obtain⟨f',rfl,-⟩:=GJ t' H.tsize;obtain rfl:df=[]:=H.defers;have cD:f' 5 = .pointer (some ⟨w.heap.size,0,none⟩):=H.sm 5 (by kernel_rfl);have nC:f' 11 = .bool true:=H.sm 11 (by kernel_rfl);have aA:=H.hC aU;clear aU H;rcases ny i (lI.1 hi).1 with rfl | rfl | rfl | rfl | rfl | rfl | rfl | rfl | rfl | rfl | rfl | rfl | rfl | rfl | rfl | rfl<;>obtain rfl:=bF hi;rw[nC]
     rotate_left
     rw[show f' 124=_ from aA 0 124 rfl]
     rotate_left
     rw[cD,show f' 125=_ from aA 1 125 rfl];have hx:=bZ.o w' hb.o;obtain⟨c0,c1,c2⟩:=hx.c3;clear hx
     rotate_left
     ·have fY:f' 125=_:=aA 1 125 rfl
      have kF:f' 126=_:=aA 2 126 rfl;clear aA;rw[fY,kF];clear fY kF cD nC;refine aP rfl ?_
      go_wp2_with fail
      refine(Jf.o w' hb.o).mono ?_;rintro e w4 ⟨⟨o,cap,rfl,ho⟩,b4⟩;have HO:=I ho;have bC:=I b4;clear ho b4
      go_wp2_with fail
      exact aI ⟨_,rfl,bC.o,o,cap,rfl,HO.o⟩
     rw[cD,show f' 125=_ from aA 1 125 rfl];have hx:=bZ.o w' hb.o;obtain⟨c0,c1,c2⟩:=hx.c3;clear hx
     rotate_left
     ·have fY:f' 125=_:=aA 1 125 rfl
      have fL:f' 128=_:=aA 4 128 rfl;clear aA;rw[fY,fL];clear fY fL cD nC;refine aP rfl ?_
      go_wp2_with fail
      refine(ct.o w' hb.o).mono ?_;rintro e w4 ⟨⟨o,cap,rfl,ho⟩,b4⟩;have HO:=I ho;have bC:=I b4;clear ho b4
      go_wp2_with fail
      exact aI ⟨_,rfl,bC.o,o,cap,rfl,HO.o⟩
     ·have fY:f' 125=_:=aA 1 125 rfl
      have dC:Tp w.heap.size qn qc mn mc un uc sl nl qo mo uo SF NL 3 w' (f' 127):=aA 3 127 rfl;obtain⟨o1,cap1,dC,qT⟩:=dC;have dR:Tp w.heap.size qn qc mn mc un uc sl nl qo mo uo SF NL 5 w' (f' 129):=aA 5 129 rfl;obtain⟨o2,cap2,dR,iX⟩:=dR;clear aA;rw[fY,dC,dR];clear fY dC dR cD nC;have Gu:=I qT;have qJ:=I iX;clear qT iX;refine aP rfl ?_
      go_wp2_with fail
      refine(bQ.o w' o1 o2 cap1 cap2 Gu.o qJ.o).mono ?_;rintro e w4 ⟨rfl,b4⟩;have bC:=I b4;clear b4
      go_wp2_with fail
      exact aI ⟨_,rfl,bC.o,rfl⟩
     rw[show f' 125=_ from aA 1 125 rfl,show f' 130=_ from aA 6 130 rfl]
     rotate_left
     rw[show f' 131=_ from aA 7 131 rfl]
     rotate_left
     rw[cD,show f' 132=_ from aA 8 132 rfl];have hx:=bZ.o w' hb.o;obtain⟨c0,c1,c2⟩:=hx.c3;clear hx
     rotate_left
     ·have fE:f' 132=_:=aA 8 132 rfl
      have oA:f' 133=_:=aA 9 133 rfl;clear aA;rw[fE,oA];clear fE oA cD nC;refine aP rfl ?_
      go_wp2_with fail
      refine(Se.o w' hb.o).mono ?_;rintro e w4 ⟨⟨o,cap,rfl,ho⟩,b4⟩;have HO:=I ho;have bC:=I b4;clear ho b4
      go_wp2_with fail
      exact aI ⟨_,rfl,bC.o,o,cap,rfl,HO.o⟩
     rw[cD,show f' 132=_ from aA 8 132 rfl];have hx:=bZ.o w' hb.o;obtain⟨c0,c1,c2⟩:=hx.c3;clear hx
     rotate_left
     ·have fE:f' 132=_:=aA 8 132 rfl
      have eE:f' 135=_:=aA 11 135 rfl;clear aA;rw[fE,eE];clear fE eE cD nC;refine aP rfl ?_
      go_wp2_with fail
      refine(uS.o w' hb.o).mono ?_;rintro e w4 ⟨⟨o,cap,rfl,ho⟩,b4⟩;have HO:=I ho;have bC:=I b4;clear ho b4
      go_wp2_with fail
      exact aI ⟨_,rfl,bC.o,o,cap,rfl,HO.o⟩
     ·have fE:f' 132=_:=aA 8 132 rfl
      have fK:Tp w.heap.size qn qc mn mc un uc sl nl qo mo uo SF NL 10 w' (f' 134):=aA 10 134 rfl;obtain⟨o3,cap3,fK,Wq⟩:=fK;have cW:Tp w.heap.size qn qc mn mc un uc sl nl qo mo uo SF NL 12 w' (f' 136):=aA 12 136 rfl;obtain⟨o4,cap4,cW,PS⟩:=cW;clear aA;rw[fE,fK,cW];clear fE fK cW cD nC;have Gu:=I Wq;have qJ:=I PS;clear Wq PS;refine aP rfl ?_
      go_wp2_with fail
      refine(zF.o w' o3 o4 cap3 cap4 Gu.o qJ.o).mono ?_;rintro e w4 ⟨rfl,b4⟩;have bC:=I b4;clear b4
      go_wp2_with fail
      exact aI ⟨_,rfl,bC.o,rfl⟩
     rw[show f' 132=_ from aA 8 132 rfl,show f' 137=_ from aA 13 137 rfl]
     rotate_left
     rw[show f' 138=_ from aA 14 138 rfl]
     rotate_left
     all_goals clear aA cD nC
     all_goals (refine aP rfl ?_;go_wp2_with fail;exact aI ⟨_,rfl,aG _ _,rfl⟩)
    case he =>
     intro listed a' Ml H aD;have iD:=H.done 15 _ 10 rfl (aD 15 (by decide)) rfl;have aK:=I H.below;obtain⟨zf,hz,rfl⟩:=H.actz [124,125,126,127,128,129,130,131,132,133,134,135,136,137,138,10] (oL (by kernel_rfl));rw[hz] at iD;clear H aD hz;simp only[fcL,fnL,Act.put,sbT,scS,scZ];rw[show zf 10=_ from iD];clear iD;have zB:=B9.tr aK.o
     go_wp2_with fail
     go_ret;exact⟨rfl,zB.o⟩
end Go.Proofs.YtbcgocpihobjnaaGreatDoor
