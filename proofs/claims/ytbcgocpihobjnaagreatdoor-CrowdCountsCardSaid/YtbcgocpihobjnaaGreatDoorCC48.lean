import Derived.Test.YtbcgocpihobjnaaGreatDoorCC47
set_option linter.all false
set_option maxHeartbeats 64000000
set_option maxRecDepth 100000
namespace Go.Proofs.YtbcgocpihobjnaaGreatDoor
open Go.RowKit Go.Sort Go.Maps
theorem Z5f{w w':World}{e:Ending}(h:Z3o w w' (exC [usE 0 0,usE 1 0]) [-1,-1] e):Below w.heap.size w w'/\∃ o cap,e = .returned (.tuple #[.slice o 2 cap,.bool true])/\Zan Zbg w' o [0,2]:=by
 obtain⟨h1,h2⟩:=h;refine⟨h1,?_⟩;have h3:=eas
 cases hc:Z2s (exC [usE 0 0,usE 1 0]) [-1,-1] with
 | none=>rw[hc] at h3;exact absurd h3 (by simp)
 | some C =>
  rw[hc] at h2 h3;simp only[Option.map_some,Option.some.injEq,Prod.mk.injEq] at h3;obtain⟨h4,h5⟩:=h3;simp only[h4,if_true] at h2;rw[show(exC [usE 0 0,usE 1 0]).us.length=2 from rfl,h5] at h2;obtain⟨o,cap,h6,h7⟩:=h2;exact⟨o,cap,h6,Zcm h7 rfl⟩
theorem Zt0(i:Nat)(h:i<36):i=0\/i=1\/i=2\/i=3\/i=4\/i=5\/i=6\/i=7\/i=8\/i=9\/i=10\/i=11\/i=12\/i=13\/i=14\/i=15\/i=16\/i=17\/i=18\/i=19\/i=20\/i=21\/i=22\/i=23\/i=24\/i=25\/i=26\/i=27\/i=28\/i=29\/i=30\/i=31\/i=32\/i=33\/i=34\/i=35:=by omega
theorem Zt1(i:Nat)(h:i<20):i=0\/i=1\/i=2\/i=3\/i=4\/i=5\/i=6\/i=7\/i=8\/i=9\/i=10\/i=11\/i=12\/i=13\/i=14\/i=15\/i=16\/i=17\/i=18\/i=19:=by omega
theorem Zsm(t:Array Value)(h:t.size=164):∃ f:Nat->Value,t=#[f 0,f 1,f 2,f 3,f 4,f 5,f 6,f 7,f 8,f 9,f 10,f 11,f 12,f 13,f 14,f 15,f 16,f 17,f 18,f 19,f 20,f 21,f 22,f 23,f 24,f 25,f 26,f 27,f 28,f 29,f 30,f 31,f 32,f 33,f 34,f 35,f 36,f 37,f 38,f 39,f 40,f 41,f 42,f 43,f 44,f 45,f 46,f 47,f 48,f 49,f 50,f 51,f 52,f 53,f 54,f 55,f 56,f 57,f 58,f 59,f 60,f 61,f 62,f 63,f 64,f 65,f 66,f 67,f 68,f 69,f 70,f 71,f 72,f 73,f 74,f 75,f 76,f 77,f 78,f 79,f 80,f 81,f 82,f 83,f 84,f 85,f 86,f 87,f 88,f 89,f 90,f 91,f 92,f 93,f 94,f 95,f 96,f 97,f 98,f 99,f 100,f 101,f 102,f 103,f 104,f 105,f 106,f 107,f 108,f 109,f 110,f 111,f 112,f 113,f 114,f 115,f 116,f 117,f 118,f 119,f 120,f 121,f 122,f 123,f 124,f 125,f 126,f 127,f 128,f 129,f 130,f 131,f 132,f 133,f 134,f 135,f 136,f 137,f 138,f 139,f 140,f 141,f 142,f 143,f 144,f 145,f 146,f 147,f 148,f 149,f 150,f 151,f 152,f 153,f 154,f 155,f 156,f 157,f 158,f 159,f 160,f 161,f 162,f 163]:=by
 obtain⟨l⟩:=t;have hl:l.length=164:=h
 have e:l=(List.range 164).map (fun i=>l.getD i undef):=by
  apply List.ext_getElem
  ·simp[hl]
  ·intro i h1 h2
   simp[List.getD,h1]
 exact⟨fun i=>l.getD i undef,congrArg List.toArray e⟩
def Z0z(gw:Nat)(gc:Nat)(ccs:List Value)(i:Nat)(W:World)(v:Value):Prop:=match i with
 | 0=>v = .agg ccs.toArray
 | 1=>v = .agg #[.int .i64 0,.int .i64 0,.int .i64 1,.int .i64 (-1)]
 | 2=>v = .slice (some ⟨gw,0,none⟩) 1 1
 | 3=>∃ o cap,v = .tuple #[.slice o 0 cap,.int .i64 0]/\Zan Zbg W o []
 | 4=>∃ o cap,v = .tuple #[.slice o 0 cap,.int .i64 0]/\Zan Zbg W o []
 | 5=>∃ o cap,v = .slice o 0 cap/\Zan Zbg W o []
 | 6=>v = .int .i64 0
 | 7=>∃ o cap,v = .slice o 0 cap/\Zan Zbg W o []
 | 8=>v = .int .i64 0
 | _=>True
theorem Zx2(gw:Nat)(gc:Nat)(ccs:List Value):∀ i w w' v,Z0z gw gc ccs i w v->Below w.heap.size w w'->Z0z gw gc ccs i w' v:=by
 intro i w w' v h hb
 match i with
 | 0=>exact h
 | 1=>exact h
 | 2=>exact h
 | 3=>obtain⟨o,cap,h1,h2⟩:=h;exact⟨o,cap,h1,h2.below hb⟩
 | 4=>obtain⟨o,cap,h1,h2⟩:=h;exact⟨o,cap,h1,h2.below hb⟩
 | 5=>obtain⟨o,cap,h1,h2⟩:=h;exact⟨o,cap,h1,h2.below hb⟩
 | 6=>exact h
 | 7=>obtain⟨o,cap,h1,h2⟩:=h;exact⟨o,cap,h1,h2.below hb⟩
 | 8=>exact h
 | k+9=>trivial
def Z00(gw:Nat)(gc:Nat)(ccs:List Value)(i:Nat)(W:World)(v:Value):Prop:=match i with
 | 0=>v = .agg ccs.toArray
 | 1=>v = .agg #[.int .i64 0,.int .i64 0,.int .i64 0,.int .i64 (-1)]
 | 2=>v = .slice (some ⟨gw,0,none⟩) 1 1
 | 3=>∃ o cap,v = .tuple #[.slice o 2 cap,.int .i64 0]/\Zan Zbg W o [0,1]
 | 4=>∃ o cap,v = .tuple #[.slice o 2 cap,.int .i64 0]/\Zan Zbg W o [0,1]
 | 5=>∃ o cap,v = .slice o 2 cap/\Zan Zbg W o [0,1]
 | 6=>v = .int .i64 0
 | 7=>∃ o cap,v = .slice o 2 cap/\Zan Zbg W o [0,1]
 | 8=>v = .int .i64 0
 | _=>True
theorem Zx3(gw:Nat)(gc:Nat)(ccs:List Value):∀ i w w' v,Z00 gw gc ccs i w v->Below w.heap.size w w'->Z00 gw gc ccs i w' v:=by
 intro i w w' v h hb
 match i with
 | 0=>exact h
 | 1=>exact h
 | 2=>exact h
 | 3=>obtain⟨o,cap,h1,h2⟩:=h;exact⟨o,cap,h1,h2.below hb⟩
 | 4=>obtain⟨o,cap,h1,h2⟩:=h;exact⟨o,cap,h1,h2.below hb⟩
 | 5=>obtain⟨o,cap,h1,h2⟩:=h;exact⟨o,cap,h1,h2.below hb⟩
 | 6=>exact h
 | 7=>obtain⟨o,cap,h1,h2⟩:=h;exact⟨o,cap,h1,h2.below hb⟩
 | 8=>exact h
 | k+9=>trivial
def Z01(gw:Nat)(gc:Nat)(ccs:List Value)(i:Nat)(W:World)(v:Value):Prop:=match i with
 | 0=>v = .bool true
 | 1=>v = .bool false
 | 2=>v = .bool false
 | 3=>v = .bool true
 | 4=>v = .bool false
 | 5=>v = .bool false
 | 6=>v = .bool false
 | 7=>v = .bool true
 | 8=>v = .bool false
 | 9=>v = .bool false
 | 10=>v = .bool false
 | 11=>v = .bool true
 | 12=>v = .bool false
 | 13=>v = .bool false
 | 14=>v = .bool false
 | 15=>v = .int .i64 0
 | 16=>v = .bool false
 | 17=>v = .bool false
 | 18=>v = .bool false
 | 19=>v = .int .i64 0
 | 20=>v = .bool false
 | 21=>v = .bool false
 | 22=>v = .bool false
 | 23=>v = .bool true
 | 24=>v = .bool false
 | 25=>v = .bool false
 | 26=>v = .bool false
 | 27=>v = .int .i64 3
 | 28=>v = .bool false
 | 29=>v = .bool false
 | 30=>v = .bool false
 | 31=>v = .agg ccs.toArray
 | 32=>v = .agg #[.int .i64 0,.int .i64 0,.int .i64 1,.int .i64 (-1)]
 | 33=>v = .slice (some ⟨gw,0,none⟩) 1 1
 | 34=>v = .bool false
 | 35=>v = .bool false
 | _=>True
theorem Zt2(gw:Nat)(gc:Nat)(ccs:List Value):∀ i w w' v,Z01 gw gc ccs i w v->Below w.heap.size w w'->Z01 gw gc ccs i w' v:=by
 intro i w w' v h hb
 match i with
 | 0=>exact h
 | 1=>exact h
 | 2=>exact h
 | 3=>exact h
 | 4=>exact h
 | 5=>exact h
 | 6=>exact h
 | 7=>exact h
 | 8=>exact h
 | 9=>exact h
 | 10=>exact h
 | 11=>exact h
 | 12=>exact h
 | 13=>exact h
 | 14=>exact h
 | 15=>exact h
 | 16=>exact h
 | 17=>exact h
 | 18=>exact h
 | 19=>exact h
 | 20=>exact h
 | 21=>exact h
 | 22=>exact h
 | 23=>exact h
 | 24=>exact h
 | 25=>exact h
 | 26=>exact h
 | 27=>exact h
 | 28=>exact h
 | 29=>exact h
 | 30=>exact h
 | 31=>exact h
 | 32=>exact h
 | 33=>exact h
 | 34=>exact h
 | 35=>exact h
 | k+36=>trivial
def Zj8(gc:Nat)(ccs:List Value)(o3:Option Addr)(c3:Nat)(i:Nat)(W:World)(v:Value):Prop:=match i with
 | 0=>v = .slice o3 2 c3
 | 1=>∃ g,v = .slice (some ⟨g,0,none⟩) 2 2/\Zan Zbg W (some ⟨g,0,none⟩) [0,2]
 | 2=>v = .bool true
 | 3=>v = .bool true
 | 4=>v = .agg #[.int .i64 0,.int .i64 0,.int .i64 1,.int .i64 (-1)]
 | 5=>v = .agg #[.int .i64 1,.int .i64 0,.int .i64 0,.int .i64 (-1)]
 | 6=>∃ g,v = .slice (some ⟨g,0,none⟩) 2 2/\Zan Zcg W (some ⟨g,0,none⟩) [usE 0 1,usE 1 0]
 | 7=>∃ cs,v = .agg cs.toArray/\Zhs W (exC [usE 0 1,usE 1 0]) cs
 | 8=>∃ o cap,v = .slice o 2 cap/\Zan Zbg W o [0,2]
 | 9=>∃ g,v = .slice (some ⟨g,0,none⟩) 2 2/\Zan Zbg W (some ⟨g,0,none⟩) [0,2]
 | 10=>v = .bool true
 | 11=>v = .bool true
 | 12=>v = .bool true
 | 13=>v = .agg ccs.toArray
 | 14=>v = .agg #[.int .i64 0,.int .i64 0,.int .i64 1,.int .i64 (-1)]
 | 15=>∃ o cap,v = .slice o 1 cap/\Zan Zbg W o [0]
 | 16=>∃ g,v = .slice (some ⟨g,0,none⟩) 1 1/\Zan Zbg W (some ⟨g,0,none⟩) [0]
 | 17=>v = .bool true
 | 18=>v = .bool true
 | 19=>v = .bool true
 | _=>True
theorem Zt3(gc:Nat)(ccs:List Value)(o3:Option Addr)(c3:Nat):∀ i w w' v,Zj8 gc ccs o3 c3 i w v->Below w.heap.size w w'->Zj8 gc ccs o3 c3 i w' v:=by
 intro i w w' v h hb
 match i with
 | 0=>exact h
 | 1=>obtain⟨g,h1,h2⟩:=h;exact⟨g,h1,h2.below hb⟩
 | 2=>exact h
 | 3=>exact h
 | 4=>exact h
 | 5=>exact h
 | 6=>obtain⟨g,h1,h2⟩:=h;exact⟨g,h1,h2.below hb⟩
 | 7=>obtain⟨cs,h1,h2⟩:=h;exact⟨cs,h1,h2.below hb⟩
 | 8=>obtain⟨o,cap,h1,h2⟩:=h;exact⟨o,cap,h1,h2.below hb⟩
 | 9=>obtain⟨g,h1,h2⟩:=h;exact⟨g,h1,h2.below hb⟩
 | 10=>exact h
 | 11=>exact h
 | 12=>exact h
 | 13=>exact h
 | 14=>exact h
 | 15=>obtain⟨o,cap,h1,h2⟩:=h;exact⟨o,cap,h1,h2.below hb⟩
 | 16=>obtain⟨g,h1,h2⟩:=h;exact⟨g,h1,h2.below hb⟩
 | 17=>exact h
 | 18=>exact h
 | 19=>exact h
 | k+20=>trivial
theorem Zx4(w:World)(B:Nat)(hG:Tab w B):Calls Tryz.prog 18 #[] w fun e w'=>e = .returned (.bool true)/\Below w.heap.size w w':=by
 have BW:=ħ (đc w.heap.size w);have LV:Hid (∀ W,Below w.heap.size w W->True):=ħ (fun _ _=>trivial);have HG:=ħ hG;clear hG
 go_enter Tryz.func18,Tryz.ntmps18
 go_wp2_with fail
 refine(Za9 _ _ _).mono ?_;rintro e y1 ⟨rfl,b⟩;replace BW:=ħ (BW.o.trans ((b).mono BW.o.size));replace LV:=ħ (fun W (hW:Below y1.heap.size y1 W)=>LV.o W ((b).trans (hW.mono (b).size)));clear b;obtain⟨V0,V1,V2,bv⟩:=Z3q y1 39 3 33 [.int .i64 0,.int .i64 0,.int .i64 0,.int .i64 (-1)] [.int .i64 0,.int .i64 1] [.slice (some ⟨y1.heap.size+1,0,none⟩) 2 2]
 go_wp2_with fail
 refine(Zhc _ B (Zbw.step (w:=w) HG.o (BW.o.trans (bv.mono BW.o.size))) [usE 0 0] _ 1 [[0,1]] _ 1 2 (Zbd [usE 0 0] V0 rfl) (by decide) (by decide) (Znj (rows:=[[0,1]]) V2 (fun i row hi=>match i,hi with | 0,hi=>by obtain rfl:=đa hi;exact⟨_,_,rfl,Zbd [0,1] V1 rfl⟩)) es1 ec1 ⟨by decide,by decide⟩).mono ?_;rintro e y2 ⟨rfl,b⟩;replace BW:=ħ (BW.o.trans ((bv.trans (b.mono bv.size)).mono BW.o.size));replace LV:=ħ (fun W (hW:Below y2.heap.size y2 W)=>LV.o W ((bv.trans (b.mono bv.size)).trans (hW.mono (bv.trans (b.mono bv.size)).size)));clear b bv V0 V1 V2
 go_wp2_with fail
 refine(Za9 _ _ _).mono ?_;rintro e y3 ⟨rfl,b⟩;replace BW:=ħ (BW.o.trans ((b).mono BW.o.size));replace LV:=ħ (fun W (hW:Below y3.heap.size y3 W)=>LV.o W ((b).trans (hW.mono (b).size)));clear b;obtain⟨V0,V1,V2,bv⟩:=Z3q y3 39 3 33 [.int .i64 0,.int .i64 0,.int .i64 1,.int .i64 (-1)] [.int .i64 0] [.slice (some ⟨y3.heap.size+1,0,none⟩) 1 1]
 go_wp2_with fail
 refine(Zhc _ B (Zbw.step (w:=w) HG.o (BW.o.trans (bv.mono BW.o.size))) [usE 0 1] _ 1 [[0]] _ 1 1 (Zbd [usE 0 1] V0 rfl) (by decide) (by decide) (Znj (rows:=[[0]]) V2 (fun i row hi=>match i,hi with | 0,hi=>by obtain rfl:=đa hi;exact⟨_,_,rfl,Zbd [0] V1 rfl⟩)) es2 ec2 ⟨by decide,by decide⟩).mono ?_;rintro e y4 ⟨rfl,b⟩;replace BW:=ħ (BW.o.trans ((bv.trans (b.mono bv.size)).mono BW.o.size));replace LV:=ħ (fun W (hW:Below y4.heap.size y4 W)=>LV.o W ((bv.trans (b.mono bv.size)).trans (hW.mono (bv.trans (b.mono bv.size)).size)));clear b bv V0 V1 V2
 go_wp2_with fail
 refine(Za9 _ _ _).mono ?_;rintro e y5 ⟨rfl,b⟩;replace BW:=ħ (BW.o.trans ((b).mono BW.o.size));replace LV:=ħ (fun W (hW:Below y5.heap.size y5 W)=>LV.o W ((b).trans (hW.mono (b).size)));clear b
 go_wp2_with fail
 refine(Za9 _ _ _).mono ?_;rintro e y6 ⟨rfl,b⟩;replace BW:=ħ (BW.o.trans ((b).mono BW.o.size));replace LV:=ħ (fun W (hW:Below y6.heap.size y6 W)=>LV.o W ((b).trans (hW.mono (b).size)));clear b;obtain⟨V0,V1,V2,V3,bv⟩:=Z4p y6 39 3 3 33 [.int .i64 0,.int .i64 0,.int .i64 0,.int .i64 (-1),.int .i64 1,.int .i64 0,.int .i64 0,.int .i64 (-1)] [.int .i64 0,.int .i64 1] [.int .i64 0,.int .i64 2] [.slice (some ⟨y6.heap.size+1,0,none⟩) 2 2,.slice (some ⟨y6.heap.size+2,0,none⟩) 2 2]
 go_wp2_with fail
 refine(Zhc _ B (Zbw.step (w:=w) HG.o (BW.o.trans (bv.mono BW.o.size))) [usE 0 0,usE 1 0] _ 2 [[0,1],[0,2]] _ 2 3 (Zbd [usE 0 0,usE 1 0] V0 rfl) (by decide) (by decide) (Znj (rows:=[[0,1],[0,2]]) V3 (fun i row hi=>match i,hi with | 0,hi=>by obtain rfl:=đa hi;exact⟨_,_,rfl,Zbd [0,1] V1 rfl⟩ | 1,hi=>by obtain rfl:=đa hi;exact⟨_,_,rfl,Zbd [0,2] V2 rfl⟩)) es3 ec3 ⟨by decide,by decide⟩).mono ?_;rintro e y7 ⟨rfl,b⟩;replace BW:=ħ (BW.o.trans ((bv.trans (b.mono bv.size)).mono BW.o.size));replace LV:=ħ (fun W (hW:Below y7.heap.size y7 W)=>LV.o W ((bv.trans (b.mono bv.size)).trans (hW.mono (bv.trans (b.mono bv.size)).size)));clear b bv V0 V1 V2 V3
 go_wp2_with fail
 refine(Za9 _ _ _).mono ?_;rintro e y8 ⟨rfl,b⟩;replace BW:=ħ (BW.o.trans ((b).mono BW.o.size));replace LV:=ħ (fun W (hW:Below y8.heap.size y8 W)=>LV.o W ((b).trans (hW.mono (b).size)));clear b
 go_wp2_with fail
 refine(Za9 _ _ _).mono ?_;rintro e y9 ⟨rfl,b⟩;replace BW:=ħ (BW.o.trans ((b).mono BW.o.size));replace LV:=ħ (fun W (hW:Below y9.heap.size y9 W)=>LV.o W ((b).trans (hW.mono (b).size)));clear b
 go_wp2_with fail
 refine(Za9 _ _ _).mono ?_;rintro e y10 ⟨rfl,b⟩;replace BW:=ħ (BW.o.trans ((b).mono BW.o.size));replace LV:=ħ (fun W (hW:Below y10.heap.size y10 W)=>LV.o W ((b).trans (hW.mono (b).size)));clear b;obtain⟨V0,V1,V2,V3,V4,bv⟩:=Z4q y10 39 3 3 3 33 [.int .i64 0,.int .i64 0,.int .i64 0,.int .i64 (-1),.int .i64 1,.int .i64 0,.int .i64 0,.int .i64 (-1),.int .i64 1,.int .i64 0,.int .i64 0,.int .i64 (-1)] [.int .i64 1] [.int .i64 0,.int .i64 2] [.int .i64 0,.int .i64 2] [.slice (some ⟨y10.heap.size+1,0,none⟩) 1 1,.slice (some ⟨y10.heap.size+2,0,none⟩) 2 2,.slice (some ⟨y10.heap.size+3,0,none⟩) 2 2]
 go_wp2_with fail
 refine(Zhc _ B (Zbw.step (w:=w) HG.o (BW.o.trans (bv.mono BW.o.size))) [usE 0 0,usE 1 0,usE 1 0] _ 3 [[1],[0,2],[0,2]] _ 3 2 (Zbd [usE 0 0,usE 1 0,usE 1 0] V0 rfl) (by decide) (by decide) (Znj (rows:=[[1],[0,2],[0,2]]) V4 (fun i row hi=>match i,hi with | 0,hi=>by obtain rfl:=đa hi;exact⟨_,_,rfl,Zbd [1] V1 rfl⟩ | 1,hi=>by obtain rfl:=đa hi;exact⟨_,_,rfl,Zbd [0,2] V2 rfl⟩ | 2,hi=>by obtain rfl:=đa hi;exact⟨_,_,rfl,Zbd [0,2] V3 rfl⟩)) es4 ec4 ⟨by decide,by decide⟩).mono ?_;rintro e y11 ⟨rfl,b⟩;replace BW:=ħ (BW.o.trans ((bv.trans (b.mono bv.size)).mono BW.o.size));replace LV:=ħ (fun W (hW:Below y11.heap.size y11 W)=>LV.o W ((bv.trans (b.mono bv.size)).trans (hW.mono (bv.trans (b.mono bv.size)).size)));clear b bv V0 V1 V2 V3 V4
 go_wp2_with fail
 refine(Za9 _ _ _).mono ?_;rintro e y12 ⟨rfl,b⟩;replace BW:=ħ (BW.o.trans ((b).mono BW.o.size));replace LV:=ħ (fun W (hW:Below y12.heap.size y12 W)=>LV.o W ((b).trans (hW.mono (b).size)));clear b
 go_wp2_with fail
 refine(Za9 _ _ _).mono ?_;rintro e y13 ⟨rfl,b⟩;replace BW:=ħ (BW.o.trans ((b).mono BW.o.size));replace LV:=ħ (fun W (hW:Below y13.heap.size y13 W)=>LV.o W ((b).trans (hW.mono (b).size)));clear b;obtain⟨V0,bv⟩:=Zj7 y13 39 [.int .i64 0,.int .i64 0,.int .i64 0,.int .i64 (-1),.int .i64 1,.int .i64 0,.int .i64 0,.int .i64 (-1)]
 go_wp2_with fail
 refine(Zdc _ [usE 0 0,usE 1 0] _ 2 (Zbd [usE 0 0,usE 1 0] V0 rfl) (by decide)).mono ?_;rintro e y14 ⟨⟨acs,rfl,hcs⟩,b⟩;replace BW:=ħ (BW.o.trans ((bv.trans (b.mono bv.size)).mono BW.o.size));replace LV:=ħ (fun W (hW:Below y14.heap.size y14 W)=>LV.o W ((bv.trans (b.mono bv.size)).trans (hW.mono (bv.trans (b.mono bv.size)).size)));have HCS:=ħ hcs;clear b bv V0 hcs;obtain⟨V0,bv⟩:=Zj7 y14 3 [.int .i64 (-1),.int .i64 (-1)]
 go_wp2_with fail
 refine(Z2t _ (exC [usE 0 0,usE 1 0]) acs B [-1,-1] _ 2 (Zj6 (HCS.o.below bv) (Zbw.step (w:=w) HG.o (BW.o.trans (bv.mono BW.o.size))) (by decide)) (Zbd [-1,-1] V0 rfl)).mono ?_;intro e y15 hq;obtain⟨b,o3,c3,rfl,hf⟩:=Z5f hq;replace BW:=ħ (BW.o.trans ((bv.trans (b.mono bv.size)).mono BW.o.size));replace LV:=ħ (fun W (hW:Below y15.heap.size y15 W)=>LV.o W ((bv.trans (b.mono bv.size)).trans (hW.mono (bv.trans (b.mono bv.size)).size)));replace LV:=ħ (fun W (hW:Below y15.heap.size y15 W)=>And.intro (show Zan Zbg W o3 [0,2] from hf.below hW) (LV.o W hW));clear hq b bv V0 hf HCS
 go_wp2_with fail
 refine(Za9 _ _ _).mono ?_;rintro e y16 ⟨rfl,b⟩;replace BW:=ħ (BW.o.trans ((b).mono BW.o.size));replace LV:=ħ (fun W (hW:Below y16.heap.size y16 W)=>LV.o W ((b).trans (hW.mono (b).size)));clear b
 go_wp2_with fail
 refine(Za9 _ _ _).mono ?_;rintro e y17 ⟨rfl,b⟩;replace BW:=ħ (BW.o.trans ((b).mono BW.o.size));replace LV:=ħ (fun W (hW:Below y17.heap.size y17 W)=>LV.o W ((b).trans (hW.mono (b).size)));clear b
 go_wp2_with fail
 refine(Za9 _ _ _).mono ?_;rintro e y18 ⟨rfl,b⟩;replace BW:=ħ (BW.o.trans ((b).mono BW.o.size));replace LV:=ħ (fun W (hW:Below y18.heap.size y18 W)=>LV.o W ((b).trans (hW.mono (b).size)));clear b;obtain⟨V0,bv⟩:=Zj7 y18 39 [.int .i64 0,.int .i64 0,.int .i64 0,.int .i64 (-1),.int .i64 1,.int .i64 0,.int .i64 0,.int .i64 (-1),.int .i64 1,.int .i64 0,.int .i64 0,.int .i64 (-1)]
 go_wp2_with fail
 refine(Zdc _ [usE 0 0,usE 1 0,usE 1 0] _ 3 (Zbd [usE 0 0,usE 1 0,usE 1 0] V0 rfl) (by decide)).mono ?_;rintro e y19 ⟨⟨bcs,rfl,hcs⟩,b⟩;replace BW:=ħ (BW.o.trans ((bv.trans (b.mono bv.size)).mono BW.o.size));replace LV:=ħ (fun W (hW:Below y19.heap.size y19 W)=>LV.o W ((bv.trans (b.mono bv.size)).trans (hW.mono (bv.trans (b.mono bv.size)).size)));have HCS:=ħ hcs;clear b bv V0 hcs;obtain⟨V0,bv⟩:=Zj7 y19 3 [.int .i64 0,.int .i64 1,.int .i64 2]
 go_wp2_with fail
 refine(Ztq _ (exC [usE 0 0,usE 1 0,usE 1 0]) bcs B 0 0 [0,1,2] _ 3 (Zj6 (HCS.o.below bv) (Zbw.step (w:=w) HG.o (BW.o.trans (bv.mono BW.o.size))) (by decide)) (Zbd [0,1,2] V0 rfl) (by decide)).mono ?_;rintro e y20 ⟨rfl,b⟩;replace BW:=ħ (BW.o.trans ((bv.trans (b.mono bv.size)).mono BW.o.size));replace LV:=ħ (fun W (hW:Below y20.heap.size y20 W)=>LV.o W ((bv.trans (b.mono bv.size)).trans (hW.mono (bv.trans (b.mono bv.size)).size)));rw[ebl];clear b bv V0 HCS;obtain⟨V0,bv⟩:=Zj7 y20 79 [.int .i64 (-1),.int .i64 2]
 go_upto_region 6 with(fail)
 generalize y20.alloc (.cells #[.int .i64 (-1),.int .i64 2] 79)=y21 at *;replace BW:=ħ (BW.o.trans ((bv).mono BW.o.size));replace LV:=ħ (fun W (hW:Below y21.heap.size y21 W)=>LV.o W ((bv).trans (hW.mono (bv).size)));replace LV:=ħ (fun W (hW:Below y21.heap.size y21 W)=>And.intro (show Zan Z1l W (some ⟨y20.heap.size,0,none⟩) Z1m from(Zbd Z1m V0 rfl).below hW) (LV.o W hW));clear bv V0
 go_wp2_with fail
 refine(Za9 _ _ _).mono ?_;rintro e y22 ⟨rfl,b⟩;replace BW:=ħ (BW.o.trans ((b).mono BW.o.size));replace LV:=ħ (fun W (hW:Below y22.heap.size y22 W)=>LV.o W ((b).trans (hW.mono (b).size)));clear b;obtain⟨V0,bv⟩:=Zj7 y22 39 [.int .i64 1,.int .i64 0,.int .i64 0,.int .i64 (-1)]
 go_wp2_with fail
 refine(Zdc _ [usE 1 0] _ 1 (Zbd [usE 1 0] V0 rfl) (by decide)).mono ?_;rintro e y23 ⟨⟨ccs,rfl,hcs⟩,b⟩;replace BW:=ħ (BW.o.trans ((bv.trans (b.mono bv.size)).mono BW.o.size));replace LV:=ħ (fun W (hW:Below y23.heap.size y23 W)=>LV.o W ((bv.trans (b.mono bv.size)).trans (hW.mono (bv.trans (b.mono bv.size)).size)));have HCS:=ħ hcs;clear b bv V0 hcs;have X1:Hid (Zae (y23.alloc (.cells #[.slice none 0 0,.slice none 0 0,.slice none 0 0] 26)) y23.heap.size 26 [.slice none 0 0,.slice none 0 0,.slice none 0 0]):=ħ (heap_alloc_new y23 _);have BX:=ħ ((đc y23.heap.size y23).alloc (đd _) (.cells #[.slice none 0 0,.slice none 0 0,.slice none 0 0] 26))
 go_upto_region 7 with(refine Zaq rfl 26 (.tmp 7) (.tmp 66) rfl y23.heap.size ccs.toArray (by rfl) (by rfl) 26 _ X1.o HCS.o.inf HCS.o.three HCS.o.one ?_;intro y24 s9 u9;have S9:=ħ s9;have U9:=ħ u9;clear s9 u9)
 have b:=U9.o.below BX.o (đd _);have hbox:Z2v y24 y23.heap.size (exC [usE 1 0]) ccs:=⟨S9.o,HCS.o.below b⟩;replace BW:=ħ (BW.o.trans ((b).mono BW.o.size));replace LV:=ħ (fun W (hW:Below y24.heap.size y24 W)=>LV.o W ((b).trans (hW.mono (b).size)));replace LV:=ħ (fun W (hW:Below y24.heap.size y24 W)=>And.intro (show Z2v W y23.heap.size (exC [usE 1 0]) ccs from hbox.below hW) (LV.o W hW));clear hbox b S9 U9 X1 BX HCS
 go_wp2_with fail
 refine(Za9 _ _ _).mono ?_;rintro e y25 ⟨rfl,b⟩;replace BW:=ħ (BW.o.trans ((b).mono BW.o.size));replace LV:=ħ (fun W (hW:Below y25.heap.size y25 W)=>LV.o W ((b).trans (hW.mono (b).size)));clear b
 go_wp2_with fail
 refine(Za9 _ _ _).mono ?_;rintro e y26 ⟨rfl,b⟩;replace BW:=ħ (BW.o.trans ((b).mono BW.o.size));replace LV:=ħ (fun W (hW:Below y26.heap.size y26 W)=>LV.o W ((b).trans (hW.mono (b).size)));clear b;obtain⟨V0,bv⟩:=Zj7 y26 39 [.int .i64 1,.int .i64 0,.int .i64 0,.int .i64 (-1),.int .i64 1,.int .i64 0,.int .i64 0,.int .i64 (-1)]
 go_wp2_with fail
 refine(Zdc _ [usE 1 0,usE 1 0] _ 2 (Zbd [usE 1 0,usE 1 0] V0 rfl) (by decide)).mono ?_;rintro e y27 ⟨⟨dcs,rfl,hcs⟩,b⟩;replace BW:=ħ (BW.o.trans ((bv.trans (b.mono bv.size)).mono BW.o.size));replace LV:=ħ (fun W (hW:Below y27.heap.size y27 W)=>LV.o W ((bv.trans (b.mono bv.size)).trans (hW.mono (bv.trans (b.mono bv.size)).size)));have HCS:=ħ hcs;clear b bv V0 hcs;have X1:Hid (Zae (y27.alloc (.cells #[.slice none 0 0,.slice none 0 0,.slice none 0 0] 26)) y27.heap.size 26 [.slice none 0 0,.slice none 0 0,.slice none 0 0]):=ħ (heap_alloc_new y27 _);have BX:=ħ ((đc y27.heap.size y27).alloc (đd _) (.cells #[.slice none 0 0,.slice none 0 0,.slice none 0 0] 26))
 go_upto_region 8 with(refine Zaq rfl 26 (.tmp 8) (.tmp 70) rfl y27.heap.size dcs.toArray (by rfl) (by rfl) 26 _ X1.o HCS.o.inf HCS.o.three HCS.o.one ?_;intro y28 s9 u9;have S9:=ħ s9;have U9:=ħ u9;clear s9 u9)
 have b:=U9.o.below BX.o (đd _);have hbox:Z2v y28 y27.heap.size (exC [usE 1 0,usE 1 0]) dcs:=⟨S9.o,HCS.o.below b⟩;replace BW:=ħ (BW.o.trans ((b).mono BW.o.size));replace LV:=ħ (fun W (hW:Below y28.heap.size y28 W)=>LV.o W ((b).trans (hW.mono (b).size)));replace LV:=ħ (fun W (hW:Below y28.heap.size y28 W)=>And.intro (show Z2v W y27.heap.size (exC [usE 1 0,usE 1 0]) dcs from hbox.below hW) (LV.o W hW));clear hbox b S9 U9 X1 BX HCS;refine Za3 (Z0z (y20.heap.size) (y23.heap.size) ccs) (by kernel_rfl) (Zx2 (y20.heap.size) (y23.heap.size) ccs) (Zbr (by kernel_rfl)) (Zf5 (by kernel_rfl)) (Zax (by kernel_rfl)) ?hs ?he
 case hs =>
  intro i o hi listed a' w' H hl2;have hl3:=Zap hl2;have hin:i<9:=(đp.1 hi).1;have hb:=ħ H.below;have s6:=H.same 6 (Zam (by kernel_rfl));have s7:=H.same 7 (Zam (by kernel_rfl));have hdn:=H.done;have hdf:=H.defers;have hts:=H.tsize;clear hl2 H;obtain⟨t',df⟩:=a';obtain⟨f',rfl⟩:=Zsm t' hts;have hdf':df=[]:=hdf;subst hdf';have gs6:f' 6 = .slice (some ⟨(y20.heap.size),0,none⟩) 1 1:=s6;have gs7:f' 7 = .pointer (some ⟨(y23.heap.size),0,none⟩):=s7;clear s6 s7;clear hdf hts;have hcases:=Zjx i hin;clear hin;rcases hcases with rfl | rfl | rfl | rfl | rfl | rfl | rfl | rfl | rfl
  ·obtain rfl:=đa hi
   clear hdn hl3;rw[gs7];clear gs6 gs7;have X2:=(LV.o w' hb.o).2.1;refine Zab rfl ?_
   go_wp2_with (refine wpList_load_row rfl 26 (.tmp 7) rfl (y23.heap.size) ?x1 26 ccs.toArray (0,0) _ X2.1 Tryz.underlying26 rfl X2.2.inf ?_;(case x1=>rfl))
   exact Zaa ⟨_,rfl,đc _ _,rfl⟩
  ·obtain rfl:=đa hi
   clear hdn hl3;clear gs6 gs7;refine Zab rfl ?_
   go_wp2_with fail
   refine(Za9 _ _ w').mono ?_;rintro e w4 ⟨rfl,b4⟩;have HB4:=ħ b4;clear b4
   go_wp2_with fail
   exact Zaa ⟨_,rfl,HB4.o,rfl⟩
  ·obtain rfl:=đa hi
   clear hdn hl3;rw[gs6];clear gs6 gs7;refine Zab rfl ?_
   go_wp2_with fail
   exact Zaa ⟨_,rfl,đc _ _,rfl⟩
  ·obtain rfl:=đa hi
   have dv0:f' 72 = .agg ccs.toArray:=hdn 0 _ 72 rfl (hl3 0 (by rfl)) rfl;have dv1:f' 73 = .agg #[.int .i64 0,.int .i64 0,.int .i64 1,.int .i64 (-1)]:=hdn 1 _ 73 rfl (hl3 1 (by rfl)) rfl;have dv2:f' 74 = .slice (some ⟨(y20.heap.size),0,none⟩) 1 1:=hdn 2 _ 74 rfl (hl3 2 (by rfl)) rfl;clear hdn hl3;rw[dv0,dv1,dv2];clear dv0 dv1 dv2 gs6 gs7;have X2:=(LV.o w' hb.o).2.1;have XW:=(LV.o w' hb.o).2.2.1;refine Zab rfl ?_
   go_wp2_with fail
   refine(Zsl w' (exC [usE 1 0]) ccs B [] none 0 (usE 0 1) Z1m _ 1 (Zj6 X2.2 (Zbw.step (w:=w) HG.o (BW.o.trans (hb.o.mono BW.o.size))) (by decide)) (.inl rfl) (by decide) XW (by decide)).mono ?_;intro e w4 hq;rw[xe1] at hq;obtain⟨⟨o,cap,rfl,ho⟩,b4⟩:=hq;have HO:=ħ ho;have HB4:=ħ b4;clear b4 ho X2 XW
   go_wp2_with fail
   exact Zaa ⟨_,rfl,HB4.o,o,cap,rfl,HO.o⟩
  ·obtain rfl:=đa hi
   have dv3:Z0z (y20.heap.size) (y23.heap.size) ccs 3 w' (f' 75):=hdn 3 _ 75 rfl (hl3 3 (by rfl)) rfl;obtain⟨o,cap,dv3,ho⟩:=dv3;clear hdn hl3;rw[dv3];clear dv3 gs6 gs7;have HO:=ħ ho;clear ho;refine Zab rfl ?_
   go_wp2_with fail
   exact Zaa ⟨_,rfl,đc _ _,o,cap,rfl,HO.o⟩
  ·obtain rfl:=đa hi
   have dv4:Z0z (y20.heap.size) (y23.heap.size) ccs 4 w' (f' 71):=hdn 4 _ 71 rfl (hl3 4 (by rfl)) rfl;obtain⟨o,cap,dv4,ho⟩:=dv4;clear hdn hl3;rw[dv4];clear dv4 gs6 gs7;have HO:=ħ ho;clear ho;refine Zab rfl ?_
   go_wp2_with fail
   exact Zaa ⟨_,rfl,đc _ _,o,cap,rfl,HO.o⟩
  ·obtain rfl:=đa hi
   have dv4:Z0z (y20.heap.size) (y23.heap.size) ccs 4 w' (f' 71):=hdn 4 _ 71 rfl (hl3 4 (by rfl)) rfl;obtain⟨o,cap,dv4,ho⟩:=dv4;clear hdn hl3;rw[dv4];clear dv4 gs6 gs7;clear ho;refine Zab rfl ?_
   go_wp2_with fail
   exact Zaa ⟨_,rfl,đc _ _,rfl⟩
  ·obtain rfl:=đa hi
   have dv5:Z0z (y20.heap.size) (y23.heap.size) ccs 5 w' (f' 76):=hdn 5 _ 76 rfl (hl3 5 (by rfl)) rfl;obtain⟨o,cap,dv5,ho⟩:=dv5;clear hdn hl3;rw[dv5];clear dv5 gs6 gs7;have HO:=ħ ho;clear ho;refine Zab rfl ?_
   go_wp2_with fail
   exact Zaa ⟨_,rfl,đc _ _,o,cap,rfl,HO.o⟩
  ·obtain rfl:=đa hi
   have dv6:f' 77 = .int .i64 0:=hdn 6 _ 77 rfl (hl3 6 (by rfl)) rfl;clear hdn hl3;rw[dv6];clear dv6 gs6 gs7;refine Zab rfl ?_
   go_wp2_with fail
   exact Zaa ⟨_,rfl,đc _ _,rfl⟩
 case he =>
  intro listed a' y29 H hall;have hd7:Z0z (y20.heap.size) (y23.heap.size) ccs 7 y29 (a'.tmps.getD 9 undef):=H.done 7 _ 9 rfl (hall 7 (by decide)) rfl;have hd8:Z0z (y20.heap.size) (y23.heap.size) ccs 8 y29 (a'.tmps.getD 10 undef):=H.done 8 _ 10 rfl (hall 8 (by decide)) rfl;have hb4:=ħ H.below;have hact:=H.act [72,73,74,75,71,76,77,9,10] (Zdd (by kernel_rfl));clear H hall;simp only[List.foldl_cons,List.foldl_nil] at hact;generalize a'.tmps.getD 72 undef=z72 at *;generalize a'.tmps.getD 73 undef=z73 at *;generalize a'.tmps.getD 74 undef=z74 at *;generalize a'.tmps.getD 75 undef=z75 at *;generalize a'.tmps.getD 71 undef=z71 at *;generalize a'.tmps.getD 76 undef=z76 at *;generalize a'.tmps.getD 77 undef=z77 at *;generalize a'.tmps.getD 9 undef=z9 at *;generalize a'.tmps.getD 10 undef=z10 at *;subst hact;obtain⟨oL72,cL72,e7,ho⟩:=hd7;subst e7;have e8:z10 = .int .i64 0:=hd8;subst e8;clear hd8;simp only[Act.put,List.setIfInBounds_toArray,List.set_cons_succ,List.set_cons_zero];replace BW:=ħ (BW.o.trans ((hb4.o).mono BW.o.size));replace LV:=ħ (fun W (hW:Below y29.heap.size y29 W)=>LV.o W ((hb4.o).trans (hW.mono (hb4.o).size)));clear hb4;clear ho
  go_upto_region 9 with(fail)
  refine Za3 (Z00 (y20.heap.size) (y27.heap.size) dcs) (by kernel_rfl) (Zx3 (y20.heap.size) (y27.heap.size) dcs) (Zbr (by kernel_rfl)) (Zf5 (by kernel_rfl)) (Zax (by kernel_rfl)) ?hs ?he
  case hs =>
   intro i o hi listed a' w' H hl2;have hl3:=Zap hl2;have hin:i<9:=(đp.1 hi).1;have hb:=ħ H.below;have s6:=H.same 6 (Zam (by kernel_rfl));have s8:=H.same 8 (Zam (by kernel_rfl));have hdn:=H.done;have hdf:=H.defers;have hts:=H.tsize;clear hl2 H;obtain⟨t',df⟩:=a';obtain⟨f',rfl⟩:=Zsm t' hts;have hdf':df=[]:=hdf;subst hdf';have gs6:f' 6 = .slice (some ⟨(y20.heap.size),0,none⟩) 1 1:=s6;have gs8:f' 8 = .pointer (some ⟨(y27.heap.size),0,none⟩):=s8;clear s6 s8;clear hdf hts;have hcases:=Zjx i hin;clear hin;rcases hcases with rfl | rfl | rfl | rfl | rfl | rfl | rfl | rfl | rfl
   ·obtain rfl:=đa hi
    clear hdn hl3;rw[gs8];clear gs6 gs8;have X2:=(LV.o w' hb.o).1;refine Zab rfl ?_
    go_wp2_with (refine wpList_load_row rfl 26 (.tmp 8) rfl (y27.heap.size) ?x1 26 dcs.toArray (0,0) _ X2.1 Tryz.underlying26 rfl X2.2.inf ?_;(case x1=>rfl))
    exact Zaa ⟨_,rfl,đc _ _,rfl⟩
   ·obtain rfl:=đa hi
    clear hdn hl3;clear gs6 gs8;refine Zab rfl ?_
    go_wp2_with fail
    refine(Za9 _ _ w').mono ?_;rintro e w4 ⟨rfl,b4⟩;have HB4:=ħ b4;clear b4
    go_wp2_with fail
    exact Zaa ⟨_,rfl,HB4.o,rfl⟩
   ·obtain rfl:=đa hi
    clear hdn hl3;rw[gs6];clear gs6 gs8;refine Zab rfl ?_
    go_wp2_with fail
    exact Zaa ⟨_,rfl,đc _ _,rfl⟩
   ·obtain rfl:=đa hi
    have dv0:f' 79 = .agg dcs.toArray:=hdn 0 _ 79 rfl (hl3 0 (by rfl)) rfl;have dv1:f' 80 = .agg #[.int .i64 0,.int .i64 0,.int .i64 0,.int .i64 (-1)]:=hdn 1 _ 80 rfl (hl3 1 (by rfl)) rfl;have dv2:f' 81 = .slice (some ⟨(y20.heap.size),0,none⟩) 1 1:=hdn 2 _ 81 rfl (hl3 2 (by rfl)) rfl;clear hdn hl3;rw[dv0,dv1,dv2];clear dv0 dv1 dv2 gs6 gs8;have X2:=(LV.o w' hb.o).1;have XW:=(LV.o w' hb.o).2.2.1;refine Zab rfl ?_
    go_wp2_with fail
    refine(Zsl w' (exC [usE 1 0,usE 1 0]) dcs B [] none 0 (usE 0 0) Z1m _ 1 (Zj6 X2.2 (Zbw.step (w:=w) HG.o (BW.o.trans (hb.o.mono BW.o.size))) (by decide)) (.inl rfl) (by decide) XW (by decide)).mono ?_;intro e w4 hq;rw[xe2] at hq;obtain⟨⟨o,cap,rfl,ho⟩,b4⟩:=hq;have HO:=ħ ho;have HB4:=ħ b4;clear b4 ho X2 XW
    go_wp2_with fail
    exact Zaa ⟨_,rfl,HB4.o,o,cap,rfl,HO.o⟩
   ·obtain rfl:=đa hi
    have dv3:Z00 (y20.heap.size) (y27.heap.size) dcs 3 w' (f' 82):=hdn 3 _ 82 rfl (hl3 3 (by rfl)) rfl;obtain⟨o,cap,dv3,ho⟩:=dv3;clear hdn hl3;rw[dv3];clear dv3 gs6 gs8;have HO:=ħ ho;clear ho;refine Zab rfl ?_
    go_wp2_with fail
    exact Zaa ⟨_,rfl,đc _ _,o,cap,rfl,HO.o⟩
   ·obtain rfl:=đa hi
    have dv4:Z00 (y20.heap.size) (y27.heap.size) dcs 4 w' (f' 78):=hdn 4 _ 78 rfl (hl3 4 (by rfl)) rfl;obtain⟨o,cap,dv4,ho⟩:=dv4;clear hdn hl3;rw[dv4];clear dv4 gs6 gs8;have HO:=ħ ho;clear ho;refine Zab rfl ?_
    go_wp2_with fail
    exact Zaa ⟨_,rfl,đc _ _,o,cap,rfl,HO.o⟩
   ·obtain rfl:=đa hi
    have dv4:Z00 (y20.heap.size) (y27.heap.size) dcs 4 w' (f' 78):=hdn 4 _ 78 rfl (hl3 4 (by rfl)) rfl;obtain⟨o,cap,dv4,ho⟩:=dv4;clear hdn hl3;rw[dv4];clear dv4 gs6 gs8;clear ho;refine Zab rfl ?_
    go_wp2_with fail
    exact Zaa ⟨_,rfl,đc _ _,rfl⟩
   ·obtain rfl:=đa hi
    have dv5:Z00 (y20.heap.size) (y27.heap.size) dcs 5 w' (f' 83):=hdn 5 _ 83 rfl (hl3 5 (by rfl)) rfl;obtain⟨o,cap,dv5,ho⟩:=dv5;clear hdn hl3;rw[dv5];clear dv5 gs6 gs8;have HO:=ħ ho;clear ho;refine Zab rfl ?_
    go_wp2_with fail
    exact Zaa ⟨_,rfl,đc _ _,o,cap,rfl,HO.o⟩
   ·obtain rfl:=đa hi
    have dv6:f' 84 = .int .i64 0:=hdn 6 _ 84 rfl (hl3 6 (by rfl)) rfl;clear hdn hl3;rw[dv6];clear dv6 gs6 gs8;refine Zab rfl ?_
    go_wp2_with fail
    exact Zaa ⟨_,rfl,đc _ _,rfl⟩
  case he =>
   intro listed a' y30 H hall;have hd7:Z00 (y20.heap.size) (y27.heap.size) dcs 7 y30 (a'.tmps.getD 11 undef):=H.done 7 _ 11 rfl (hall 7 (by decide)) rfl;have hd8:Z00 (y20.heap.size) (y27.heap.size) dcs 8 y30 (a'.tmps.getD 12 undef):=H.done 8 _ 12 rfl (hall 8 (by decide)) rfl;have hb4:=ħ H.below;have hact:=H.act [79,80,81,82,78,83,84,11,12] (Zdd (by kernel_rfl));clear H hall;simp only[List.foldl_cons,List.foldl_nil] at hact;generalize a'.tmps.getD 79 undef=z79 at *;generalize a'.tmps.getD 80 undef=z80 at *;generalize a'.tmps.getD 81 undef=z81 at *;generalize a'.tmps.getD 82 undef=z82 at *;generalize a'.tmps.getD 78 undef=z78 at *;generalize a'.tmps.getD 83 undef=z83 at *;generalize a'.tmps.getD 84 undef=z84 at *;generalize a'.tmps.getD 11 undef=z11 at *;generalize a'.tmps.getD 12 undef=z12 at *;subst hact;obtain⟨oL79,cL79,e7,ho⟩:=hd7;subst e7;have e8:z12 = .int .i64 0:=hd8;subst e8;clear hd8;simp only[Act.put,List.setIfInBounds_toArray,List.set_cons_succ,List.set_cons_zero];replace BW:=ħ (BW.o.trans ((hb4.o).mono BW.o.size));replace LV:=ħ (fun W (hW:Below y30.heap.size y30 W)=>LV.o W ((hb4.o).trans (hW.mono (hb4.o).size)));clear hb4;replace LV:=ħ (fun W (hW:Below y30.heap.size y30 W)=>And.intro (show Zan Zbg W oL79 [0,1] from ho.below hW) (LV.o W hW));clear ho
   go_upto_region 10 with(fail)
   have X2:=ħ (LV.o y30 (đc _ _)).2.2.1;obtain⟨V0,bv⟩:=Zj7 y30 3 [.int .i64 0,.int .i64 1]
   go_wp2_with (refine wpList_load_row rfl 26 (.tmp 7) rfl (y23.heap.size) ?x1 26 ccs.toArray (0,0) _ X2.o.1 Tryz.underlying26 rfl X2.o.2.inf ?_;(case x1=>rfl))
   refine(Zpb _ (exC [usE 1 0]) ccs B [0,1] _ 2 (Zj6 (X2.o.2.below bv) (Zbw.step (w:=w) HG.o (BW.o.trans (bv.mono BW.o.size))) (by decide)) (Zbd [0,1] V0 rfl) (by decide)).mono ?_;rintro e y31 ⟨rfl,b⟩;replace BW:=ħ (BW.o.trans ((bv.trans (b.mono bv.size)).mono BW.o.size));replace LV:=ħ (fun W (hW:Below y31.heap.size y31 W)=>LV.o W ((bv.trans (b.mono bv.size)).trans (hW.mono (bv.trans (b.mono bv.size)).size)));rw[eun,eud,show((3:Nat):Int)=3 from rfl];clear X2 V0 bv b
   go_upto_region 11 with(fail)
   refine Za3 (Z01 (y20.heap.size) (y23.heap.size) ccs) (by kernel_rfl) (Zt2 (y20.heap.size) (y23.heap.size) ccs) (Zbr (by kernel_rfl)) (Zf5 (by kernel_rfl)) (Zax (by kernel_rfl)) ?hs ?he
   case hs =>
    intro i o hi listed a' w' H hl2;have hl3:=Zap hl2;have hin:i<36:=(đp.1 hi).1;have hb:=ħ H.below;have s1:=H.same 1 (Zam (by kernel_rfl));have s2:=H.same 2 (Zam (by kernel_rfl));have s4:=H.same 4 (Zam (by kernel_rfl));have s5:=H.same 5 (Zam (by kernel_rfl));have s6:=H.same 6 (Zam (by kernel_rfl));have s7:=H.same 7 (Zam (by kernel_rfl));have s10:=H.same 10 (Zam (by kernel_rfl));have s12:=H.same 12 (Zam (by kernel_rfl));have s13:=H.same 13 (Zam (by kernel_rfl));have s14:=H.same 14 (Zam (by kernel_rfl));have hdn:=H.done;have hdf:=H.defers;have hts:=H.tsize;clear hl2 H;obtain⟨t',df⟩:=a';obtain⟨f',rfl⟩:=Zsm t' hts;have hdf':df=[]:=hdf;subst hdf';have gs1:f' 1 = .bool true:=s1;have gs2:f' 2 = .bool true:=s2;have gs4:f' 4 = .bool true:=s4;have gs5:f' 5 = .bool true:=s5;have gs6:f' 6 = .slice (some ⟨(y20.heap.size),0,none⟩) 1 1:=s6;have gs7:f' 7 = .pointer (some ⟨(y23.heap.size),0,none⟩):=s7;have gs10:f' 10 = .int .i64 0:=s10;have gs12:f' 12 = .int .i64 0:=s12;have gs13:f' 13 = .int .i64 3:=s13;have gs14:f' 14 = .bool true:=s14;clear s1 s2 s4 s5 s6 s7 s10 s12 s13 s14;clear hdf hts;have hcases:=Zt0 i hin;clear hin;rcases hcases with rfl | rfl | rfl | rfl | rfl | rfl | rfl | rfl | rfl | rfl | rfl | rfl | rfl | rfl | rfl | rfl | rfl | rfl | rfl | rfl | rfl | rfl | rfl | rfl | rfl | rfl | rfl | rfl | rfl | rfl | rfl | rfl | rfl | rfl | rfl | rfl
    ·obtain rfl:=đa hi
     clear hdn hl3;rw[gs1];clear gs1 gs2 gs4 gs5 gs6 gs7 gs10 gs12 gs13 gs14;refine Zab rfl ?_
     go_wp2_with fail
     exact Zaa ⟨_,rfl,đc _ _,rfl⟩
    ·obtain rfl:=đa hi
     have dv0:f' 91 = .bool true:=hdn 0 _ 91 rfl (hl3 0 (by rfl)) rfl;clear hdn hl3;rw[dv0];clear dv0 gs1 gs2 gs4 gs5 gs6 gs7 gs10 gs12 gs13 gs14;refine Zab rfl ?_
     go_wp2_with fail
     exact Zaa ⟨_,rfl,đc _ _,rfl⟩
    ·obtain rfl:=đa hi
     have dv1:f' 92 = .bool false:=hdn 1 _ 92 rfl (hl3 1 (by rfl)) rfl;clear hdn hl3;rw[dv1];clear dv1 gs1 gs2 gs4 gs5 gs6 gs7 gs10 gs12 gs13 gs14;refine Zab rfl ?_
     go_wp2_with fail
     exact Zaa ⟨_,rfl,đc _ _,rfl⟩
    ·obtain rfl:=đa hi
     have dv2:f' 93 = .bool false:=hdn 2 _ 93 rfl (hl3 2 (by rfl)) rfl;clear hdn hl3;rw[gs2,dv2];clear dv2 gs1 gs2 gs4 gs5 gs6 gs7 gs10 gs12 gs13 gs14;refine Zab rfl ?_
     go_wp2_with fail
     exact Zaa ⟨_,rfl,đc _ _,rfl⟩
    ·obtain rfl:=đa hi
     have dv3:f' 94 = .bool true:=hdn 3 _ 94 rfl (hl3 3 (by rfl)) rfl;have dv2:f' 93 = .bool false:=hdn 2 _ 93 rfl (hl3 2 (by rfl)) rfl;clear hdn hl3;rw[dv3,dv2];clear dv3 dv2 gs1 gs2 gs4 gs5 gs6 gs7 gs10 gs12 gs13 gs14;refine Zab rfl ?_
     go_wp2_with fail
     exact Zaa ⟨_,rfl,đc _ _,rfl⟩
    ·obtain rfl:=đa hi
     have dv2:f' 93 = .bool false:=hdn 2 _ 93 rfl (hl3 2 (by rfl)) rfl;have dv4:f' 95 = .bool false:=hdn 4 _ 95 rfl (hl3 4 (by rfl)) rfl;clear hdn hl3;rw[dv2,dv4];clear dv2 dv4 gs1 gs2 gs4 gs5 gs6 gs7 gs10 gs12 gs13 gs14;refine Zab rfl ?_
     go_wp2_with fail
     exact Zaa ⟨_,rfl,đc _ _,rfl⟩
    ·obtain rfl:=đa hi
     have dv5:f' 96 = .bool false:=hdn 5 _ 96 rfl (hl3 5 (by rfl)) rfl;have dv2:f' 93 = .bool false:=hdn 2 _ 93 rfl (hl3 2 (by rfl)) rfl;clear hdn hl3;rw[dv5,dv2];clear dv5 dv2 gs1 gs2 gs4 gs5 gs6 gs7 gs10 gs12 gs13 gs14;refine Zab rfl ?_
     go_wp2_with fail
     exact Zaa ⟨_,rfl,đc _ _,rfl⟩
    ·obtain rfl:=đa hi
     have dv6:f' 97 = .bool false:=hdn 6 _ 97 rfl (hl3 6 (by rfl)) rfl;clear hdn hl3;rw[gs4,dv6];clear dv6 gs1 gs2 gs4 gs5 gs6 gs7 gs10 gs12 gs13 gs14;refine Zab rfl ?_
     go_wp2_with fail
     exact Zaa ⟨_,rfl,đc _ _,rfl⟩
    ·obtain rfl:=đa hi
     have dv7:f' 98 = .bool true:=hdn 7 _ 98 rfl (hl3 7 (by rfl)) rfl;have dv6:f' 97 = .bool false:=hdn 6 _ 97 rfl (hl3 6 (by rfl)) rfl;clear hdn hl3;rw[dv7,dv6];clear dv7 dv6 gs1 gs2 gs4 gs5 gs6 gs7 gs10 gs12 gs13 gs14;refine Zab rfl ?_
     go_wp2_with fail
     exact Zaa ⟨_,rfl,đc _ _,rfl⟩
    ·obtain rfl:=đa hi
     have dv6:f' 97 = .bool false:=hdn 6 _ 97 rfl (hl3 6 (by rfl)) rfl;have dv8:f' 99 = .bool false:=hdn 8 _ 99 rfl (hl3 8 (by rfl)) rfl;clear hdn hl3;rw[dv6,dv8];clear dv6 dv8 gs1 gs2 gs4 gs5 gs6 gs7 gs10 gs12 gs13 gs14;refine Zab rfl ?_
     go_wp2_with fail
     exact Zaa ⟨_,rfl,đc _ _,rfl⟩
    ·obtain rfl:=đa hi
     have dv9:f' 100 = .bool false:=hdn 9 _ 100 rfl (hl3 9 (by rfl)) rfl;have dv6:f' 97 = .bool false:=hdn 6 _ 97 rfl (hl3 6 (by rfl)) rfl;clear hdn hl3;rw[dv9,dv6];clear dv9 dv6 gs1 gs2 gs4 gs5 gs6 gs7 gs10 gs12 gs13 gs14;refine Zab rfl ?_
     go_wp2_with fail
     exact Zaa ⟨_,rfl,đc _ _,rfl⟩
    ·obtain rfl:=đa hi
     have dv10:f' 101 = .bool false:=hdn 10 _ 101 rfl (hl3 10 (by rfl)) rfl;clear hdn hl3;rw[gs5,dv10];clear dv10 gs1 gs2 gs4 gs5 gs6 gs7 gs10 gs12 gs13 gs14;refine Zab rfl ?_
     go_wp2_with fail
     exact Zaa ⟨_,rfl,đc _ _,rfl⟩
    ·obtain rfl:=đa hi
     have dv11:f' 102 = .bool true:=hdn 11 _ 102 rfl (hl3 11 (by rfl)) rfl;have dv10:f' 101 = .bool false:=hdn 10 _ 101 rfl (hl3 10 (by rfl)) rfl;clear hdn hl3;rw[dv11,dv10];clear dv11 dv10 gs1 gs2 gs4 gs5 gs6 gs7 gs10 gs12 gs13 gs14;refine Zab rfl ?_
     go_wp2_with fail
     exact Zaa ⟨_,rfl,đc _ _,rfl⟩
    ·obtain rfl:=đa hi
     have dv10:f' 101 = .bool false:=hdn 10 _ 101 rfl (hl3 10 (by rfl)) rfl;have dv12:f' 103 = .bool false:=hdn 12 _ 103 rfl (hl3 12 (by rfl)) rfl;clear hdn hl3;rw[dv10,dv12];clear dv10 dv12 gs1 gs2 gs4 gs5 gs6 gs7 gs10 gs12 gs13 gs14;refine Zab rfl ?_
     go_wp2_with fail
     exact Zaa ⟨_,rfl,đc _ _,rfl⟩
    ·obtain rfl:=đa hi
     have dv13:f' 104 = .bool false:=hdn 13 _ 104 rfl (hl3 13 (by rfl)) rfl;have dv10:f' 101 = .bool false:=hdn 10 _ 101 rfl (hl3 10 (by rfl)) rfl;clear hdn hl3;rw[dv13,dv10];clear dv13 dv10 gs1 gs2 gs4 gs5 gs6 gs7 gs10 gs12 gs13 gs14;refine Zab rfl ?_
     go_wp2_with fail
     exact Zaa ⟨_,rfl,đc _ _,rfl⟩
    ·obtain rfl:=đa hi
     have dv14:f' 105 = .bool false:=hdn 14 _ 105 rfl (hl3 14 (by rfl)) rfl;clear hdn hl3;rw[gs10,dv14];clear dv14 gs1 gs2 gs4 gs5 gs6 gs7 gs10 gs12 gs13 gs14;refine Zab rfl ?_
     go_wp2_with fail
     exact Zaa ⟨_,rfl,đc _ _,rfl⟩
    ·obtain rfl:=đa hi
     have dv15:f' 106 = .int .i64 0:=hdn 15 _ 106 rfl (hl3 15 (by rfl)) rfl;have dv14:f' 105 = .bool false:=hdn 14 _ 105 rfl (hl3 14 (by rfl)) rfl;clear hdn hl3;rw[dv15,dv14];clear dv15 dv14 gs1 gs2 gs4 gs5 gs6 gs7 gs10 gs12 gs13 gs14;refine Zab rfl ?_
     go_wp2_with fail
     exact Zaa ⟨_,rfl,đc _ _,rfl⟩
    ·obtain rfl:=đa hi
     have dv14:f' 105 = .bool false:=hdn 14 _ 105 rfl (hl3 14 (by rfl)) rfl;have dv16:f' 107 = .bool false:=hdn 16 _ 107 rfl (hl3 16 (by rfl)) rfl;clear hdn hl3;rw[dv14,dv16];clear dv14 dv16 gs1 gs2 gs4 gs5 gs6 gs7 gs10 gs12 gs13 gs14;refine Zab rfl ?_
     go_wp2_with fail
     exact Zaa ⟨_,rfl,đc _ _,rfl⟩
    ·obtain rfl:=đa hi
     have dv17:f' 108 = .bool false:=hdn 17 _ 108 rfl (hl3 17 (by rfl)) rfl;have dv14:f' 105 = .bool false:=hdn 14 _ 105 rfl (hl3 14 (by rfl)) rfl;clear hdn hl3;rw[dv17,dv14];clear dv17 dv14 gs1 gs2 gs4 gs5 gs6 gs7 gs10 gs12 gs13 gs14;refine Zab rfl ?_
     go_wp2_with fail
     exact Zaa ⟨_,rfl,đc _ _,rfl⟩
    ·obtain rfl:=đa hi
     have dv18:f' 109 = .bool false:=hdn 18 _ 109 rfl (hl3 18 (by rfl)) rfl;clear hdn hl3;rw[gs12,dv18];clear dv18 gs1 gs2 gs4 gs5 gs6 gs7 gs10 gs12 gs13 gs14;refine Zab rfl ?_
     go_wp2_with fail
     exact Zaa ⟨_,rfl,đc _ _,rfl⟩
    ·obtain rfl:=đa hi
     have dv19:f' 110 = .int .i64 0:=hdn 19 _ 110 rfl (hl3 19 (by rfl)) rfl;have dv18:f' 109 = .bool false:=hdn 18 _ 109 rfl (hl3 18 (by rfl)) rfl;clear hdn hl3;rw[dv19,dv18];clear dv19 dv18 gs1 gs2 gs4 gs5 gs6 gs7 gs10 gs12 gs13 gs14;refine Zab rfl ?_
     go_wp2_with fail
     exact Zaa ⟨_,rfl,đc _ _,rfl⟩
    ·obtain rfl:=đa hi
     have dv18:f' 109 = .bool false:=hdn 18 _ 109 rfl (hl3 18 (by rfl)) rfl;have dv20:f' 111 = .bool false:=hdn 20 _ 111 rfl (hl3 20 (by rfl)) rfl;clear hdn hl3;rw[dv18,dv20];clear dv18 dv20 gs1 gs2 gs4 gs5 gs6 gs7 gs10 gs12 gs13 gs14;refine Zab rfl ?_
     go_wp2_with fail
     exact Zaa ⟨_,rfl,đc _ _,rfl⟩
    ·obtain rfl:=đa hi
     have dv21:f' 112 = .bool false:=hdn 21 _ 112 rfl (hl3 21 (by rfl)) rfl;have dv18:f' 109 = .bool false:=hdn 18 _ 109 rfl (hl3 18 (by rfl)) rfl;clear hdn hl3;rw[dv21,dv18];clear dv21 dv18 gs1 gs2 gs4 gs5 gs6 gs7 gs10 gs12 gs13 gs14;refine Zab rfl ?_
     go_wp2_with fail
     exact Zaa ⟨_,rfl,đc _ _,rfl⟩
    ·obtain rfl:=đa hi
     have dv22:f' 113 = .bool false:=hdn 22 _ 113 rfl (hl3 22 (by rfl)) rfl;clear hdn hl3;rw[gs14,dv22];clear dv22 gs1 gs2 gs4 gs5 gs6 gs7 gs10 gs12 gs13 gs14;refine Zab rfl ?_
     go_wp2_with fail
     exact Zaa ⟨_,rfl,đc _ _,rfl⟩
    ·obtain rfl:=đa hi
     have dv23:f' 114 = .bool true:=hdn 23 _ 114 rfl (hl3 23 (by rfl)) rfl;have dv22:f' 113 = .bool false:=hdn 22 _ 113 rfl (hl3 22 (by rfl)) rfl;clear hdn hl3;rw[dv23,dv22];clear dv23 dv22 gs1 gs2 gs4 gs5 gs6 gs7 gs10 gs12 gs13 gs14;refine Zab rfl ?_
     go_wp2_with fail
     exact Zaa ⟨_,rfl,đc _ _,rfl⟩
    ·obtain rfl:=đa hi
     have dv22:f' 113 = .bool false:=hdn 22 _ 113 rfl (hl3 22 (by rfl)) rfl;have dv24:f' 115 = .bool false:=hdn 24 _ 115 rfl (hl3 24 (by rfl)) rfl;clear hdn hl3;rw[dv22,dv24];clear dv22 dv24 gs1 gs2 gs4 gs5 gs6 gs7 gs10 gs12 gs13 gs14;refine Zab rfl ?_
     go_wp2_with fail
     exact Zaa ⟨_,rfl,đc _ _,rfl⟩
    ·obtain rfl:=đa hi
     have dv25:f' 116 = .bool false:=hdn 25 _ 116 rfl (hl3 25 (by rfl)) rfl;have dv22:f' 113 = .bool false:=hdn 22 _ 113 rfl (hl3 22 (by rfl)) rfl;clear hdn hl3;rw[dv25,dv22];clear dv25 dv22 gs1 gs2 gs4 gs5 gs6 gs7 gs10 gs12 gs13 gs14;refine Zab rfl ?_
     go_wp2_with fail
     exact Zaa ⟨_,rfl,đc _ _,rfl⟩
    ·obtain rfl:=đa hi
     have dv26:f' 117 = .bool false:=hdn 26 _ 117 rfl (hl3 26 (by rfl)) rfl;clear hdn hl3;rw[gs13,dv26];clear dv26 gs1 gs2 gs4 gs5 gs6 gs7 gs10 gs12 gs13 gs14;refine Zab rfl ?_
     go_wp2_with fail
     exact Zaa ⟨_,rfl,đc _ _,rfl⟩
    ·obtain rfl:=đa hi
     have dv27:f' 118 = .int .i64 3:=hdn 27 _ 118 rfl (hl3 27 (by rfl)) rfl;have dv26:f' 117 = .bool false:=hdn 26 _ 117 rfl (hl3 26 (by rfl)) rfl;clear hdn hl3;rw[dv27,dv26];clear dv27 dv26 gs1 gs2 gs4 gs5 gs6 gs7 gs10 gs12 gs13 gs14;refine Zab rfl ?_
     go_wp2_with fail
     exact Zaa ⟨_,rfl,đc _ _,rfl⟩
    ·obtain rfl:=đa hi
     have dv26:f' 117 = .bool false:=hdn 26 _ 117 rfl (hl3 26 (by rfl)) rfl;have dv28:f' 119 = .bool false:=hdn 28 _ 119 rfl (hl3 28 (by rfl)) rfl;clear hdn hl3;rw[dv26,dv28];clear dv26 dv28 gs1 gs2 gs4 gs5 gs6 gs7 gs10 gs12 gs13 gs14;refine Zab rfl ?_
     go_wp2_with fail
     exact Zaa ⟨_,rfl,đc _ _,rfl⟩
    ·obtain rfl:=đa hi
     have dv29:f' 120 = .bool false:=hdn 29 _ 120 rfl (hl3 29 (by rfl)) rfl;have dv26:f' 117 = .bool false:=hdn 26 _ 117 rfl (hl3 26 (by rfl)) rfl;clear hdn hl3;rw[dv29,dv26];clear dv29 dv26 gs1 gs2 gs4 gs5 gs6 gs7 gs10 gs12 gs13 gs14;refine Zab rfl ?_
     go_wp2_with fail
     exact Zaa ⟨_,rfl,đc _ _,rfl⟩
    ·obtain rfl:=đa hi
     have dv30:f' 121 = .bool false:=hdn 30 _ 121 rfl (hl3 30 (by rfl)) rfl;clear hdn hl3;rw[gs7,dv30];clear dv30 gs1 gs2 gs4 gs5 gs6 gs7 gs10 gs12 gs13 gs14;have X2:=(LV.o w' hb.o).2.2.1;refine Zab rfl ?_
     go_wp2_with (refine Zdq (by rfl) 26 (.tmp 7) rfl (y23.heap.size) ?x1 26 ccs.toArray (0,0) _ X2.1 Tryz.underlying26 rfl X2.2.inf ?_;(case x1=>rfl))
     exact Zaa ⟨_,rfl,đc _ _,rfl⟩
    ·obtain rfl:=đa hi
     have dv30:f' 121 = .bool false:=hdn 30 _ 121 rfl (hl3 30 (by rfl)) rfl;clear hdn hl3;rw[dv30];clear dv30 gs1 gs2 gs4 gs5 gs6 gs7 gs10 gs12 gs13 gs14;refine Zab rfl ?_
     go_wp2_with fail
     refine(Za9 _ _ w').mono ?_;rintro e w4 ⟨rfl,b4⟩;have HB4:=ħ b4;clear b4
     go_wp2_with fail
     exact Zaa ⟨_,rfl,HB4.o,rfl⟩
    ·obtain rfl:=đa hi
     have dv30:f' 121 = .bool false:=hdn 30 _ 121 rfl (hl3 30 (by rfl)) rfl;clear hdn hl3;rw[gs6,dv30];clear dv30 gs1 gs2 gs4 gs5 gs6 gs7 gs10 gs12 gs13 gs14;refine Zab rfl ?_
     go_wp2_with fail
     exact Zaa ⟨_,rfl,đc _ _,rfl⟩
    ·obtain rfl:=đa hi
     have dv31:f' 122 = .agg ccs.toArray:=hdn 31 _ 122 rfl (hl3 31 (by rfl)) rfl;have dv32:f' 123 = .agg #[.int .i64 0,.int .i64 0,.int .i64 1,.int .i64 (-1)]:=hdn 32 _ 123 rfl (hl3 32 (by rfl)) rfl;have dv33:f' 124 = .slice (some ⟨(y20.heap.size),0,none⟩) 1 1:=hdn 33 _ 124 rfl (hl3 33 (by rfl)) rfl;have dv30:f' 121 = .bool false:=hdn 30 _ 121 rfl (hl3 30 (by rfl)) rfl;clear hdn hl3;rw[dv31,dv32,dv33,dv30];clear dv31 dv32 dv33 dv30 gs1 gs2 gs4 gs5 gs6 gs7 gs10 gs12 gs13 gs14;have X2:=(LV.o w' hb.o).2.2.1;have XW:=(LV.o w' hb.o).2.2.2.1;refine Zab rfl ?_
     go_wp2_with fail
     refine(Zxr w' (exC [usE 1 0]) ccs B [] none 0 (usE 0 1) Z1m _ 1 (Zj6 X2.2 (Zbw.step (w:=w) HG.o (BW.o.trans (hb.o.mono BW.o.size))) (by decide)) (.inl rfl) (by decide) XW (by decide)).mono ?_;rintro e w4 ⟨rfl,b4⟩;rw[ekp];have HB4:=ħ b4;clear b4 X2 XW
     go_wp2_with fail
     exact Zaa ⟨_,rfl,HB4.o,rfl⟩
    ·obtain rfl:=đa hi
     have dv30:f' 121 = .bool false:=hdn 30 _ 121 rfl (hl3 30 (by rfl)) rfl;have dv34:f' 125 = .bool false:=hdn 34 _ 125 rfl (hl3 34 (by rfl)) rfl;clear hdn hl3;rw[dv30,dv34];clear dv30 dv34 gs1 gs2 gs4 gs5 gs6 gs7 gs10 gs12 gs13 gs14;refine Zab rfl ?_
     go_wp2_with fail
     exact Zaa ⟨_,rfl,đc _ _,rfl⟩
   case he =>
    intro listed a' y32 H hall;have hd35:Z01 (y20.heap.size) (y23.heap.size) ccs 35 y32 (a'.tmps.getD 126 undef):=H.done 35 _ 126 rfl (hall 35 (by decide)) rfl;have hb4:=ħ H.below;have hact:=H.act [91,92,93,94,95,96,97,98,99,100,101,102,103,104,105,106,107,108,109,110,111,112,113,114,115,116,117,118,119,120,121,122,123,124,125,126] (Zdd (by kernel_rfl));clear H hall;simp only[List.foldl_cons,List.foldl_nil] at hact;generalize a'.tmps.getD 91 undef=z91 at *;generalize a'.tmps.getD 92 undef=z92 at *;generalize a'.tmps.getD 93 undef=z93 at *;generalize a'.tmps.getD 94 undef=z94 at *;generalize a'.tmps.getD 95 undef=z95 at *;generalize a'.tmps.getD 96 undef=z96 at *;generalize a'.tmps.getD 97 undef=z97 at *;generalize a'.tmps.getD 98 undef=z98 at *;generalize a'.tmps.getD 99 undef=z99 at *;generalize a'.tmps.getD 100 undef=z100 at *;generalize a'.tmps.getD 101 undef=z101 at *;generalize a'.tmps.getD 102 undef=z102 at *;generalize a'.tmps.getD 103 undef=z103 at *;generalize a'.tmps.getD 104 undef=z104 at *;generalize a'.tmps.getD 105 undef=z105 at *;generalize a'.tmps.getD 106 undef=z106 at *;generalize a'.tmps.getD 107 undef=z107 at *;generalize a'.tmps.getD 108 undef=z108 at *;generalize a'.tmps.getD 109 undef=z109 at *;generalize a'.tmps.getD 110 undef=z110 at *;generalize a'.tmps.getD 111 undef=z111 at *;generalize a'.tmps.getD 112 undef=z112 at *;generalize a'.tmps.getD 113 undef=z113 at *;generalize a'.tmps.getD 114 undef=z114 at *;generalize a'.tmps.getD 115 undef=z115 at *;generalize a'.tmps.getD 116 undef=z116 at *;generalize a'.tmps.getD 117 undef=z117 at *;generalize a'.tmps.getD 118 undef=z118 at *;generalize a'.tmps.getD 119 undef=z119 at *;generalize a'.tmps.getD 120 undef=z120 at *;generalize a'.tmps.getD 121 undef=z121 at *;generalize a'.tmps.getD 122 undef=z122 at *;generalize a'.tmps.getD 123 undef=z123 at *;generalize a'.tmps.getD 124 undef=z124 at *;generalize a'.tmps.getD 125 undef=z125 at *;generalize a'.tmps.getD 126 undef=z126 at *;subst hact;have e35:z126 = .bool false:=hd35;subst e35;clear hd35;simp only[Act.put,List.setIfInBounds_toArray,List.set_cons_succ,List.set_cons_zero];replace BW:=ħ (BW.o.trans ((hb4.o).mono BW.o.size));replace LV:=ħ (fun W (hW:Below y32.heap.size y32 W)=>LV.o W ((hb4.o).trans (hW.mono (hb4.o).size)));clear hb4
    go_upto_region 13 with(fail)
    refine Za3 (Zj8 (y23.heap.size) ccs o3 c3) (by kernel_rfl) (Zt3 (y23.heap.size) ccs o3 c3) (Zbr (by kernel_rfl)) (Zf5 (by kernel_rfl)) (Zax (by kernel_rfl)) ?hs ?he
    case hs =>
     intro i o hi listed a' w' H hl2;have hl3:=Zap hl2;have hin:i<20:=(đp.1 hi).1;have hb:=ħ H.below;have s3:=H.same 3 (Zam (by kernel_rfl));have s7:=H.same 7 (Zam (by kernel_rfl));have hdn:=H.done;have hdf:=H.defers;have hts:=H.tsize;clear hl2 H;obtain⟨t',df⟩:=a';obtain⟨f',rfl⟩:=Zsm t' hts;have hdf':df=[]:=hdf;subst hdf';have gs3:f' 3 = .slice o3 2 c3:=s3;have gs7:f' 7 = .pointer (some ⟨(y23.heap.size),0,none⟩):=s7;clear s3 s7;clear hdf hts;have hcases:=Zt1 i hin;clear hin;rcases hcases with rfl | rfl | rfl | rfl | rfl | rfl | rfl | rfl | rfl | rfl | rfl | rfl | rfl | rfl | rfl | rfl | rfl | rfl | rfl | rfl
     ·obtain rfl:=đa hi
      clear hdn hl3;rw[gs3];clear gs3 gs7;refine Zab rfl ?_
      go_wp2_with fail
      exact Zaa ⟨_,rfl,đc _ _,rfl⟩
     ·obtain rfl:=đa hi
      clear hdn hl3;clear gs3 gs7;have VN:=ħ (Zbd (f:=Zbg) [0,2] (Zae.new w' 3 [.int .i64 0,.int .i64 2]) rfl);have BN:=ħ ((đc w'.heap.size w').alloc (đd _) (.cells #[.int .i64 0,.int .i64 2] 3));refine Zab rfl ?_
      go_wp2_with fail
      exact Zaa ⟨_,rfl,BN.o,_,rfl,VN.o⟩
     ·obtain rfl:=đa hi
      have dv0:f' 127 = .slice o3 2 c3:=hdn 0 _ 127 rfl (hl3 0 (by rfl)) rfl;have dv1:Zj8 (y23.heap.size) ccs o3 c3 1 w' (f' 128):=hdn 1 _ 128 rfl (hl3 1 (by rfl)) rfl;obtain⟨G128,dv1,hG128⟩:=dv1;clear hdn hl3;rw[dv0,dv1];clear dv0 dv1 gs3 gs7;have HA:=ħ ((LV.o w' hb.o).2.2.2.2.1);have HB:=ħ (hG128);clear hG128;refine Zab rfl ?_
      go_wp2_with fail
      refine(Zfd w' [0,2] o3 _ c3 2 HA.o HB.o (by decide)).mono ?_;rintro e w4 ⟨rfl,b4⟩;have HB4:=ħ b4;clear b4
      go_wp2_with fail
      exact Zaa ⟨_,rfl,HB4.o,rfl⟩
     ·obtain rfl:=đa hi
      have dv2:f' 129 = .bool true:=hdn 2 _ 129 rfl (hl3 2 (by rfl)) rfl;clear hdn hl3;rw[dv2];clear dv2 gs3 gs7;refine Zab rfl ?_
      go_wp2_with fail
      exact Zaa ⟨_,rfl,đc _ _,rfl⟩
     ·obtain rfl:=đa hi
      have dv3:f' 130 = .bool true:=hdn 3 _ 130 rfl (hl3 3 (by rfl)) rfl;clear hdn hl3;rw[dv3];clear dv3 gs3 gs7;refine Zab rfl ?_
      go_wp2_with fail
      refine(Za9 _ _ w').mono ?_;rintro e w4 ⟨rfl,b4⟩;have HB4:=ħ b4;clear b4
      go_wp2_with fail
      exact Zaa ⟨_,rfl,HB4.o,rfl⟩
     ·obtain rfl:=đa hi
      have dv3:f' 130 = .bool true:=hdn 3 _ 130 rfl (hl3 3 (by rfl)) rfl;clear hdn hl3;rw[dv3];clear dv3 gs3 gs7;refine Zab rfl ?_
      go_wp2_with fail
      refine(Za9 _ _ w').mono ?_;rintro e w4 ⟨rfl,b4⟩;have HB4:=ħ b4;clear b4
      go_wp2_with fail
      exact Zaa ⟨_,rfl,HB4.o,rfl⟩
     ·obtain rfl:=đa hi
      have dv4:f' 131 = .agg #[.int .i64 0,.int .i64 0,.int .i64 1,.int .i64 (-1)]:=hdn 4 _ 131 rfl (hl3 4 (by rfl)) rfl;have dv5:f' 132 = .agg #[.int .i64 1,.int .i64 0,.int .i64 0,.int .i64 (-1)]:=hdn 5 _ 132 rfl (hl3 5 (by rfl)) rfl;have dv3:f' 130 = .bool true:=hdn 3 _ 130 rfl (hl3 3 (by rfl)) rfl;clear hdn hl3;rw[dv4,dv5,dv3];clear dv4 dv5 dv3 gs3 gs7;have VN:=ħ (Zbd (f:=Zcg) [usE 0 1,usE 1 0] (Zae.new w' 39 [.int .i64 0,.int .i64 0,.int .i64 1,.int .i64 (-1),.int .i64 1,.int .i64 0,.int .i64 0,.int .i64 (-1)]) rfl);have BN:=ħ ((đc w'.heap.size w').alloc (đd _) (.cells #[.int .i64 0,.int .i64 0,.int .i64 1,.int .i64 (-1),.int .i64 1,.int .i64 0,.int .i64 0,.int .i64 (-1)] 39));refine Zab rfl ?_
      go_wp2_with fail
      exact Zaa ⟨_,rfl,BN.o,_,rfl,VN.o⟩
     ·obtain rfl:=đa hi
      have dv6:Zj8 (y23.heap.size) ccs o3 c3 6 w' (f' 133):=hdn 6 _ 133 rfl (hl3 6 (by rfl)) rfl;obtain⟨G133,dv6,hG133⟩:=dv6;have dv3:f' 130 = .bool true:=hdn 3 _ 130 rfl (hl3 3 (by rfl)) rfl;clear hdn hl3;rw[dv6,dv3];clear dv6 dv3 gs3 gs7;have HU:=ħ hG133;clear hG133;refine Zab rfl ?_
      go_wp2_with fail
      refine(Zdc w' [usE 0 1,usE 1 0] _ 2 HU.o (by decide)).mono ?_;rintro e w4 ⟨⟨cs,rfl,hcs⟩,b4⟩;have HCS:=ħ hcs;have HB4:=ħ b4;clear b4 hcs
      go_wp2_with fail
      exact Zaa ⟨_,rfl,HB4.o,cs,rfl,HCS.o⟩
     ·obtain rfl:=đa hi
      have dv7:Zj8 (y23.heap.size) ccs o3 c3 7 w' (f' 134):=hdn 7 _ 134 rfl (hl3 7 (by rfl)) rfl;obtain⟨ecs,dv7,hec⟩:=dv7;have dv3:f' 130 = .bool true:=hdn 3 _ 130 rfl (hl3 3 (by rfl)) rfl;clear hdn hl3;rw[dv7,dv3];clear dv7 dv3 gs3 gs7;have HEC:=ħ hec;clear hec;refine Zab rfl ?_
      go_wp2_with fail
      refine(Zxa w' (exC [usE 0 1,usE 1 0]) ecs B (Zj6 HEC.o (Zbw.step (w:=w) HG.o (BW.o.trans (hb.o.mono BW.o.size))) (by decide))).mono ?_;intro e w4 hq;unfold Z2r at hq;rw[enm] at hq;obtain⟨⟨o,cap,rfl,ho⟩,b4⟩:=hq;have HO:=ħ (ho.flatR (f:=Zbg) (l:=[0,2]) (fun _=>rfl) rfl);have HB4:=ħ b4;clear b4 ho
      go_wp2_with fail
      exact Zaa ⟨_,rfl,HB4.o,o,cap,rfl,HO.o⟩
     ·obtain rfl:=đa hi
      have dv3:f' 130 = .bool true:=hdn 3 _ 130 rfl (hl3 3 (by rfl)) rfl;clear hdn hl3;rw[dv3];clear dv3 gs3 gs7;have VN:=ħ (Zbd (f:=Zbg) [0,2] (Zae.new w' 3 [.int .i64 0,.int .i64 2]) rfl);have BN:=ħ ((đc w'.heap.size w').alloc (đd _) (.cells #[.int .i64 0,.int .i64 2] 3));refine Zab rfl ?_
      go_wp2_with fail
      exact Zaa ⟨_,rfl,BN.o,_,rfl,VN.o⟩
     ·obtain rfl:=đa hi
      have dv8:Zj8 (y23.heap.size) ccs o3 c3 8 w' (f' 135):=hdn 8 _ 135 rfl (hl3 8 (by rfl)) rfl;obtain⟨o135,c135,dv8,ho135⟩:=dv8;have dv9:Zj8 (y23.heap.size) ccs o3 c3 9 w' (f' 136):=hdn 9 _ 136 rfl (hl3 9 (by rfl)) rfl;obtain⟨G136,dv9,hG136⟩:=dv9;have dv3:f' 130 = .bool true:=hdn 3 _ 130 rfl (hl3 3 (by rfl)) rfl;clear hdn hl3;rw[dv8,dv9,dv3];clear dv8 dv9 dv3 gs3 gs7;have HA:=ħ (ho135);have HB:=ħ (hG136);clear ho135 hG136;refine Zab rfl ?_
      go_wp2_with fail
      refine(Zfd w' [0,2] o135 _ c135 2 HA.o HB.o (by decide)).mono ?_;rintro e w4 ⟨rfl,b4⟩;have HB4:=ħ b4;clear b4
      go_wp2_with fail
      exact Zaa ⟨_,rfl,HB4.o,rfl⟩
     ·obtain rfl:=đa hi
      have dv3:f' 130 = .bool true:=hdn 3 _ 130 rfl (hl3 3 (by rfl)) rfl;have dv10:f' 137 = .bool true:=hdn 10 _ 137 rfl (hl3 10 (by rfl)) rfl;clear hdn hl3;rw[dv3,dv10];clear dv3 dv10 gs3 gs7;refine Zab rfl ?_
      go_wp2_with fail
      exact Zaa ⟨_,rfl,đc _ _,rfl⟩
     ·obtain rfl:=đa hi
      have dv11:f' 138 = .bool true:=hdn 11 _ 138 rfl (hl3 11 (by rfl)) rfl;clear hdn hl3;rw[dv11];clear dv11 gs3 gs7;refine Zab rfl ?_
      go_wp2_with fail
      exact Zaa ⟨_,rfl,đc _ _,rfl⟩
     ·obtain rfl:=đa hi
      have dv12:f' 139 = .bool true:=hdn 12 _ 139 rfl (hl3 12 (by rfl)) rfl;clear hdn hl3;rw[gs7,dv12];clear dv12 gs3 gs7;have X2:=(LV.o w' hb.o).2.2.1;refine Zab rfl ?_
      go_wp2_with (refine Zdq (by rfl) 26 (.tmp 7) rfl (y23.heap.size) ?x1 26 ccs.toArray (0,0) _ X2.1 Tryz.underlying26 rfl X2.2.inf ?_;(case x1=>rfl))
      exact Zaa ⟨_,rfl,đc _ _,rfl⟩
     ·obtain rfl:=đa hi
      have dv12:f' 139 = .bool true:=hdn 12 _ 139 rfl (hl3 12 (by rfl)) rfl;clear hdn hl3;rw[dv12];clear dv12 gs3 gs7;refine Zab rfl ?_
      go_wp2_with fail
      refine(Za9 _ _ w').mono ?_;rintro e w4 ⟨rfl,b4⟩;have HB4:=ħ b4;clear b4
      go_wp2_with fail
      exact Zaa ⟨_,rfl,HB4.o,rfl⟩
     ·obtain rfl:=đa hi
      have dv13:f' 140 = .agg ccs.toArray:=hdn 13 _ 140 rfl (hl3 13 (by rfl)) rfl;have dv14:f' 141 = .agg #[.int .i64 0,.int .i64 0,.int .i64 1,.int .i64 (-1)]:=hdn 14 _ 141 rfl (hl3 14 (by rfl)) rfl;have dv12:f' 139 = .bool true:=hdn 12 _ 139 rfl (hl3 12 (by rfl)) rfl;clear hdn hl3;rw[dv13,dv14,dv12];clear dv13 dv14 dv12 gs3 gs7;have X2:=(LV.o w' hb.o).2.2.1;refine Zab rfl ?_
      go_wp2_with fail
      refine(Z0p w' (exC [usE 1 0]) ccs B (usE 0 1) (Zj6 X2.2 (Zbw.step (w:=w) HG.o (BW.o.trans (hb.o.mono BW.o.size))) (by decide))).mono ?_;intro e w4 hq;unfold Zlc at hq;rw[etl] at hq;obtain⟨⟨o,cap,rfl,ho⟩,b4⟩:=hq;have HO:=ħ (Zcm ho rfl);have HB4:=ħ b4;clear b4 ho
      go_wp2_with fail
      exact Zaa ⟨_,rfl,HB4.o,o,cap,rfl,HO.o⟩
     ·obtain rfl:=đa hi
      have dv12:f' 139 = .bool true:=hdn 12 _ 139 rfl (hl3 12 (by rfl)) rfl;clear hdn hl3;rw[dv12];clear dv12 gs3 gs7;have VN:=ħ (Zbd (f:=Zbg) [0] (Zae.new w' 3 [.int .i64 0]) rfl);have BN:=ħ ((đc w'.heap.size w').alloc (đd _) (.cells #[.int .i64 0] 3));refine Zab rfl ?_
      go_wp2_with fail
      exact Zaa ⟨_,rfl,BN.o,_,rfl,VN.o⟩
     ·obtain rfl:=đa hi
      have dv15:Zj8 (y23.heap.size) ccs o3 c3 15 w' (f' 142):=hdn 15 _ 142 rfl (hl3 15 (by rfl)) rfl;obtain⟨o142,c142,dv15,ho142⟩:=dv15;have dv16:Zj8 (y23.heap.size) ccs o3 c3 16 w' (f' 143):=hdn 16 _ 143 rfl (hl3 16 (by rfl)) rfl;obtain⟨G143,dv16,hG143⟩:=dv16;have dv12:f' 139 = .bool true:=hdn 12 _ 139 rfl (hl3 12 (by rfl)) rfl;clear hdn hl3;rw[dv15,dv16,dv12];clear dv15 dv16 dv12 gs3 gs7;have HA:=ħ (ho142);have HB:=ħ (hG143);clear ho142 hG143;refine Zab rfl ?_
      go_wp2_with fail
      refine(Zfd w' [0] o142 _ c142 1 HA.o HB.o (by decide)).mono ?_;rintro e w4 ⟨rfl,b4⟩;have HB4:=ħ b4;clear b4
      go_wp2_with fail
      exact Zaa ⟨_,rfl,HB4.o,rfl⟩
     ·obtain rfl:=đa hi
      have dv12:f' 139 = .bool true:=hdn 12 _ 139 rfl (hl3 12 (by rfl)) rfl;have dv17:f' 144 = .bool true:=hdn 17 _ 144 rfl (hl3 17 (by rfl)) rfl;clear hdn hl3;rw[dv12,dv17];clear dv12 dv17 gs3 gs7;refine Zab rfl ?_
      go_wp2_with fail
      exact Zaa ⟨_,rfl,đc _ _,rfl⟩
     ·obtain rfl:=đa hi
      have dv18:f' 145 = .bool true:=hdn 18 _ 145 rfl (hl3 18 (by rfl)) rfl;clear hdn hl3;rw[dv18];clear dv18 gs3 gs7;refine Zab rfl ?_
      go_wp2_with fail
      exact Zaa ⟨_,rfl,đc _ _,rfl⟩
    case he =>
     intro listed a' y33 H hall;have hd19:Zj8 (y23.heap.size) ccs o3 c3 19 y33 (a'.tmps.getD 15 undef):=H.done 19 _ 15 rfl (hall 19 (by decide)) rfl;have hb4:=ħ H.below;have hact:=H.act [127,128,129,130,131,132,133,134,135,136,137,138,139,140,141,142,143,144,145,15] (Zdd (by kernel_rfl));clear H hall;simp only[List.foldl_cons,List.foldl_nil] at hact;generalize a'.tmps.getD 127 undef=z127 at *;generalize a'.tmps.getD 128 undef=z128 at *;generalize a'.tmps.getD 129 undef=z129 at *;generalize a'.tmps.getD 130 undef=z130 at *;generalize a'.tmps.getD 131 undef=z131 at *;generalize a'.tmps.getD 132 undef=z132 at *;generalize a'.tmps.getD 133 undef=z133 at *;generalize a'.tmps.getD 134 undef=z134 at *;generalize a'.tmps.getD 135 undef=z135 at *;generalize a'.tmps.getD 136 undef=z136 at *;generalize a'.tmps.getD 137 undef=z137 at *;generalize a'.tmps.getD 138 undef=z138 at *;generalize a'.tmps.getD 139 undef=z139 at *;generalize a'.tmps.getD 140 undef=z140 at *;generalize a'.tmps.getD 141 undef=z141 at *;generalize a'.tmps.getD 142 undef=z142 at *;generalize a'.tmps.getD 143 undef=z143 at *;generalize a'.tmps.getD 144 undef=z144 at *;generalize a'.tmps.getD 145 undef=z145 at *;generalize a'.tmps.getD 15 undef=z15 at *;subst hact;have e19:z15 = .bool true:=hd19;subst e19;clear hd19;simp only[Act.put,List.setIfInBounds_toArray,List.set_cons_succ,List.set_cons_zero];replace BW:=ħ (BW.o.trans ((hb4.o).mono BW.o.size));replace LV:=ħ (fun W (hW:Below y33.heap.size y33 W)=>LV.o W ((hb4.o).trans (hW.mono (hb4.o).size)));clear hb4
     go_upto_region 14 with(fail)
     obtain⟨V0,bv⟩:=Zj7 y33 3 [.int .i64 0,.int .i64 1];have XM:=ħ ((LV.o _ bv).1)
     go_wp2_with fail
     refine(Zfd _ [0,1] oL79 _ cL79 2 XM.o (Zbd [0,1] V0 rfl) (by decide)).mono ?_;rintro e y34 ⟨rfl,b⟩;replace BW:=ħ (BW.o.trans ((bv.trans (b.mono bv.size)).mono BW.o.size));replace LV:=ħ (fun W (hW:Below y34.heap.size y34 W)=>LV.o W ((bv.trans (b.mono bv.size)).trans (hW.mono (bv.trans (b.mono bv.size)).size)));clear XM V0 bv b;obtain⟨V0,bv⟩:=Zj7 y34 3 [.int .i64 0,.int .i64 1];have X2:=ħ (LV.o y34 (đc _ _)).2.2.1
     go_wp2_with (refine Zdq (by rfl) 26 (.tmp 7) rfl (y23.heap.size) ?x1 26 ccs.toArray (0,0) _ X2.o.1 Tryz.underlying26 rfl X2.o.2.inf ?_;(case x1=>rfl))
     refine(Zsi _ (exC [usE 1 0]) ccs B [0,1] _ 2 (Zj6 (X2.o.2.below bv) (Zbw.step (w:=w) HG.o (BW.o.trans (bv.mono BW.o.size))) (by decide)) (Zbd [0,1] V0 rfl) (by decide)).mono ?_;intro e y35 hq;unfold Zlc at hq;rw[ecm] at hq;obtain⟨⟨oC,cC,rfl,hoC⟩,b⟩:=hq;replace BW:=ħ (BW.o.trans ((bv.trans (b.mono bv.size)).mono BW.o.size));replace LV:=ħ (fun W (hW:Below y35.heap.size y35 W)=>LV.o W ((bv.trans (b.mono bv.size)).trans (hW.mono (bv.trans (b.mono bv.size)).size)));have HO:=ħ (Zcm hoC rfl);clear X2 V0 bv b hoC;obtain⟨V0,bv⟩:=Zj7 y35 3 [.int .i64 0]
     go_wp2_with fail
     refine(Zfd _ [0] oC _ cC 1 (HO.o.below bv) (Zbd [0] V0 rfl) (by decide)).mono ?_;rintro e y36 ⟨rfl,b⟩;replace BW:=ħ (BW.o.trans ((bv.trans (b.mono bv.size)).mono BW.o.size));replace LV:=ħ (fun W (hW:Below y36.heap.size y36 W)=>LV.o W ((bv.trans (b.mono bv.size)).trans (hW.mono (bv.trans (b.mono bv.size)).size)));clear V0 bv b HO
     go_wp2_with fail
     go_ret;exact⟨rfl,BW.o⟩
end Go.Proofs.YtbcgocpihobjnaaGreatDoor
