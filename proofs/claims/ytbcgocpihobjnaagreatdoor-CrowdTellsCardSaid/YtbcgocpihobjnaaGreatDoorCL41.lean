import Derived.Test.YtbcgocpihobjnaaGreatDoorCL40
import Derived.Test.YtbcgocpihobjnaaGreatDoorCL24
import Derived.Test.YtbcgocpihobjnaaGreatDoorCL28
set_option linter.all false
set_option maxHeartbeats 64000000
set_option maxRecDepth 100000
namespace Go.Proofs.YtbcgocpihobjnaaGreatDoor
section
open Go.RowKit Go.Sort Go.Maps
theorem FS {P:Program} {ops:Array Oper} {rest:List Oper} {o:Oper} {a:Act} {w:World} {Q:Exit->Act->World->Prop} (hw:Region.wanted o (yielded ops a.tmps)=true) (ty:TypeId) (x:Operand) (ho:o.op = .load ty x)
  (g:Nat) (hx:a.eval x = .pointer (some ⟨g,0,none⟩)) (t:TypeId) (cs:Array Value) (fr:Nat×Nat) (d:TypeDesc) (hg:w.heap[g]?=some (.cells cs t fr))
  (hu:P.underlying ty=some d) (hd:(match d with | .struct _ | .array _ _=>true | _=>false)=true) (hi:(P.info? ty).map (·.size)=some cs.size)
  (h:wpList P ops Q rest (a.put o.dst (.agg cs)) w):wpList P ops Q (o::rest) a w :=
 wpList_step fun _ hK=>by rw[if_pos hw];exact wp_load_row ty x ho g hx t cs fr d hg hu hd hi (hK _ _ h)
def Th(W:World)(g:Nat)(c:Crw)(cs:List Value):Prop:=aC W g 26 cs/\mO W c cs
theorem Th.below{W W':World}{g:Nat}{c:Crw}{cs:List Value}(h:Th W g c cs)(hb:Below W.heap.size W W'):Th W' g c cs:=⟨h.1.step hb,h.2.below hb⟩
theorem mO.inf{W:World}{c:Crw}{cs:List Value}(h:mO W c cs):(Tryz.prog.info? 26).map (·.size)=some cs.toArray.size:=by
 obtain⟨qo,qc,mo,mc,uo,uc,rfl,-⟩:=h;exact kU _ _ _
theorem mO.one{W:World}{c:Crw}{cs:List Value}(h:mO W c cs):cs.toArray.all (·.oneCell')=true:=by
 obtain⟨qo,qc,mo,mc,uo,uc,rfl,-⟩:=h;simp[Value.oneCell']
theorem mO.three{W:World}{c:Crw}{cs:List Value}(h:mO W c cs):3=cs.toArray.size:=by
 obtain⟨qo,qc,mo,mc,uo,uc,rfl,-⟩:=h;rfl
theorem px{W:World}{g:Nat}{T:TypeId}{rows:List (List Int)}{vs:List Value}(h:aC W g T vs)(hr:∀ (i:Nat) (row:List Int),rows[i]?=some row->∃ bo bc,vs[i]?=some (Value.slice bo row.length bc)/\aY aZ W bo row):sF W rows (some ⟨g,0,none⟩):=by
 refine .inr ⟨g,0,rfl,h.lt,fun i row hi=>?_⟩;obtain⟨bo,bc,h1,h2⟩:=hr i row hi;exact⟨bo,bc,by rw[Nat.zero_add];exact h.cell i _ h1,h2⟩
theorem mP{α:Type}{f:α->List Value}{W:World}{g:Nat}{T:TypeId}{vs:List Value}(l:List α)(h:aC W g T vs)(he:l.flatMap f=vs):aY f W (some ⟨g,0,none⟩) l:=.inr ⟨g,0,rfl,h.lt,by rw[he];exact h.readsR⟩
theorem Lm(w:World)(a:List Int)(ao bo:Option Addr)(ac bc:Nat)(ha:aY aZ w ao a)(hb:aY aZ w bo a)(hl:a.length<=1000000) :
  Calls Tryz.prog 25 #[.slice ao a.length ac,.slice bo a.length bc] w fun e w'=>e = .returned (.bool true)/\Below w.heap.size w w' :=
 (ZF w a a ao bo ac bc ha hb hl).mono (fun e w' h=>⟨by rw[h.1,decide_eq_true (show a=a from rfl)],h.2⟩)
theorem Fu(w:World)(t0:TypeId)(v0:List Value):aC (w.alloc (.cells v0.toArray t0)) w.heap.size t0 v0/\Below w.heap.size w (w.alloc (.cells v0.toArray t0)):=by
 refine⟨aC.new w t0 v0,(aG _ _).alloc (aO _) _⟩
theorem ZI(w:World)(t0 t1 t2:TypeId)(v0 v1 v2:List Value):aC (((w.alloc (.cells v0.toArray t0)).alloc (.cells v1.toArray t1)).alloc (.cells v2.toArray t2)) w.heap.size t0 v0/\aC (((w.alloc (.cells v0.toArray t0)).alloc (.cells v1.toArray t1)).alloc (.cells v2.toArray t2)) (w.heap.size+1) t1 v1/\aC (((w.alloc (.cells v0.toArray t0)).alloc (.cells v1.toArray t1)).alloc (.cells v2.toArray t2)) (w.heap.size+2) t2 v2/\Below w.heap.size w (((w.alloc (.cells v0.toArray t0)).alloc (.cells v1.toArray t1)).alloc (.cells v2.toArray t2)):=by
 refine⟨((aC.new w t0 v0).step ((aG _ _).alloc (aO _) _)).step ((aG _ _).alloc (aO _) _),((aC.newAt _ _ _ _ (by simp only[eH]):aC ((w.alloc (.cells v0.toArray t0)).alloc (.cells v1.toArray t1)) (w.heap.size+1) t1 v1)).step ((aG _ _).alloc (aO _) _),(aC.newAt _ _ _ _ (by simp only[eH]):aC (((w.alloc (.cells v0.toArray t0)).alloc (.cells v1.toArray t1)).alloc (.cells v2.toArray t2)) (w.heap.size+2) t2 v2),(((aG _ _).alloc (aO _) _).alloc (by simp only[eH];omega) _).alloc (by simp only[eH];omega) _⟩
theorem Z4l(w:World)(t0 t1 t2 t3:TypeId)(v0 v1 v2 v3:List Value):aC ((((w.alloc (.cells v0.toArray t0)).alloc (.cells v1.toArray t1)).alloc (.cells v2.toArray t2)).alloc (.cells v3.toArray t3)) w.heap.size t0 v0/\aC ((((w.alloc (.cells v0.toArray t0)).alloc (.cells v1.toArray t1)).alloc (.cells v2.toArray t2)).alloc (.cells v3.toArray t3)) (w.heap.size+1) t1 v1/\aC ((((w.alloc (.cells v0.toArray t0)).alloc (.cells v1.toArray t1)).alloc (.cells v2.toArray t2)).alloc (.cells v3.toArray t3)) (w.heap.size+2) t2 v2/\aC ((((w.alloc (.cells v0.toArray t0)).alloc (.cells v1.toArray t1)).alloc (.cells v2.toArray t2)).alloc (.cells v3.toArray t3)) (w.heap.size+3) t3 v3/\Below w.heap.size w ((((w.alloc (.cells v0.toArray t0)).alloc (.cells v1.toArray t1)).alloc (.cells v2.toArray t2)).alloc (.cells v3.toArray t3)):=by
 refine⟨(((aC.new w t0 v0).step ((aG _ _).alloc (aO _) _)).step ((aG _ _).alloc (aO _) _)).step ((aG _ _).alloc (aO _) _),(((aC.newAt _ _ _ _ (by simp only[eH]):aC ((w.alloc (.cells v0.toArray t0)).alloc (.cells v1.toArray t1)) (w.heap.size+1) t1 v1)).step ((aG _ _).alloc (aO _) _)).step ((aG _ _).alloc (aO _) _),((aC.newAt _ _ _ _ (by simp only[eH]):aC (((w.alloc (.cells v0.toArray t0)).alloc (.cells v1.toArray t1)).alloc (.cells v2.toArray t2)) (w.heap.size+2) t2 v2)).step ((aG _ _).alloc (aO _) _),(aC.newAt _ _ _ _ (by simp only[eH]):aC ((((w.alloc (.cells v0.toArray t0)).alloc (.cells v1.toArray t1)).alloc (.cells v2.toArray t2)).alloc (.cells v3.toArray t3)) (w.heap.size+3) t3 v3),((((aG _ _).alloc (aO _) _).alloc (by simp only[eH];omega) _).alloc (by simp only[eH];omega) _).alloc (by simp only[eH];omega) _⟩
theorem Z4m(w:World)(t0 t1 t2 t3 t4:TypeId)(v0 v1 v2 v3 v4:List Value):aC (((((w.alloc (.cells v0.toArray t0)).alloc (.cells v1.toArray t1)).alloc (.cells v2.toArray t2)).alloc (.cells v3.toArray t3)).alloc (.cells v4.toArray t4)) w.heap.size t0 v0/\aC (((((w.alloc (.cells v0.toArray t0)).alloc (.cells v1.toArray t1)).alloc (.cells v2.toArray t2)).alloc (.cells v3.toArray t3)).alloc (.cells v4.toArray t4)) (w.heap.size+1) t1 v1/\aC (((((w.alloc (.cells v0.toArray t0)).alloc (.cells v1.toArray t1)).alloc (.cells v2.toArray t2)).alloc (.cells v3.toArray t3)).alloc (.cells v4.toArray t4)) (w.heap.size+2) t2 v2/\aC (((((w.alloc (.cells v0.toArray t0)).alloc (.cells v1.toArray t1)).alloc (.cells v2.toArray t2)).alloc (.cells v3.toArray t3)).alloc (.cells v4.toArray t4)) (w.heap.size+3) t3 v3/\aC (((((w.alloc (.cells v0.toArray t0)).alloc (.cells v1.toArray t1)).alloc (.cells v2.toArray t2)).alloc (.cells v3.toArray t3)).alloc (.cells v4.toArray t4)) (w.heap.size+4) t4 v4/\Below w.heap.size w (((((w.alloc (.cells v0.toArray t0)).alloc (.cells v1.toArray t1)).alloc (.cells v2.toArray t2)).alloc (.cells v3.toArray t3)).alloc (.cells v4.toArray t4)):=by
 refine⟨((((aC.new w t0 v0).step ((aG _ _).alloc (aO _) _)).step ((aG _ _).alloc (aO _) _)).step ((aG _ _).alloc (aO _) _)).step ((aG _ _).alloc (aO _) _),((((aC.newAt _ _ _ _ (by simp only[eH]):aC ((w.alloc (.cells v0.toArray t0)).alloc (.cells v1.toArray t1)) (w.heap.size+1) t1 v1)).step ((aG _ _).alloc (aO _) _)).step ((aG _ _).alloc (aO _) _)).step ((aG _ _).alloc (aO _) _),(((aC.newAt _ _ _ _ (by simp only[eH]):aC (((w.alloc (.cells v0.toArray t0)).alloc (.cells v1.toArray t1)).alloc (.cells v2.toArray t2)) (w.heap.size+2) t2 v2)).step ((aG _ _).alloc (aO _) _)).step ((aG _ _).alloc (aO _) _),((aC.newAt _ _ _ _ (by simp only[eH]):aC ((((w.alloc (.cells v0.toArray t0)).alloc (.cells v1.toArray t1)).alloc (.cells v2.toArray t2)).alloc (.cells v3.toArray t3)) (w.heap.size+3) t3 v3)).step ((aG _ _).alloc (aO _) _),(aC.newAt _ _ _ _ (by simp only[eH]):aC (((((w.alloc (.cells v0.toArray t0)).alloc (.cells v1.toArray t1)).alloc (.cells v2.toArray t2)).alloc (.cells v3.toArray t3)).alloc (.cells v4.toArray t4)) (w.heap.size+4) t4 v4),(((((aG _ _).alloc (aO _) _).alloc (by simp only[eH];omega) _).alloc (by simp only[eH];omega) _).alloc (by simp only[eH];omega) _).alloc (by simp only[eH];omega) _⟩
end
section
open Go.RowKit Go.Sort Go.Maps
theorem Z5l{w w':World}{e:Ending}(h:Li w w' (exC [usE 0 0,usE 1 0]) [-1,-1] e):Below w.heap.size w w'/\∃ o cap,e = .returned (.tuple #[.slice o 2 cap,.bool true])/\aY aZ w' o [0,2]:=by
 obtain⟨h1,h2⟩:=h;refine⟨h1,?_⟩;have h3:=eas
 cases hc:Bf (exC [usE 0 0,usE 1 0]) [-1,-1] with
 | none=>rw[hc] at h3;exact absurd h3 (by simp)
 | some C =>
  rw[hc] at h2 h3;simp only[Option.map_some,Option.some.injEq,Prod.mk.injEq] at h3;obtain⟨h4,h5⟩:=h3;simp only[h4,if_true] at h2;rw[show(exC [usE 0 0,usE 1 0]).us.length=2 from rfl,h5] at h2;obtain⟨o,cap,h6,h7⟩:=h2;exact⟨o,cap,h6,Nz h7 rfl⟩
theorem Zub(i:Nat)(h:i<36):i=0\/i=1\/i=2\/i=3\/i=4\/i=5\/i=6\/i=7\/i=8\/i=9\/i=10\/i=11\/i=12\/i=13\/i=14\/i=15\/i=16\/i=17\/i=18\/i=19\/i=20\/i=21\/i=22\/i=23\/i=24\/i=25\/i=26\/i=27\/i=28\/i=29\/i=30\/i=31\/i=32\/i=33\/i=34\/i=35:=by omega
theorem Zuc(i:Nat)(h:i<20):i=0\/i=1\/i=2\/i=3\/i=4\/i=5\/i=6\/i=7\/i=8\/i=9\/i=10\/i=11\/i=12\/i=13\/i=14\/i=15\/i=16\/i=17\/i=18\/i=19:=by omega
theorem py(t:Array Value)(h:t.size=164):∃ f:Nat->Value,t=#[f 0,f 1,f 2,f 3,f 4,f 5,f 6,f 7,f 8,f 9,f 10,f 11,f 12,f 13,f 14,f 15,f 16,f 17,f 18,f 19,f 20,f 21,f 22,f 23,f 24,f 25,f 26,f 27,f 28,f 29,f 30,f 31,f 32,f 33,f 34,f 35,f 36,f 37,f 38,f 39,f 40,f 41,f 42,f 43,f 44,f 45,f 46,f 47,f 48,f 49,f 50,f 51,f 52,f 53,f 54,f 55,f 56,f 57,f 58,f 59,f 60,f 61,f 62,f 63,f 64,f 65,f 66,f 67,f 68,f 69,f 70,f 71,f 72,f 73,f 74,f 75,f 76,f 77,f 78,f 79,f 80,f 81,f 82,f 83,f 84,f 85,f 86,f 87,f 88,f 89,f 90,f 91,f 92,f 93,f 94,f 95,f 96,f 97,f 98,f 99,f 100,f 101,f 102,f 103,f 104,f 105,f 106,f 107,f 108,f 109,f 110,f 111,f 112,f 113,f 114,f 115,f 116,f 117,f 118,f 119,f 120,f 121,f 122,f 123,f 124,f 125,f 126,f 127,f 128,f 129,f 130,f 131,f 132,f 133,f 134,f 135,f 136,f 137,f 138,f 139,f 140,f 141,f 142,f 143,f 144,f 145,f 146,f 147,f 148,f 149,f 150,f 151,f 152,f 153,f 154,f 155,f 156,f 157,f 158,f 159,f 160,f 161,f 162,f 163]/\∀ d,t.getD d undef=f d:=by
 obtain⟨l⟩:=t;have hl:l.length=164:=h
 have e:l=(List.range 164).map (fun i=>l.getD i undef):=by
  apply List.ext_getElem
  ·simp[hl]
  ·intro i h1 h2
   simp[List.getD,h1]
 exact⟨fun i=>l.getD i undef,congrArg List.toArray e,fun d=>by simp⟩
def Ti(gw:Nat)(gc:Nat)(ccs:List Value)(i:Nat)(W:World)(v:Value):Prop:=match i with
 | 0=>v = .agg ccs.toArray
 | 1=>v = .agg #[.int .i64 0,.int .i64 0,.int .i64 1,.int .i64 (-1)]
 | 2=>v = .slice (some ⟨gw,0,none⟩) 1 1
 | 3=>∃ o cap,v = .tuple #[.slice o 0 cap,.int .i64 0]/\aY aZ W o []
 | 4=>∃ o cap,v = .tuple #[.slice o 0 cap,.int .i64 0]/\aY aZ W o []
 | 5=>∃ o cap,v = .slice o 0 cap/\aY aZ W o []
 | 6=>v = .int .i64 0
 | 7=>∃ o cap,v = .slice o 0 cap/\aY aZ W o []
 | 8=>v = .int .i64 0
 | _=>True
theorem Zx3(gw:Nat)(gc:Nat)(ccs:List Value):∀ i w w' v,Ti gw gc ccs i w v->Below w.heap.size w w'->Ti gw gc ccs i w' v:=by
 intro i w w' v h hb
 match i with
 | 0=>exact h
 | 1=>exact h
 | 2=>exact h
 | 3=>obtain⟨o,cap,h1,h2⟩:=h;exact⟨o,cap,h1,h2.below hb⟩
 | 4=>obtain⟨o,cap,h1,h2⟩:=h;exact⟨o,cap,h1,h2.below hb⟩
 | 5=>obtain⟨o,cap,h1,h2⟩:=h;exact⟨o,cap,h1,h2.below hb⟩
 | 6=>exact h
 | 7=>obtain⟨o,cap,h1,h2⟩:=h;exact⟨o,cap,h1,h2.below hb⟩
 | 8=>exact h
 | k+9=>trivial
def Tj(gw:Nat)(gc:Nat)(ccs:List Value)(i:Nat)(W:World)(v:Value):Prop:=match i with
 | 0=>v = .agg ccs.toArray
 | 1=>v = .agg #[.int .i64 0,.int .i64 0,.int .i64 0,.int .i64 (-1)]
 | 2=>v = .slice (some ⟨gw,0,none⟩) 1 1
 | 3=>∃ o cap,v = .tuple #[.slice o 2 cap,.int .i64 0]/\aY aZ W o [0,1]
 | 4=>∃ o cap,v = .tuple #[.slice o 2 cap,.int .i64 0]/\aY aZ W o [0,1]
 | 5=>∃ o cap,v = .slice o 2 cap/\aY aZ W o [0,1]
 | 6=>v = .int .i64 0
 | 7=>∃ o cap,v = .slice o 2 cap/\aY aZ W o [0,1]
 | 8=>v = .int .i64 0
 | _=>True
theorem Zx4(gw:Nat)(gc:Nat)(ccs:List Value):∀ i w w' v,Tj gw gc ccs i w v->Below w.heap.size w w'->Tj gw gc ccs i w' v:=by
 intro i w w' v h hb
 match i with
 | 0=>exact h
 | 1=>exact h
 | 2=>exact h
 | 3=>obtain⟨o,cap,h1,h2⟩:=h;exact⟨o,cap,h1,h2.below hb⟩
 | 4=>obtain⟨o,cap,h1,h2⟩:=h;exact⟨o,cap,h1,h2.below hb⟩
 | 5=>obtain⟨o,cap,h1,h2⟩:=h;exact⟨o,cap,h1,h2.below hb⟩
 | 6=>exact h
 | 7=>obtain⟨o,cap,h1,h2⟩:=h;exact⟨o,cap,h1,h2.below hb⟩
 | 8=>exact h
 | k+9=>trivial
def Z4n(gw:Nat)(gc:Nat)(ccs:List Value):List Value:=[.bool true,.bool false,.bool false,.bool true,.bool false,.bool false,.bool false,.bool true,.bool false,.bool false,.bool false,.bool true,.bool false,.bool false,.bool false,.int .i64 0,.bool false,.bool false,.bool false,.int .i64 0,.bool false,.bool false,.bool false,.bool true,.bool false,.bool false,.bool false,.int .i64 3,.bool false,.bool false,.bool false,.agg ccs.toArray,.agg #[.int .i64 0,.int .i64 0,.int .i64 1,.int .i64 (-1)],.slice (some ⟨gw,0,none⟩) 1 1,.bool false,.bool false]
def Hw(gc:Nat)(ccs:List Value)(o3:Option Addr)(c3:Nat)(i:Nat)(W:World)(v:Value):Prop:=match i with
 | 0=>v = .slice o3 2 c3
 | 1=>∃ g,v = .slice (some ⟨g,0,none⟩) 2 2/\aY aZ W (some ⟨g,0,none⟩) [0,2]
 | 2=>v = .bool true
 | 3=>v = .bool true
 | 4=>v = .agg #[.int .i64 0,.int .i64 0,.int .i64 1,.int .i64 (-1)]
 | 5=>v = .agg #[.int .i64 1,.int .i64 0,.int .i64 0,.int .i64 (-1)]
 | 6=>∃ g,v = .slice (some ⟨g,0,none⟩) 2 2/\aY cQ W (some ⟨g,0,none⟩) [usE 0 1,usE 1 0]
 | 7=>∃ cs,v = .agg cs.toArray/\mO W (exC [usE 0 1,usE 1 0]) cs
 | 8=>∃ o cap,v = .slice o 2 cap/\aY aZ W o [0,2]
 | 9=>∃ g,v = .slice (some ⟨g,0,none⟩) 2 2/\aY aZ W (some ⟨g,0,none⟩) [0,2]
 | 10=>v = .bool true
 | 11=>v = .bool true
 | 12=>v = .bool true
 | 13=>v = .agg ccs.toArray
 | 14=>v = .agg #[.int .i64 0,.int .i64 0,.int .i64 1,.int .i64 (-1)]
 | 15=>∃ o cap,v = .slice o 1 cap/\aY aZ W o [0]
 | 16=>∃ g,v = .slice (some ⟨g,0,none⟩) 1 1/\aY aZ W (some ⟨g,0,none⟩) [0]
 | 17=>v = .bool true
 | 18=>v = .bool true
 | 19=>v = .bool true
 | _=>True
theorem Zud(gc:Nat)(ccs:List Value)(o3:Option Addr)(c3:Nat):∀ i w w' v,Hw gc ccs o3 c3 i w v->Below w.heap.size w w'->Hw gc ccs o3 c3 i w' v:=by
 intro i w w' v h hb
 match i with
 | 0=>exact h
 | 1=>obtain⟨g,h1,h2⟩:=h;exact⟨g,h1,h2.below hb⟩
 | 2=>exact h
 | 3=>exact h
 | 4=>exact h
 | 5=>exact h
 | 6=>obtain⟨g,h1,h2⟩:=h;exact⟨g,h1,h2.below hb⟩
 | 7=>obtain⟨cs,h1,h2⟩:=h;exact⟨cs,h1,h2.below hb⟩
 | 8=>obtain⟨o,cap,h1,h2⟩:=h;exact⟨o,cap,h1,h2.below hb⟩
 | 9=>obtain⟨g,h1,h2⟩:=h;exact⟨g,h1,h2.below hb⟩
 | 10=>exact h
 | 11=>exact h
 | 12=>exact h
 | 13=>exact h
 | 14=>exact h
 | 15=>obtain⟨o,cap,h1,h2⟩:=h;exact⟨o,cap,h1,h2.below hb⟩
 | 16=>obtain⟨g,h1,h2⟩:=h;exact⟨g,h1,h2.below hb⟩
 | 17=>exact h
 | 18=>exact h
 | 19=>exact h
 | k+20=>trivial
theorem Zx5(w:World)(B:Nat)(hG:Tab w B):Calls Tryz.prog 18 #[] w fun e w'=>e = .returned (.bool true)/\Below w.heap.size w w':=by
 have BW:=I (aG w.heap.size w);have LV:Hid (∀ W,Below w.heap.size w W->True):=I (fun _ _=>trivial);have HG:=I hG;clear hG
 go_enter Tryz.func18,Tryz.ntmps18
 go_wp2_with fail
 refine(qA _ _ _).mono ?_;rintro e y1 ⟨rfl,b⟩;replace BW:=I (BW.o.trans ((b).mono BW.o.size));replace LV:=I (fun W (hW:Below y1.heap.size y1 W)=>LV.o W ((b).trans (hW.mono (b).size)));clear b;obtain⟨V0,V1,V2,bv⟩:=ZI y1 39 3 33 [.int .i64 0,.int .i64 0,.int .i64 0,.int .i64 (-1)] [.int .i64 0,.int .i64 1] [.slice (some ⟨y1.heap.size+1,0,none⟩) 2 2]
 go_wp2_with fail
 refine(pu _ B (gS.step (w:=w) HG.o (BW.o.trans (bv.mono BW.o.size))) [usE 0 0] _ 1 [[0,1]] _ 1 2 (mP [usE 0 0] V0 rfl) (by decide) (by decide) (px (rows:=[[0,1]]) V2 (fun i row hi=>match i,hi with | 0,hi=>by obtain rfl:=bF hi;exact⟨_,_,rfl,mP [0,1] V1 rfl⟩)) es1 ec1 ⟨by decide,by decide⟩).mono ?_;rintro e y2 ⟨rfl,b⟩;replace BW:=I (BW.o.trans ((bv.trans (b.mono bv.size)).mono BW.o.size));replace LV:=I (fun W (hW:Below y2.heap.size y2 W)=>LV.o W ((bv.trans (b.mono bv.size)).trans (hW.mono (bv.trans (b.mono bv.size)).size)));clear b bv V0 V1 V2
 go_wp2_with fail
 refine(qA _ _ _).mono ?_;rintro e y3 ⟨rfl,b⟩;replace BW:=I (BW.o.trans ((b).mono BW.o.size));replace LV:=I (fun W (hW:Below y3.heap.size y3 W)=>LV.o W ((b).trans (hW.mono (b).size)));clear b;obtain⟨V0,V1,V2,bv⟩:=ZI y3 39 3 33 [.int .i64 0,.int .i64 0,.int .i64 1,.int .i64 (-1)] [.int .i64 0] [.slice (some ⟨y3.heap.size+1,0,none⟩) 1 1]
 go_wp2_with fail
 refine(pu _ B (gS.step (w:=w) HG.o (BW.o.trans (bv.mono BW.o.size))) [usE 0 1] _ 1 [[0]] _ 1 1 (mP [usE 0 1] V0 rfl) (by decide) (by decide) (px (rows:=[[0]]) V2 (fun i row hi=>match i,hi with | 0,hi=>by obtain rfl:=bF hi;exact⟨_,_,rfl,mP [0] V1 rfl⟩)) es2 ec2 ⟨by decide,by decide⟩).mono ?_;rintro e y4 ⟨rfl,b⟩;replace BW:=I (BW.o.trans ((bv.trans (b.mono bv.size)).mono BW.o.size));replace LV:=I (fun W (hW:Below y4.heap.size y4 W)=>LV.o W ((bv.trans (b.mono bv.size)).trans (hW.mono (bv.trans (b.mono bv.size)).size)));clear b bv V0 V1 V2
 go_wp2_with fail
 refine(qA _ _ _).mono ?_;rintro e y5 ⟨rfl,b⟩;replace BW:=I (BW.o.trans ((b).mono BW.o.size));replace LV:=I (fun W (hW:Below y5.heap.size y5 W)=>LV.o W ((b).trans (hW.mono (b).size)));clear b
 go_wp2_with fail
 refine(qA _ _ _).mono ?_;rintro e y6 ⟨rfl,b⟩;replace BW:=I (BW.o.trans ((b).mono BW.o.size));replace LV:=I (fun W (hW:Below y6.heap.size y6 W)=>LV.o W ((b).trans (hW.mono (b).size)));clear b;obtain⟨V0,V1,V2,V3,bv⟩:=Z4l y6 39 3 3 33 [.int .i64 0,.int .i64 0,.int .i64 0,.int .i64 (-1),.int .i64 1,.int .i64 0,.int .i64 0,.int .i64 (-1)] [.int .i64 0,.int .i64 1] [.int .i64 0,.int .i64 2] [.slice (some ⟨y6.heap.size+1,0,none⟩) 2 2,.slice (some ⟨y6.heap.size+2,0,none⟩) 2 2]
 go_wp2_with fail
 refine(pu _ B (gS.step (w:=w) HG.o (BW.o.trans (bv.mono BW.o.size))) [usE 0 0,usE 1 0] _ 2 [[0,1],[0,2]] _ 2 3 (mP [usE 0 0,usE 1 0] V0 rfl) (by decide) (by decide) (px (rows:=[[0,1],[0,2]]) V3 (fun i row hi=>match i,hi with | 0,hi=>by obtain rfl:=bF hi;exact⟨_,_,rfl,mP [0,1] V1 rfl⟩ | 1,hi=>by obtain rfl:=bF hi;exact⟨_,_,rfl,mP [0,2] V2 rfl⟩)) es3 ec3 ⟨by decide,by decide⟩).mono ?_;rintro e y7 ⟨rfl,b⟩;replace BW:=I (BW.o.trans ((bv.trans (b.mono bv.size)).mono BW.o.size));replace LV:=I (fun W (hW:Below y7.heap.size y7 W)=>LV.o W ((bv.trans (b.mono bv.size)).trans (hW.mono (bv.trans (b.mono bv.size)).size)));clear b bv V0 V1 V2 V3
 go_wp2_with fail
 refine(qA _ _ _).mono ?_;rintro e y8 ⟨rfl,b⟩;replace BW:=I (BW.o.trans ((b).mono BW.o.size));replace LV:=I (fun W (hW:Below y8.heap.size y8 W)=>LV.o W ((b).trans (hW.mono (b).size)));clear b
 go_wp2_with fail
 refine(qA _ _ _).mono ?_;rintro e y9 ⟨rfl,b⟩;replace BW:=I (BW.o.trans ((b).mono BW.o.size));replace LV:=I (fun W (hW:Below y9.heap.size y9 W)=>LV.o W ((b).trans (hW.mono (b).size)));clear b
 go_wp2_with fail
 refine(qA _ _ _).mono ?_;rintro e Vf ⟨rfl,b⟩;replace BW:=I (BW.o.trans ((b).mono BW.o.size));replace LV:=I (fun W (hW:Below Vf.heap.size Vf W)=>LV.o W ((b).trans (hW.mono (b).size)));clear b;obtain⟨V0,V1,V2,V3,V4,bv⟩:=Z4m Vf 39 3 3 3 33 [.int .i64 0,.int .i64 0,.int .i64 0,.int .i64 (-1),.int .i64 1,.int .i64 0,.int .i64 0,.int .i64 (-1),.int .i64 1,.int .i64 0,.int .i64 0,.int .i64 (-1)] [.int .i64 1] [.int .i64 0,.int .i64 2] [.int .i64 0,.int .i64 2] [.slice (some ⟨Vf.heap.size+1,0,none⟩) 1 1,.slice (some ⟨Vf.heap.size+2,0,none⟩) 2 2,.slice (some ⟨Vf.heap.size+3,0,none⟩) 2 2]
 go_wp2_with fail
 refine(pu _ B (gS.step (w:=w) HG.o (BW.o.trans (bv.mono BW.o.size))) [usE 0 0,usE 1 0,usE 1 0] _ 3 [[1],[0,2],[0,2]] _ 3 2 (mP [usE 0 0,usE 1 0,usE 1 0] V0 rfl) (by decide) (by decide) (px (rows:=[[1],[0,2],[0,2]]) V4 (fun i row hi=>match i,hi with | 0,hi=>by obtain rfl:=bF hi;exact⟨_,_,rfl,mP [1] V1 rfl⟩ | 1,hi=>by obtain rfl:=bF hi;exact⟨_,_,rfl,mP [0,2] V2 rfl⟩ | 2,hi=>by obtain rfl:=bF hi;exact⟨_,_,rfl,mP [0,2] V3 rfl⟩)) es4 ec4 ⟨by decide,by decide⟩).mono ?_;rintro e MU ⟨rfl,b⟩;replace BW:=I (BW.o.trans ((bv.trans (b.mono bv.size)).mono BW.o.size));replace LV:=I (fun W (hW:Below MU.heap.size MU W)=>LV.o W ((bv.trans (b.mono bv.size)).trans (hW.mono (bv.trans (b.mono bv.size)).size)));clear b bv V0 V1 V2 V3 V4
 go_wp2_with fail
 refine(qA _ _ _).mono ?_;rintro e MV ⟨rfl,b⟩;replace BW:=I (BW.o.trans ((b).mono BW.o.size));replace LV:=I (fun W (hW:Below MV.heap.size MV W)=>LV.o W ((b).trans (hW.mono (b).size)));clear b
 go_wp2_with fail
 refine(qA _ _ _).mono ?_;rintro e zr ⟨rfl,b⟩;replace BW:=I (BW.o.trans ((b).mono BW.o.size));replace LV:=I (fun W (hW:Below zr.heap.size zr W)=>LV.o W ((b).trans (hW.mono (b).size)));clear b;obtain⟨V0,bv⟩:=Fu zr 39 [.int .i64 0,.int .i64 0,.int .i64 0,.int .i64 (-1),.int .i64 1,.int .i64 0,.int .i64 0,.int .i64 (-1)]
 go_wp2_with fail
 refine(Wl _ [usE 0 0,usE 1 0] _ 2 (mP [usE 0 0,usE 1 0] V0 rfl) (by decide)).mono ?_;rintro e zt ⟨⟨acs,rfl,lP⟩,b⟩;replace BW:=I (BW.o.trans ((bv.trans (b.mono bv.size)).mono BW.o.size));replace LV:=I (fun W (hW:Below zt.heap.size zt W)=>LV.o W ((bv.trans (b.mono bv.size)).trans (hW.mono (bv.trans (b.mono bv.size)).size)));have rG:=I lP;clear b bv V0 lP;obtain⟨V0,bv⟩:=Fu zt 3 [.int .i64 (-1),.int .i64 (-1)]
 go_wp2_with fail
 refine(YL _ (exC [usE 0 0,usE 1 0]) acs B [-1,-1] _ 2 (Ft (rG.o.below bv) (gS.step (w:=w) HG.o (BW.o.trans (bv.mono BW.o.size))) (by decide)) (mP [-1,-1] V0 rfl)).mono ?_;intro e ki hq;obtain⟨b,o3,c3,rfl,hf⟩:=Z5l hq;replace BW:=I (BW.o.trans ((bv.trans (b.mono bv.size)).mono BW.o.size));replace LV:=I (fun W (hW:Below ki.heap.size ki W)=>LV.o W ((bv.trans (b.mono bv.size)).trans (hW.mono (bv.trans (b.mono bv.size)).size)));replace LV:=I (fun W (hW:Below ki.heap.size ki W)=>And.intro (show aY aZ W o3 [0,2] from hf.below hW) (LV.o W hW));clear hq b bv V0 hf rG
 go_wp2_with fail
 refine(qA _ _ _).mono ?_;rintro e MW ⟨rfl,b⟩;replace BW:=I (BW.o.trans ((b).mono BW.o.size));replace LV:=I (fun W (hW:Below MW.heap.size MW W)=>LV.o W ((b).trans (hW.mono (b).size)));clear b
 go_wp2_with fail
 refine(qA _ _ _).mono ?_;rintro e MX ⟨rfl,b⟩;replace BW:=I (BW.o.trans ((b).mono BW.o.size));replace LV:=I (fun W (hW:Below MX.heap.size MX W)=>LV.o W ((b).trans (hW.mono (b).size)));clear b
 go_wp2_with fail
 refine(qA _ _ _).mono ?_;rintro e zu ⟨rfl,b⟩;replace BW:=I (BW.o.trans ((b).mono BW.o.size));replace LV:=I (fun W (hW:Below zu.heap.size zu W)=>LV.o W ((b).trans (hW.mono (b).size)));clear b;obtain⟨V0,bv⟩:=Fu zu 39 [.int .i64 0,.int .i64 0,.int .i64 0,.int .i64 (-1),.int .i64 1,.int .i64 0,.int .i64 0,.int .i64 (-1),.int .i64 1,.int .i64 0,.int .i64 0,.int .i64 (-1)]
 go_wp2_with fail
 refine(Wl _ [usE 0 0,usE 1 0,usE 1 0] _ 3 (mP [usE 0 0,usE 1 0,usE 1 0] V0 rfl) (by decide)).mono ?_;rintro e zv ⟨⟨bcs,rfl,lP⟩,b⟩;replace BW:=I (BW.o.trans ((bv.trans (b.mono bv.size)).mono BW.o.size));replace LV:=I (fun W (hW:Below zv.heap.size zv W)=>LV.o W ((bv.trans (b.mono bv.size)).trans (hW.mono (bv.trans (b.mono bv.size)).size)));have rG:=I lP;clear b bv V0 lP;obtain⟨V0,bv⟩:=Fu zv 3 [.int .i64 0,.int .i64 1,.int .i64 2]
 go_wp2_with fail
 refine(YO _ (exC [usE 0 0,usE 1 0,usE 1 0]) bcs B 0 0 [0,1,2] _ 3 (Ft (rG.o.below bv) (gS.step (w:=w) HG.o (BW.o.trans (bv.mono BW.o.size))) (by decide)) (mP [0,1,2] V0 rfl) (by decide)).mono ?_;rintro e pO ⟨rfl,b⟩;replace BW:=I (BW.o.trans ((bv.trans (b.mono bv.size)).mono BW.o.size));replace LV:=I (fun W (hW:Below pO.heap.size pO W)=>LV.o W ((bv.trans (b.mono bv.size)).trans (hW.mono (bv.trans (b.mono bv.size)).size)));rw[ebl];clear b bv V0 rG;obtain⟨V0,bv⟩:=Fu pO 79 [.int .i64 (-1),.int .i64 2]
 go_upto_region 6 with(fail)
 generalize pO.alloc (.cells #[.int .i64 (-1),.int .i64 2] 79)=kj at *;replace BW:=I (BW.o.trans ((bv).mono BW.o.size));replace LV:=I (fun W (hW:Below kj.heap.size kj W)=>LV.o W ((bv).trans (hW.mono (bv).size)));replace LV:=I (fun W (hW:Below kj.heap.size kj W)=>And.intro (show aY Pa W (some ⟨pO.heap.size,0,none⟩) Pc from(mP Pc V0 rfl).below hW) (LV.o W hW));clear bv V0
 go_wp2_with fail
 refine(qA _ _ _).mono ?_;rintro e zw ⟨rfl,b⟩;replace BW:=I (BW.o.trans ((b).mono BW.o.size));replace LV:=I (fun W (hW:Below zw.heap.size zw W)=>LV.o W ((b).trans (hW.mono (b).size)));clear b;obtain⟨V0,bv⟩:=Fu zw 39 [.int .i64 1,.int .i64 0,.int .i64 0,.int .i64 (-1)]
 go_wp2_with fail
 refine(Wl _ [usE 1 0] _ 1 (mP [usE 1 0] V0 rfl) (by decide)).mono ?_;rintro e kG ⟨⟨ccs,rfl,lP⟩,b⟩;replace BW:=I (BW.o.trans ((bv.trans (b.mono bv.size)).mono BW.o.size));replace LV:=I (fun W (hW:Below kG.heap.size kG W)=>LV.o W ((bv.trans (b.mono bv.size)).trans (hW.mono (bv.trans (b.mono bv.size)).size)));have rG:=I lP;clear b bv V0 lP;have X1:=hnw kG 26 [.slice none 0 0,.slice none 0 0,.slice none 0 0];have BX:=I (bwA kG (.cells #[.slice none 0 0,.slice none 0 0,.slice none 0 0] 26))
 go_upto_region 7 with(refine sG rfl 26 (.tmp 7) (.tmp 66) rfl kG.heap.size ccs.toArray (by rfl) (by rfl) 26 _ X1.o rG.o.inf rG.o.three rG.o.one ?_;intro be s9 u9;have S9:=I s9;have U9:=I u9;clear s9 u9)
 have b:=U9.o.below BX.o (aO _);have Dn:Th be kG.heap.size (exC [usE 1 0]) ccs:=⟨S9.o,rG.o.below b⟩;replace BW:=I (BW.o.trans ((b).mono BW.o.size));replace LV:=I (fun W (hW:Below be.heap.size be W)=>LV.o W ((b).trans (hW.mono (b).size)));replace LV:=I (fun W (hW:Below be.heap.size be W)=>And.intro (show Th W kG.heap.size (exC [usE 1 0]) ccs from Dn.below hW) (LV.o W hW));clear Dn b S9 U9 X1 BX rG
 go_wp2_with fail
 refine(qA _ _ _).mono ?_;rintro e MY ⟨rfl,b⟩;replace BW:=I (BW.o.trans ((b).mono BW.o.size));replace LV:=I (fun W (hW:Below MY.heap.size MY W)=>LV.o W ((b).trans (hW.mono (b).size)));clear b
 go_wp2_with fail
 refine(qA _ _ _).mono ?_;rintro e zx ⟨rfl,b⟩;replace BW:=I (BW.o.trans ((b).mono BW.o.size));replace LV:=I (fun W (hW:Below zx.heap.size zx W)=>LV.o W ((b).trans (hW.mono (b).size)));clear b;obtain⟨V0,bv⟩:=Fu zx 39 [.int .i64 1,.int .i64 0,.int .i64 0,.int .i64 (-1),.int .i64 1,.int .i64 0,.int .i64 0,.int .i64 (-1)]
 go_wp2_with fail
 refine(Wl _ [usE 1 0,usE 1 0] _ 2 (mP [usE 1 0,usE 1 0] V0 rfl) (by decide)).mono ?_;rintro e vI ⟨⟨dcs,rfl,lP⟩,b⟩;replace BW:=I (BW.o.trans ((bv.trans (b.mono bv.size)).mono BW.o.size));replace LV:=I (fun W (hW:Below vI.heap.size vI W)=>LV.o W ((bv.trans (b.mono bv.size)).trans (hW.mono (bv.trans (b.mono bv.size)).size)));have rG:=I lP;clear b bv V0 lP;have X1:=hnw vI 26 [.slice none 0 0,.slice none 0 0,.slice none 0 0];have BX:=I (bwA vI (.cells #[.slice none 0 0,.slice none 0 0,.slice none 0 0] 26))
 go_upto_region 8 with(refine sG rfl 26 (.tmp 8) (.tmp 70) rfl vI.heap.size dcs.toArray (by rfl) (by rfl) 26 _ X1.o rG.o.inf rG.o.three rG.o.one ?_;intro bf s9 u9;have S9:=I s9;have U9:=I u9;clear s9 u9)
 have b:=U9.o.below BX.o (aO _);have Dn:Th bf vI.heap.size (exC [usE 1 0,usE 1 0]) dcs:=⟨S9.o,rG.o.below b⟩;replace BW:=I (BW.o.trans ((b).mono BW.o.size));replace LV:=I (fun W (hW:Below bf.heap.size bf W)=>LV.o W ((b).trans (hW.mono (b).size)));replace LV:=I (fun W (hW:Below bf.heap.size bf W)=>And.intro (show Th W vI.heap.size (exC [usE 1 0,usE 1 0]) dcs from Dn.below hW) (LV.o W hW));clear Dn b S9 U9 X1 BX rG;refine oK (Ti (pO.heap.size) (kG.heap.size) ccs) (by kernel_rfl) (Zx3 (pO.heap.size) (kG.heap.size) ccs) (jD (by kernel_rfl)) (oJ (by kernel_rfl)) (iV (by kernel_rfl)) ?hs ?he
 case hs =>
  intro i o hi listed a' w' H aU;have hb:=I H.below;obtain⟨t',df⟩:=a';obtain⟨f',rfl,-⟩:=py t' H.tsize;obtain rfl:df=[]:=H.defers;have dP:f' 6 = .slice (some ⟨(pO.heap.size),0,none⟩) 1 1:=H.sm 6 (by kernel_rfl);have cZ:f' 7 = .pointer (some ⟨(kG.heap.size),0,none⟩):=H.sm 7 (by kernel_rfl);have aA:=H.hC aU;clear aU H;rcases ED i (lI.1 hi).1 with rfl | rfl | rfl | rfl | rfl | rfl | rfl | rfl | rfl<;>obtain rfl:=bF hi
  ·clear aA
   rw[cZ];clear dP cZ;have X2:=(LV.o w' hb.o).2.1;refine aP rfl ?_
   go_wp2_with (refine wpList_load_row rfl 26 (.tmp 7) rfl (kG.heap.size) ?x1 26 ccs.toArray (0,0) _ X2.1 Tryz.underlying26 rfl X2.2.inf ?_;(case x1=>rfl))
   exact aI ⟨_,rfl,aG _ _,rfl⟩
  ·clear aA
   clear dP cZ;refine aP rfl ?_
   go_wp2_with fail
   refine(qA _ _ w').mono ?_;rintro e w4 ⟨rfl,b4⟩;have bC:=I b4;clear b4
   go_wp2_with fail
   exact aI ⟨_,rfl,bC.o,rfl⟩
  rw[dP]
  rotate_left
  ·have fT:f' 72=_:=aA 0 72 rfl
   have fY:f' 73=_:=aA 1 73 rfl;have kF:f' 74=_:=aA 2 74 rfl;clear aA;rw[fT,fY,kF];clear fT fY kF dP cZ;have X2:=(LV.o w' hb.o).2.1;have XW:=(LV.o w' hb.o).2.2.1;refine aP rfl ?_
   go_wp2_with fail
   refine(ZE w' (exC [usE 1 0]) ccs B [] none 0 (usE 0 1) Pc _ 1 (Ft X2.2 (gS.step (w:=w) HG.o (BW.o.trans (hb.o.mono BW.o.size))) (by decide)) (.inl rfl) (by decide) XW (by decide)).mono ?_;intro e w4 hq;rw[xe1] at hq;obtain⟨⟨o,cap,rfl,ho⟩,b4⟩:=hq;have HO:=I ho;have bC:=I b4;clear b4 ho X2 XW
   go_wp2_with fail
   exact aI ⟨_,rfl,bC.o,o,cap,rfl,HO.o⟩
  ·have dC:Ti (pO.heap.size) (kG.heap.size) ccs 3 w' (f' 75):=aA 3 75 rfl
   obtain⟨o,cap,dC,ho⟩:=dC;clear aA;rw[dC];clear dC dP cZ;have HO:=I ho;clear ho;refine aP rfl ?_
   go_wp2_with fail
   exact aI ⟨_,rfl,aG _ _,o,cap,rfl,HO.o⟩
  ·have fL:Ti (pO.heap.size) (kG.heap.size) ccs 4 w' (f' 71):=aA 4 71 rfl
   obtain⟨o,cap,fL,ho⟩:=fL;clear aA;rw[fL];clear fL dP cZ;have HO:=I ho;clear ho;refine aP rfl ?_
   go_wp2_with fail
   exact aI ⟨_,rfl,aG _ _,o,cap,rfl,HO.o⟩
  have fL:Ti (pO.heap.size) (kG.heap.size) ccs 4 w' (f' 71):=aA 4 71 rfl;obtain⟨o,cap,fL,ho⟩:=fL;rw[fL];clear fL;clear ho
  rotate_left
  ·have dR:Ti (pO.heap.size) (kG.heap.size) ccs 5 w' (f' 76):=aA 5 76 rfl
   obtain⟨o,cap,dR,ho⟩:=dR;clear aA;rw[dR];clear dR dP cZ;have HO:=I ho;clear ho;refine aP rfl ?_
   go_wp2_with fail
   exact aI ⟨_,rfl,aG _ _,o,cap,rfl,HO.o⟩
  rw[show f' 77=_ from aA 6 77 rfl]
  rotate_left
  all_goals clear aA dP cZ
  all_goals (refine aP rfl ?_;go_wp2_with fail;exact aI ⟨_,rfl,aG _ _,rfl⟩)
 case he =>
  intro listed a' MZ H aD;have rZ:=H.done 7 _ 9 rfl (aD 7 (by decide)) rfl;have Gw:=H.done 8 _ 10 rfl (aD 8 (by decide)) rfl;have aK:=I H.below;obtain⟨zf,hz,rfl⟩:=H.actz [72,73,74,75,71,76,77,9,10] (oL (by kernel_rfl));rw[hz] at rZ Gw;clear H aD hz;simp only[fcL,fnL,Act.put,sbT,scS,scZ];obtain⟨oL72,cL72,e7,ho⟩:=rZ;rw[e7];clear e7;rw[show zf 10=_ from Gw];clear Gw;replace BW:=I (BW.o.trans ((aK.o).mono BW.o.size));replace LV:=I (fun W (hW:Below MZ.heap.size MZ W)=>LV.o W ((aK.o).trans (hW.mono (aK.o).size)));clear aK;clear ho
  go_upto_region 9 with(fail)
  refine oK (Tj (pO.heap.size) (vI.heap.size) dcs) (by kernel_rfl) (Zx4 (pO.heap.size) (vI.heap.size) dcs) (jD (by kernel_rfl)) (oJ (by kernel_rfl)) (iV (by kernel_rfl)) ?hs ?he
  case hs =>
   intro i o hi listed a' w' H aU;have hb:=I H.below;obtain⟨t',df⟩:=a';obtain⟨f',rfl,-⟩:=py t' H.tsize;obtain rfl:df=[]:=H.defers;have dP:f' 6 = .slice (some ⟨(pO.heap.size),0,none⟩) 1 1:=H.sm 6 (by kernel_rfl);have nQ:f' 8 = .pointer (some ⟨(vI.heap.size),0,none⟩):=H.sm 8 (by kernel_rfl);have aA:=H.hC aU;clear aU H;rcases ED i (lI.1 hi).1 with rfl | rfl | rfl | rfl | rfl | rfl | rfl | rfl | rfl<;>obtain rfl:=bF hi
   ·clear aA
    rw[nQ];clear dP nQ;have X2:=(LV.o w' hb.o).1;refine aP rfl ?_
    go_wp2_with (refine wpList_load_row rfl 26 (.tmp 8) rfl (vI.heap.size) ?x1 26 dcs.toArray (0,0) _ X2.1 Tryz.underlying26 rfl X2.2.inf ?_;(case x1=>rfl))
    exact aI ⟨_,rfl,aG _ _,rfl⟩
   ·clear aA
    clear dP nQ;refine aP rfl ?_
    go_wp2_with fail
    refine(qA _ _ w').mono ?_;rintro e w4 ⟨rfl,b4⟩;have bC:=I b4;clear b4
    go_wp2_with fail
    exact aI ⟨_,rfl,bC.o,rfl⟩
   rw[dP]
   rotate_left
   ·have fT:f' 79=_:=aA 0 79 rfl
    have fY:f' 80=_:=aA 1 80 rfl;have kF:f' 81=_:=aA 2 81 rfl;clear aA;rw[fT,fY,kF];clear fT fY kF dP nQ;have X2:=(LV.o w' hb.o).1;have XW:=(LV.o w' hb.o).2.2.1;refine aP rfl ?_
    go_wp2_with fail
    refine(ZE w' (exC [usE 1 0,usE 1 0]) dcs B [] none 0 (usE 0 0) Pc _ 1 (Ft X2.2 (gS.step (w:=w) HG.o (BW.o.trans (hb.o.mono BW.o.size))) (by decide)) (.inl rfl) (by decide) XW (by decide)).mono ?_;intro e w4 hq;rw[xe2] at hq;obtain⟨⟨o,cap,rfl,ho⟩,b4⟩:=hq;have HO:=I ho;have bC:=I b4;clear b4 ho X2 XW
    go_wp2_with fail
    exact aI ⟨_,rfl,bC.o,o,cap,rfl,HO.o⟩
   ·have dC:Tj (pO.heap.size) (vI.heap.size) dcs 3 w' (f' 82):=aA 3 82 rfl
    obtain⟨o,cap,dC,ho⟩:=dC;clear aA;rw[dC];clear dC dP nQ;have HO:=I ho;clear ho;refine aP rfl ?_
    go_wp2_with fail
    exact aI ⟨_,rfl,aG _ _,o,cap,rfl,HO.o⟩
   ·have fL:Tj (pO.heap.size) (vI.heap.size) dcs 4 w' (f' 78):=aA 4 78 rfl
    obtain⟨o,cap,fL,ho⟩:=fL;clear aA;rw[fL];clear fL dP nQ;have HO:=I ho;clear ho;refine aP rfl ?_
    go_wp2_with fail
    exact aI ⟨_,rfl,aG _ _,o,cap,rfl,HO.o⟩
   have fL:Tj (pO.heap.size) (vI.heap.size) dcs 4 w' (f' 78):=aA 4 78 rfl;obtain⟨o,cap,fL,ho⟩:=fL;rw[fL];clear fL;clear ho
   rotate_left
   ·have dR:Tj (pO.heap.size) (vI.heap.size) dcs 5 w' (f' 83):=aA 5 83 rfl
    obtain⟨o,cap,dR,ho⟩:=dR;clear aA;rw[dR];clear dR dP nQ;have HO:=I ho;clear ho;refine aP rfl ?_
    go_wp2_with fail
    exact aI ⟨_,rfl,aG _ _,o,cap,rfl,HO.o⟩
   rw[show f' 84=_ from aA 6 84 rfl]
   rotate_left
   all_goals clear aA dP nQ
   all_goals (refine aP rfl ?_;go_wp2_with fail;exact aI ⟨_,rfl,aG _ _,rfl⟩)
  case he =>
   intro listed a' Vg H aD;have rZ:=H.done 7 _ 11 rfl (aD 7 (by decide)) rfl;have Gw:=H.done 8 _ 12 rfl (aD 8 (by decide)) rfl;have aK:=I H.below;obtain⟨zf,hz,rfl⟩:=H.actz [79,80,81,82,78,83,84,11,12] (oL (by kernel_rfl));rw[hz] at rZ Gw;clear H aD hz;simp only[fcL,fnL,Act.put,sbT,scS,scZ];obtain⟨oL79,cL79,e7,ho⟩:=rZ;rw[e7];clear e7;rw[show zf 12=_ from Gw];clear Gw;replace BW:=I (BW.o.trans ((aK.o).mono BW.o.size));replace LV:=I (fun W (hW:Below Vg.heap.size Vg W)=>LV.o W ((aK.o).trans (hW.mono (aK.o).size)));clear aK;replace LV:=I (fun W (hW:Below Vg.heap.size Vg W)=>And.intro (show aY aZ W oL79 [0,1] from ho.below hW) (LV.o W hW));clear ho
   go_upto_region 10 with(fail)
   have X2:=I (LV.o Vg (aG _ _)).2.2.1;obtain⟨V0,bv⟩:=Fu Vg 3 [.int .i64 0,.int .i64 1]
   go_wp2_with (refine wpList_load_row rfl 26 (.tmp 7) rfl (kG.heap.size) ?x1 26 ccs.toArray (0,0) _ X2.o.1 Tryz.underlying26 rfl X2.o.2.inf ?_;(case x1=>rfl))
   refine(Zxq _ (exC [usE 1 0]) ccs B [0,1] _ 2 (Ft (X2.o.2.below bv) (gS.step (w:=w) HG.o (BW.o.trans (bv.mono BW.o.size))) (by decide)) (mP [0,1] V0 rfl) (by decide)).mono ?_;rintro e NA ⟨rfl,b⟩;replace BW:=I (BW.o.trans ((bv.trans (b.mono bv.size)).mono BW.o.size));replace LV:=I (fun W (hW:Below NA.heap.size NA W)=>LV.o W ((bv.trans (b.mono bv.size)).trans (hW.mono (bv.trans (b.mono bv.size)).size)));rw[eun,eud,show((3:Nat):Int)=3 from rfl];clear X2 V0 bv b
   go_upto_region 11 with(fail)
   refine oK (lF (Z4n (pO.heap.size) (kG.heap.size) ccs)) (by kernel_rfl) (fun _ _ _ _ h _=>h) (jD (by kernel_rfl)) (oJ (by kernel_rfl)) (iV (by kernel_rfl)) ?hs ?he
   case hs =>
    intro i o hi listed a' w' H aU;have hb:=I H.below;obtain⟨t',df⟩:=a';obtain⟨f',rfl,hf⟩:=py t' H.tsize;obtain rfl:df=[]:=H.defers;have cG:f' 1 = .bool true:=H.sm 1 (by kernel_rfl);have eC:f' 2 = .bool true:=H.sm 2 (by kernel_rfl);have bY:f' 4 = .bool true:=H.sm 4 (by kernel_rfl);have cD:f' 5 = .bool true:=H.sm 5 (by kernel_rfl);have dP:f' 6 = .slice (some ⟨(pO.heap.size),0,none⟩) 1 1:=H.sm 6 (by kernel_rfl);have cZ:f' 7 = .pointer (some ⟨(kG.heap.size),0,none⟩):=H.sm 7 (by kernel_rfl);have dO:f' 10 = .int .i64 0:=H.sm 10 (by kernel_rfl);have eG:f' 12 = .int .i64 0:=H.sm 12 (by kernel_rfl);have fM:f' 13 = .int .i64 3:=H.sm 13 (by kernel_rfl);have fN:f' 14 = .bool true:=H.sm 14 (by kernel_rfl);have aA:=H.hL aU hf;clear aU H hf;rcases Zub i (lI.1 hi).1 with rfl | rfl | rfl | rfl | rfl | rfl | rfl | rfl | rfl | rfl | rfl | rfl | rfl | rfl | rfl | rfl | rfl | rfl | rfl | rfl | rfl | rfl | rfl | rfl | rfl | rfl | rfl | rfl | rfl | rfl | rfl | rfl | rfl | rfl | rfl | rfl<;>obtain rfl:=bF hi;rw[cG]
    rotate_left
    rw[aA 0 91 rfl rfl]
    rotate_left
    rw[aA 1 92 rfl rfl]
    rotate_left
    rw[eC,aA 2 93 rfl rfl]
    rotate_left
    rw[aA 3 94 rfl rfl,aA 2 93 rfl rfl]
    rotate_left
    rw[aA 2 93 rfl rfl,aA 4 95 rfl rfl]
    rotate_left
    rw[aA 5 96 rfl rfl,aA 2 93 rfl rfl]
    rotate_left
    rw[bY,aA 6 97 rfl rfl]
    rotate_left
    rw[aA 7 98 rfl rfl,aA 6 97 rfl rfl]
    rotate_left
    rw[aA 6 97 rfl rfl,aA 8 99 rfl rfl]
    rotate_left
    rw[aA 9 100 rfl rfl,aA 6 97 rfl rfl]
    rotate_left
    rw[cD,aA 10 101 rfl rfl]
    rotate_left
    rw[aA 11 102 rfl rfl,aA 10 101 rfl rfl]
    rotate_left
    rw[aA 10 101 rfl rfl,aA 12 103 rfl rfl]
    rotate_left
    rw[aA 13 104 rfl rfl,aA 10 101 rfl rfl]
    rotate_left
    rw[dO,aA 14 105 rfl rfl]
    rotate_left
    rw[aA 15 106 rfl rfl,aA 14 105 rfl rfl]
    rotate_left
    rw[aA 14 105 rfl rfl,aA 16 107 rfl rfl]
    rotate_left
    rw[aA 17 108 rfl rfl,aA 14 105 rfl rfl]
    rotate_left
    rw[eG,aA 18 109 rfl rfl]
    rotate_left
    rw[aA 19 110 rfl rfl,aA 18 109 rfl rfl]
    rotate_left
    rw[aA 18 109 rfl rfl,aA 20 111 rfl rfl]
    rotate_left
    rw[aA 21 112 rfl rfl,aA 18 109 rfl rfl]
    rotate_left
    rw[fN,aA 22 113 rfl rfl]
    rotate_left
    rw[aA 23 114 rfl rfl,aA 22 113 rfl rfl]
    rotate_left
    rw[aA 22 113 rfl rfl,aA 24 115 rfl rfl]
    rotate_left
    rw[aA 25 116 rfl rfl,aA 22 113 rfl rfl]
    rotate_left
    rw[fM,aA 26 117 rfl rfl]
    rotate_left
    rw[aA 27 118 rfl rfl,aA 26 117 rfl rfl]
    rotate_left
    rw[aA 26 117 rfl rfl,aA 28 119 rfl rfl]
    rotate_left
    rw[aA 29 120 rfl rfl,aA 26 117 rfl rfl]
    rotate_left
    ·have oF:=aA 30 121 rfl rfl
     clear aA;rw[cZ,oF];clear oF cG eC bY cD dP cZ dO eG fM fN;have X2:=(LV.o w' hb.o).2.2.1;refine aP rfl ?_
     go_wp2_with (refine FS (by rfl) 26 (.tmp 7) rfl (kG.heap.size) ?x1 26 ccs.toArray (0,0) _ X2.1 Tryz.underlying26 rfl X2.2.inf ?_;(case x1=>rfl))
     exact aI ⟨_,rfl,aG _ _,rfl⟩
    ·have oF:=aA 30 121 rfl rfl
     clear aA;rw[oF];clear oF cG eC bY cD dP cZ dO eG fM fN;refine aP rfl ?_
     go_wp2_with fail
     refine(qA _ _ w').mono ?_;rintro e w4 ⟨rfl,b4⟩;have bC:=I b4;clear b4
     go_wp2_with fail
     exact aI ⟨_,rfl,bC.o,rfl⟩
    rw[dP,aA 30 121 rfl rfl]
    rotate_left
    ·have bg:=aA 31 122 rfl rfl
     have Do:=aA 32 123 rfl rfl;have Dp:=aA 33 124 rfl rfl;have oF:=aA 30 121 rfl rfl;clear aA;rw[bg,Do,Dp,oF];clear bg Do Dp oF cG eC bY cD dP cZ dO eG fM fN;have X2:=(LV.o w' hb.o).2.2.1;have XW:=(LV.o w' hb.o).2.2.2.1;refine aP rfl ?_
     go_wp2_with fail
     refine(Zxt w' (exC [usE 1 0]) ccs B [] none 0 (usE 0 1) Pc _ 1 (Ft X2.2 (gS.step (w:=w) HG.o (BW.o.trans (hb.o.mono BW.o.size))) (by decide)) (.inl rfl) (by decide) XW (by decide)).mono ?_;rintro e w4 ⟨rfl,b4⟩;rw[ekp];have bC:=I b4;clear b4 X2 XW
     go_wp2_with fail
     exact aI ⟨_,rfl,bC.o,rfl⟩
    rw[aA 30 121 rfl rfl,aA 34 125 rfl rfl]
    rotate_left
    all_goals clear aA cG eC bY cD dP cZ dO eG fM fN
    all_goals (refine aP rfl ?_;go_wp2_with fail;exact aI ⟨_,rfl,aG _ _,rfl⟩)
   case he =>
    intro listed a' NC H aD;have Rk:=H.done 35 _ 126 rfl (aD 35 (by decide)) rfl;have aK:=I H.below;obtain⟨zf,hz,rfl⟩:=H.actz [91,92,93,94,95,96,97,98,99,100,101,102,103,104,105,106,107,108,109,110,111,112,113,114,115,116,117,118,119,120,121,122,123,124,125,126] (oL (by kernel_rfl));rw[hz] at Rk;clear H aD hz;simp only[fcL,fnL,Act.put,sbT,scS,scZ];rw[show zf 126=_ from Rk];clear Rk;replace BW:=I (BW.o.trans ((aK.o).mono BW.o.size));replace LV:=I (fun W (hW:Below NC.heap.size NC W)=>LV.o W ((aK.o).trans (hW.mono (aK.o).size)));clear aK
    go_upto_region 13 with(fail)
    refine oK (Hw (kG.heap.size) ccs o3 c3) (by kernel_rfl) (Zud (kG.heap.size) ccs o3 c3) (jD (by kernel_rfl)) (oJ (by kernel_rfl)) (iV (by kernel_rfl)) ?hs ?he
    case hs =>
     intro i o hi listed a' w' H aU;have hb:=I H.below;obtain⟨t',df⟩:=a';obtain⟨f',rfl,-⟩:=py t' H.tsize;obtain rfl:df=[]:=H.defers;have bB:f' 3 = .slice o3 2 c3:=H.sm 3 (by kernel_rfl);have cZ:f' 7 = .pointer (some ⟨(kG.heap.size),0,none⟩):=H.sm 7 (by kernel_rfl);have aA:=H.hC aU;clear aU H;rcases Zuc i (lI.1 hi).1 with rfl | rfl | rfl | rfl | rfl | rfl | rfl | rfl | rfl | rfl | rfl | rfl | rfl | rfl | rfl | rfl | rfl | rfl | rfl | rfl<;>obtain rfl:=bF hi;rw[bB]
     rotate_left
     ·clear aA
      clear bB cZ;have VN:=I (mP (f:=aZ) [0,2] (aC.new w' 3 [.int .i64 0,.int .i64 2]) rfl);have BN:=I (bwA w' (.cells #[.int .i64 0,.int .i64 2] 3));refine aP rfl ?_
      go_wp2_with fail
      exact aI ⟨_,rfl,BN.o,_,rfl,VN.o⟩
     ·have fT:f' 127=_:=aA 0 127 rfl
      have fY:Hw (kG.heap.size) ccs o3 c3 1 w' (f' 128):=aA 1 128 rfl;obtain⟨T0,fY,hG128⟩:=fY;clear aA;rw[fT,fY];clear fT fY bB cZ;have HA:=I ((LV.o w' hb.o).2.2.2.2.1);have HB:=I (hG128);clear hG128;refine aP rfl ?_
      go_wp2_with fail
      refine(Lm w' [0,2] o3 _ c3 2 HA.o HB.o (by decide)).mono ?_;rintro e w4 ⟨rfl,b4⟩;have bC:=I b4;clear b4
      go_wp2_with fail
      exact aI ⟨_,rfl,bC.o,rfl⟩
     rw[show f' 129=_ from aA 2 129 rfl]
     rotate_left
     ·have dC:f' 130=_:=aA 3 130 rfl
      clear aA;rw[dC];clear dC bB cZ;refine aP rfl ?_
      go_wp2_with fail
      refine(qA _ _ w').mono ?_;rintro e w4 ⟨rfl,b4⟩;have bC:=I b4;clear b4
      go_wp2_with fail
      exact aI ⟨_,rfl,bC.o,rfl⟩
     ·have dC:f' 130=_:=aA 3 130 rfl
      clear aA;rw[dC];clear dC bB cZ;refine aP rfl ?_
      go_wp2_with fail
      refine(qA _ _ w').mono ?_;rintro e w4 ⟨rfl,b4⟩;have bC:=I b4;clear b4
      go_wp2_with fail
      exact aI ⟨_,rfl,bC.o,rfl⟩
     ·have fL:f' 131=_:=aA 4 131 rfl
      have dR:f' 132=_:=aA 5 132 rfl;have dC:f' 130=_:=aA 3 130 rfl;clear aA;rw[fL,dR,dC];clear fL dR dC bB cZ;have VN:=I (mP (f:=cQ) [usE 0 1,usE 1 0] (aC.new w' 39 [.int .i64 0,.int .i64 0,.int .i64 1,.int .i64 (-1),.int .i64 1,.int .i64 0,.int .i64 0,.int .i64 (-1)]) rfl);have BN:=I (bwA w' (.cells #[.int .i64 0,.int .i64 0,.int .i64 1,.int .i64 (-1),.int .i64 1,.int .i64 0,.int .i64 0,.int .i64 (-1)] 39));refine aP rfl ?_
      go_wp2_with fail
      exact aI ⟨_,rfl,BN.o,_,rfl,VN.o⟩
     ·have iL:Hw (kG.heap.size) ccs o3 c3 6 w' (f' 133):=aA 6 133 rfl
      obtain⟨T1,iL,hG133⟩:=iL;have dC:f' 130=_:=aA 3 130 rfl;clear aA;rw[iL,dC];clear iL dC bB cZ;have HU:=I hG133;clear hG133;refine aP rfl ?_
      go_wp2_with fail
      refine(Wl w' [usE 0 1,usE 1 0] _ 2 HU.o (by decide)).mono ?_;rintro e w4 ⟨⟨cs,rfl,lP⟩,b4⟩;have rG:=I lP;have bC:=I b4;clear b4 lP
      go_wp2_with fail
      exact aI ⟨_,rfl,bC.o,cs,rfl,rG.o⟩
     ·have jA:Hw (kG.heap.size) ccs o3 c3 7 w' (f' 134):=aA 7 134 rfl
      obtain⟨ecs,jA,NE⟩:=jA;have dC:f' 130=_:=aA 3 130 rfl;clear aA;rw[jA,dC];clear jA dC bB cZ;have My:=I NE;clear NE;refine aP rfl ?_
      go_wp2_with fail
      refine(YK w' (exC [usE 0 1,usE 1 0]) ecs B (Ft My.o (gS.step (w:=w) HG.o (BW.o.trans (hb.o.mono BW.o.size))) (by decide))).mono ?_;intro e w4 hq;unfold Wi at hq;rw[enm] at hq;obtain⟨⟨o,cap,rfl,ho⟩,b4⟩:=hq;have HO:=I (ho.flatR (f:=aZ) (l:=[0,2]) (fun _=>rfl) rfl);have bC:=I b4;clear b4 ho
      go_wp2_with fail
      exact aI ⟨_,rfl,bC.o,o,cap,rfl,HO.o⟩
     ·have dC:f' 130=_:=aA 3 130 rfl
      clear aA;rw[dC];clear dC bB cZ;have VN:=I (mP (f:=aZ) [0,2] (aC.new w' 3 [.int .i64 0,.int .i64 2]) rfl);have BN:=I (bwA w' (.cells #[.int .i64 0,.int .i64 2] 3));refine aP rfl ?_
      go_wp2_with fail
      exact aI ⟨_,rfl,BN.o,_,rfl,VN.o⟩
     ·have fE:Hw (kG.heap.size) ccs o3 c3 8 w' (f' 135):=aA 8 135 rfl
      obtain⟨zy,AC,fE,Mz⟩:=fE;have oA:Hw (kG.heap.size) ccs o3 c3 9 w' (f' 136):=aA 9 136 rfl;obtain⟨T4,oA,hG136⟩:=oA;have dC:f' 130=_:=aA 3 130 rfl;clear aA;rw[fE,oA,dC];clear fE oA dC bB cZ;have HA:=I (Mz);have HB:=I (hG136);clear Mz hG136;refine aP rfl ?_
      go_wp2_with fail
      refine(Lm w' [0,2] zy _ AC 2 HA.o HB.o (by decide)).mono ?_;rintro e w4 ⟨rfl,b4⟩;have bC:=I b4;clear b4
      go_wp2_with fail
      exact aI ⟨_,rfl,bC.o,rfl⟩
     rw[show f' 130=_ from aA 3 130 rfl,show f' 137=_ from aA 10 137 rfl]
     rotate_left
     rw[show f' 138=_ from aA 11 138 rfl]
     rotate_left
     ·have cW:f' 139=_:=aA 12 139 rfl
      clear aA;rw[cZ,cW];clear cW bB cZ;have X2:=(LV.o w' hb.o).2.2.1;refine aP rfl ?_
      go_wp2_with (refine FS (by rfl) 26 (.tmp 7) rfl (kG.heap.size) ?x1 26 ccs.toArray (0,0) _ X2.1 Tryz.underlying26 rfl X2.2.inf ?_;(case x1=>rfl))
      exact aI ⟨_,rfl,aG _ _,rfl⟩
     ·have cW:f' 139=_:=aA 12 139 rfl
      clear aA;rw[cW];clear cW bB cZ;refine aP rfl ?_
      go_wp2_with fail
      refine(qA _ _ w').mono ?_;rintro e w4 ⟨rfl,b4⟩;have bC:=I b4;clear b4
      go_wp2_with fail
      exact aI ⟨_,rfl,bC.o,rfl⟩
     ·have lU:f' 140=_:=aA 13 140 rfl
      have kE:f' 141=_:=aA 14 141 rfl;have cW:f' 139=_:=aA 12 139 rfl;clear aA;rw[lU,kE,cW];clear lU kE cW bB cZ;have X2:=(LV.o w' hb.o).2.2.1;refine aP rfl ?_
      go_wp2_with fail
      refine(Z0n w' (exC [usE 1 0]) ccs B (usE 0 1) (Ft X2.2 (gS.step (w:=w) HG.o (BW.o.trans (hb.o.mono BW.o.size))) (by decide))).mono ?_;intro e w4 hq;unfold xB at hq;rw[etl] at hq;obtain⟨⟨o,cap,rfl,ho⟩,b4⟩:=hq;have HO:=I (Nz ho rfl);have bC:=I b4;clear b4 ho
      go_wp2_with fail
      exact aI ⟨_,rfl,bC.o,o,cap,rfl,HO.o⟩
     ·have cW:f' 139=_:=aA 12 139 rfl
      clear aA;rw[cW];clear cW bB cZ;have VN:=I (mP (f:=aZ) [0] (aC.new w' 3 [.int .i64 0]) rfl);have BN:=I (bwA w' (.cells #[.int .i64 0] 3));refine aP rfl ?_
      go_wp2_with fail
      exact aI ⟨_,rfl,BN.o,_,rfl,VN.o⟩
     ·have jK:Hw (kG.heap.size) ccs o3 c3 15 w' (f' 142):=aA 15 142 rfl
      obtain⟨AD,AE,jK,Na⟩:=jK;have jL:Hw (kG.heap.size) ccs o3 c3 16 w' (f' 143):=aA 16 143 rfl;obtain⟨T5,jL,hG143⟩:=jL;have cW:f' 139=_:=aA 12 139 rfl;clear aA;rw[jK,jL,cW];clear jK jL cW bB cZ;have HA:=I (Na);have HB:=I (hG143);clear Na hG143;refine aP rfl ?_
      go_wp2_with fail
      refine(Lm w' [0] AD _ AE 1 HA.o HB.o (by decide)).mono ?_;rintro e w4 ⟨rfl,b4⟩;have bC:=I b4;clear b4
      go_wp2_with fail
      exact aI ⟨_,rfl,bC.o,rfl⟩
     rw[show f' 139=_ from aA 12 139 rfl,show f' 144=_ from aA 17 144 rfl]
     rotate_left
     rw[show f' 145=_ from aA 18 145 rfl]
     rotate_left
     all_goals clear aA bB cZ
     all_goals (refine aP rfl ?_;go_wp2_with fail;exact aI ⟨_,rfl,aG _ _,rfl⟩)
    case he =>
     intro listed a' AF H aD;have Rl:=H.done 19 _ 15 rfl (aD 19 (by decide)) rfl;have aK:=I H.below;obtain⟨zf,hz,rfl⟩:=H.actz [127,128,129,130,131,132,133,134,135,136,137,138,139,140,141,142,143,144,145,15] (oL (by kernel_rfl));rw[hz] at Rl;clear H aD hz;simp only[fcL,fnL,Act.put,sbT,scS,scZ];rw[show zf 15=_ from Rl];clear Rl;replace BW:=I (BW.o.trans ((aK.o).mono BW.o.size));replace LV:=I (fun W (hW:Below AF.heap.size AF W)=>LV.o W ((aK.o).trans (hW.mono (aK.o).size)));clear aK
     go_upto_region 14 with(fail)
     obtain⟨V0,bv⟩:=Fu AF 3 [.int .i64 0,.int .i64 1];have XM:=I ((LV.o _ bv).1)
     go_wp2_with fail
     refine(Lm _ [0,1] oL79 _ cL79 2 XM.o (mP [0,1] V0 rfl) (by decide)).mono ?_;rintro e km ⟨rfl,b⟩;replace BW:=I (BW.o.trans ((bv.trans (b.mono bv.size)).mono BW.o.size));replace LV:=I (fun W (hW:Below km.heap.size km W)=>LV.o W ((bv.trans (b.mono bv.size)).trans (hW.mono (bv.trans (b.mono bv.size)).size)));clear XM V0 bv b;obtain⟨V0,bv⟩:=Fu km 3 [.int .i64 0,.int .i64 1];have X2:=I (LV.o km (aG _ _)).2.2.1
     go_wp2_with (refine FS (by rfl) 26 (.tmp 7) rfl (kG.heap.size) ?x1 26 ccs.toArray (0,0) _ X2.o.1 Tryz.underlying26 rfl X2.o.2.inf ?_;(case x1=>rfl))
     refine(Z0l _ (exC [usE 1 0]) ccs B [0,1] _ 2 (Ft (X2.o.2.below bv) (gS.step (w:=w) HG.o (BW.o.trans (bv.mono BW.o.size))) (by decide)) (mP [0,1] V0 rfl) (by decide)).mono ?_;intro e AG hq;unfold xB at hq;rw[ecm] at hq;obtain⟨⟨oC,cC,rfl,hoC⟩,b⟩:=hq;replace BW:=I (BW.o.trans ((bv.trans (b.mono bv.size)).mono BW.o.size));replace LV:=I (fun W (hW:Below AG.heap.size AG W)=>LV.o W ((bv.trans (b.mono bv.size)).trans (hW.mono (bv.trans (b.mono bv.size)).size)));have HO:=I (Nz hoC rfl);clear X2 V0 bv b hoC;obtain⟨V0,bv⟩:=Fu AG 3 [.int .i64 0]
     go_wp2_with fail
     refine(Lm _ [0] oC _ cC 1 (HO.o.below bv) (mP [0] V0 rfl) (by decide)).mono ?_;rintro e NG ⟨rfl,b⟩;replace BW:=I (BW.o.trans ((bv.trans (b.mono bv.size)).mono BW.o.size));replace LV:=I (fun W (hW:Below NG.heap.size NG W)=>LV.o W ((bv.trans (b.mono bv.size)).trans (hW.mono (bv.trans (b.mono bv.size)).size)));clear V0 bv b HO
     go_wp2_with fail
     go_ret;exact⟨rfl,BW.o⟩
end
section
open Go.RowKit Go.Sort Go.Maps
def gT(nq nm nu:Nat):Bool:=(decide (nq<=6)||decide (nq=129))&&(decide (nm<=6)||decide (nm=65))&&decide (nu<=14)&&(decide (nu<=8)||decide (nm<=2))&&(decide (nu<=6)||decide (nm<=4))
def Bi(m:Mem):Bool:=decide (m.b.length<=8)&&decide (m.t.length<=18)
def Tk(c:Crw):Bool:=gT c.qs.length c.ms.length c.us.length&&c.qs.all (fun q=>vP q 40 8)&&c.ms.all Bi
structure LenC (c:Crw):Prop where
 q:∀ p∈c.qs,vO p
 m:∀ m∈c.ms,m.b.length<=9223372036854775807/\m.t.length<=9223372036854775807
 nq:c.qs.length<=9223372036854775807
 nm:c.ms.length<=9223372036854775807
 nu:c.us.length<=9223372036854775807
theorem Z0w(w:World)(c:Crw)(cs:List Value)(hc:mO w c cs)(hL:LenC c) :
  Calls Tryz.prog 19 #[.agg cs.toArray] w fun e w'=>e = .returned (.bool (Tk c))/\Below w.heap.size w w':=by
 obtain⟨V,hV⟩:=exq (Tk c);have HV:Hid (V=(gT c.qs.length c.ms.length c.us.length&&c.qs.all (fun q=>vP q 40 8)&&c.ms.all Bi)):=I hV.symm;rw[hV];obtain⟨qo,qc,mo,mc,uo,uc,rfl,dL,cN,dN,-⟩:=hc;have Uv:=I (fun W (hW:Below w.heap.size w W)=>dL.below hW);have nA:=I (fun W (hW:Below w.heap.size w W)=>cN.below hW);have Nb:=I hL.q;have T6:=I hL.m;have lE:=hL.nq;have jI:=hL.nm;have T7:=hL.nu;clear hV dL cN dN hL;generalize c.us=us at *;generalize us.length=nu at *;generalize eW:c.qs.length=nq at *;generalize cY:c.ms.length=nm at *;generalize c.qs=qs at *;generalize c.ms=ms at *;have wN:=I eW;have fF:=I cY;clear eW cY;obtain⟨S,hS⟩:=exq (gT nq nm nu);rw[hS] at HV;have HS:=I hS;clear hS;obtain⟨NS,hNS⟩:=exq ((!S));have iF:=I hNS;clear hNS;have X1:=hnw w 26 [.slice qo nq qc,.slice mo nm mc,.slice uo nu uc];have B1:=I (bwA w (.cells #[.slice qo nq qc,.slice mo nm mc,.slice uo nu uc] 26))
 go_enter Tryz.func19,Tryz.ntmps19
 go_upto_region 1 with(fail)
 generalize w.alloc (.cells #[.slice qo nq qc,.slice mo nm mc,.slice uo nu uc] 26)=w1 at *;obtain⟨c0,c1,c2⟩:=X1.o.c3
 go_cut [56] from 5 to 55 (fun xv wx=>xv = .bool NS/\wx=w1)
 case first =>
  by_cases Bw:6<(nq:Int)
  ·by_cases NH:(nq:Int)=129
   ·by_cases T8:6<(nm:Int)
    ·by_cases AH:(nm:Int)=65
     ·by_cases Rm:14<(nu:Int)
      ·first
       | exfalso;omega
       | (go_wp2;go_meet;case rel=>exact⟨by rw[<- iF.o,<- HS.o];unfold gT;simp;omega,rfl⟩)
      ·by_cases AI:8<(nu:Int)
       ·by_cases kN:2<(nm:Int)
        ·first
         | exfalso;omega
         | (go_wp2;go_meet;case rel=>exact⟨by rw[<- iF.o,<- HS.o];unfold gT;simp;omega,rfl⟩)
        ·by_cases Rn:6<(nu:Int)
         ·by_cases Gx:4<(nm:Int)
          ·first
           | exfalso;omega
           | (go_wp2;go_meet;case rel=>exact⟨by rw[<- iF.o,<- HS.o];unfold gT;simp;omega,rfl⟩)
          ·first
           | exfalso;omega
           | (go_wp2;go_meet;case rel=>exact⟨by rw[<- iF.o,<- HS.o];unfold gT;simp;omega,rfl⟩)
         ·first
          | exfalso;omega
          | (go_wp2;go_meet;case rel=>exact⟨by rw[<- iF.o,<- HS.o];unfold gT;simp;omega,rfl⟩)
       ·by_cases Rn:6<(nu:Int)
        ·by_cases Gx:4<(nm:Int)
         ·first
          | exfalso;omega
          | (go_wp2;go_meet;case rel=>exact⟨by rw[<- iF.o,<- HS.o];unfold gT;simp;omega,rfl⟩)
         ·first
          | exfalso;omega
          | (go_wp2;go_meet;case rel=>exact⟨by rw[<- iF.o,<- HS.o];unfold gT;simp;omega,rfl⟩)
        ·first
         | exfalso;omega
         | (go_wp2;go_meet;case rel=>exact⟨by rw[<- iF.o,<- HS.o];unfold gT;simp;omega,rfl⟩)
     ·first
      | exfalso;omega
      | (go_wp2;go_meet;case rel=>exact⟨by rw[<- iF.o,<- HS.o];unfold gT;simp;omega,rfl⟩)
    ·by_cases Rm:14<(nu:Int)
     ·first
      | exfalso;omega
      | (go_wp2;go_meet;case rel=>exact⟨by rw[<- iF.o,<- HS.o];unfold gT;simp;omega,rfl⟩)
     ·by_cases AI:8<(nu:Int)
      ·by_cases kN:2<(nm:Int)
       ·first
        | exfalso;omega
        | (go_wp2;go_meet;case rel=>exact⟨by rw[<- iF.o,<- HS.o];unfold gT;simp;omega,rfl⟩)
       ·by_cases Rn:6<(nu:Int)
        ·by_cases Gx:4<(nm:Int)
         ·first
          | exfalso;omega
          | (go_wp2;go_meet;case rel=>exact⟨by rw[<- iF.o,<- HS.o];unfold gT;simp;omega,rfl⟩)
         ·first
          | exfalso;omega
          | (go_wp2;go_meet;case rel=>exact⟨by rw[<- iF.o,<- HS.o];unfold gT;simp;omega,rfl⟩)
        ·first
         | exfalso;omega
         | (go_wp2;go_meet;case rel=>exact⟨by rw[<- iF.o,<- HS.o];unfold gT;simp;omega,rfl⟩)
      ·by_cases Rn:6<(nu:Int)
       ·by_cases Gx:4<(nm:Int)
        ·first
         | exfalso;omega
         | (go_wp2;go_meet;case rel=>exact⟨by rw[<- iF.o,<- HS.o];unfold gT;simp;omega,rfl⟩)
        ·first
         | exfalso;omega
         | (go_wp2;go_meet;case rel=>exact⟨by rw[<- iF.o,<- HS.o];unfold gT;simp;omega,rfl⟩)
       ·first
        | exfalso;omega
        | (go_wp2;go_meet;case rel=>exact⟨by rw[<- iF.o,<- HS.o];unfold gT;simp;omega,rfl⟩)
   ·first
    | exfalso;omega
    | (go_wp2;go_meet;case rel=>exact⟨by rw[<- iF.o,<- HS.o];unfold gT;simp;omega,rfl⟩)
  ·by_cases T8:6<(nm:Int)
   ·by_cases AH:(nm:Int)=65
    ·by_cases Rm:14<(nu:Int)
     ·first
      | exfalso;omega
      | (go_wp2;go_meet;case rel=>exact⟨by rw[<- iF.o,<- HS.o];unfold gT;simp;omega,rfl⟩)
     ·by_cases AI:8<(nu:Int)
      ·by_cases kN:2<(nm:Int)
       ·first
        | exfalso;omega
        | (go_wp2;go_meet;case rel=>exact⟨by rw[<- iF.o,<- HS.o];unfold gT;simp;omega,rfl⟩)
       ·by_cases Rn:6<(nu:Int)
        ·by_cases Gx:4<(nm:Int)
         ·first
          | exfalso;omega
          | (go_wp2;go_meet;case rel=>exact⟨by rw[<- iF.o,<- HS.o];unfold gT;simp;omega,rfl⟩)
         ·first
          | exfalso;omega
          | (go_wp2;go_meet;case rel=>exact⟨by rw[<- iF.o,<- HS.o];unfold gT;simp;omega,rfl⟩)
        ·first
         | exfalso;omega
         | (go_wp2;go_meet;case rel=>exact⟨by rw[<- iF.o,<- HS.o];unfold gT;simp;omega,rfl⟩)
      ·by_cases Rn:6<(nu:Int)
       ·by_cases Gx:4<(nm:Int)
        ·first
         | exfalso;omega
         | (go_wp2;go_meet;case rel=>exact⟨by rw[<- iF.o,<- HS.o];unfold gT;simp;omega,rfl⟩)
        ·first
         | exfalso;omega
         | (go_wp2;go_meet;case rel=>exact⟨by rw[<- iF.o,<- HS.o];unfold gT;simp;omega,rfl⟩)
       ·first
        | exfalso;omega
        | (go_wp2;go_meet;case rel=>exact⟨by rw[<- iF.o,<- HS.o];unfold gT;simp;omega,rfl⟩)
    ·first
     | exfalso;omega
     | (go_wp2;go_meet;case rel=>exact⟨by rw[<- iF.o,<- HS.o];unfold gT;simp;omega,rfl⟩)
   ·by_cases Rm:14<(nu:Int)
    ·first
     | exfalso;omega
     | (go_wp2;go_meet;case rel=>exact⟨by rw[<- iF.o,<- HS.o];unfold gT;simp;omega,rfl⟩)
    ·by_cases AI:8<(nu:Int)
     ·by_cases kN:2<(nm:Int)
      ·first
       | exfalso;omega
       | (go_wp2;go_meet;case rel=>exact⟨by rw[<- iF.o,<- HS.o];unfold gT;simp;omega,rfl⟩)
      ·by_cases Rn:6<(nu:Int)
       ·by_cases Gx:4<(nm:Int)
        ·first
         | exfalso;omega
         | (go_wp2;go_meet;case rel=>exact⟨by rw[<- iF.o,<- HS.o];unfold gT;simp;omega,rfl⟩)
        ·first
         | exfalso;omega
         | (go_wp2;go_meet;case rel=>exact⟨by rw[<- iF.o,<- HS.o];unfold gT;simp;omega,rfl⟩)
       ·first
        | exfalso;omega
        | (go_wp2;go_meet;case rel=>exact⟨by rw[<- iF.o,<- HS.o];unfold gT;simp;omega,rfl⟩)
     ·by_cases Rn:6<(nu:Int)
      ·by_cases Gx:4<(nm:Int)
       ·first
        | exfalso;omega
        | (go_wp2;go_meet;case rel=>exact⟨by rw[<- iF.o,<- HS.o];unfold gT;simp;omega,rfl⟩)
       ·first
        | exfalso;omega
        | (go_wp2;go_meet;case rel=>exact⟨by rw[<- iF.o,<- HS.o];unfold gT;simp;omega,rfl⟩)
      ·first
       | exfalso;omega
       | (go_wp2;go_meet;case rel=>exact⟨by rw[<- iF.o,<- HS.o];unfold gT;simp;omega,rfl⟩)
 case rest =>
  obtain⟨rfl,rfl⟩:=hcut;clear c0 c1 c2
  cases NS with
  | true =>
   have HF:Hid (V=false):=I (by rw[HV.o,show S=false by simpa using iF.o];rfl)
   go_wp2
   go_ret;exact⟨aF HF.o.symm,B1.o⟩
  | false =>
   have HV:Hid (V=(qs.all (fun q=>vP q 40 8)&&ms.all Bi)):=I (by rw[HV.o,show S=true by simpa using iF.o,cH])
   go_wp2_with fail
   go_loopw [3] (fun cc wr=>∃ (i:Nat),cc = .int .i64 i/\i<=nq/\Hid (∀ q∈qs.take i,vP q 40 8=true)/\Hid (Below w.heap.size w wr)/\Hid (aC wr w.heap.size 26 [.slice qo nq qc,.slice mo nm mc,.slice uo nu uc])) (fun c _=>(nq-intOf c).toNat)
   case atStart=>exact⟨0,rfl,by omega,I (by simp),B1,X1⟩
   case round =>
    clear B1 X1;obtain⟨i,rfl,hi,ha,hw,hx⟩:=hrel;have c0:=hx.o.cell 0 _ rfl;by_cases aE:i<nq
    ·have e2:=w1i i (by omega)
     have ii:(i:Int)<nq:=by omega
     obtain⟨q,hq⟩:∃ q,qs[i]?=some q:=⟨_,aL (by rw[wN.o];exact aE)⟩;obtain⟨g,off,vs,bI,dT,bH,aH⟩:=(Uv.o wr hw.o).at i q hq;obtain⟨xa,xn,xc,mS,-⟩:=bH.form;subst mS;have Gy:=I (DP q 40 8 (by omega) (by omega) wr _ _ (Nb.o q (bU hq)) bH);have s0:=aH 0 _ rfl;have s1:=aH 1 _ rfl;have s2:=aH 2 _ rfl;have s3:=aH 3 _ rfl;have s4:=aH 4 _ rfl;rw[Nat.add_zero] at s0;have mT:=I bI;have gZ:=I hq;clear hq bH aH dT;subst bI;obtain⟨sv,Ro⟩:=exq (vP q 40 8);rw[Ro] at Gy;have Gz:=I Ro;clear Ro;generalize q.k=q0 at *;generalize aB q.l=q1 at *;generalize aB q.r=q2 at *;generalize q.c=q3 at *
     go_wp2_with fail
     refine Gy.o.mono ?_;rintro e w3 ⟨rfl,b3⟩;have kA:=hw.tr b3;have xK:=I (hx.o.step b3);clear b3 s0 s1 s2 s3 s4 Gy hw hx c0
     cases sv with
     | false =>
      have HF:Hid (V=false):=I (by
       rw[HV.o]
       have:qs.all (fun q=>vP q 40 8)=false:=by
        rw[List.all_eq_false];exact⟨q,bU gZ.o,by rw[Gz.o];simp⟩
       rw[this];rfl)
      go_wp2_with fail
      go_ret;exact⟨aF HF.o.symm,kA.o⟩
     | true =>
      have xZ:Hid (∀ b∈qs.take (i+1),vP b 40 8=true):=I (by
       intro b hb;rw[lN,gZ.o] at hb;rcases kI.1 hb with hb | hb
       ·exact ha.o b hb
       ·simp only[Option.toList_some,List.mem_singleton] at hb;rw[hb];exact Gz.o)
      go_wp2_with fail
      go_roundw
      case rel=>exact⟨i+1,by go_num,by omega,xZ,kA,xK⟩
      case measure=>simp only[intOf];omega
    ·have ii:¬ (i:Int)<nq:=by omega
     obtain rfl:nq=i:=by omega
     have HV:Hid (V=ms.all Bi):=I (by
      rw[HV.o]
      have:qs.all (fun q=>vP q 40 8)=true:=by
       rw[List.all_eq_true];intro q hq;exact ha.o q (by rw[<- wN.o,List.take_length];exact hq)
      rw[this,cH])
     clear ha
     go_wp2_with fail
     clear c0
     go_loopw [4] (fun cc wr=>∃ (j:Nat),cc = .int .i64 j/\j<=nm/\Hid (∀ m∈ms.take j,Bi m=true)/\Hid (Below w.heap.size w wr)/\Hid (aC wr w.heap.size 26 [.slice qo nq qc,.slice mo nm mc,.slice uo nu uc])) (fun c _=>(nm-intOf c).toNat)
     case atStart=>exact⟨0,rfl,by omega,I (by simp),hw,hx⟩
     case round =>
      clear hw hx;obtain⟨j,rfl,hj,ha,hw,hx⟩:=hrel;have c1:=hx.o.cell 1 _ rfl;by_cases aE:j<nm
      ·have e2:=w1i j (by omega)
       have ii:(j:Int)<nm:=by omega
       obtain⟨m,hm⟩:∃ m,ms[j]?=some m:=⟨_,aL (by rw[fF.o];exact aE)⟩;obtain⟨g,off,vs,bI,dT,bH,aH⟩:=(nA.o wr hw.o).at j m hm;obtain⟨bo,bc,ta,tc,rfl,-,-⟩:=bH;have s0:=aH 0 _ rfl;have s1:=aH 1 _ rfl;rw[Nat.add_zero] at s0;have NI:=T6.o m (bU hm);have Gv:=I hm;clear hm aH dT;subst bI;obtain⟨nb,Ma⟩:=exq (m.b.length);obtain⟨nt,Nc⟩:=exq (m.t.length);rw[Ma] at s0 NI;rw[Nc] at s1 NI;have Ve:Hid (Bi m=(decide (nb<=8)&&decide (nt<=18))):=I (by unfold Bi;rw[Ma,Nc])
       have Dq:Hid (Bi m=false->V=false):=I (fun hf=>by
        rw[HV.o,List.all_eq_false]
        exact⟨m,bU Gv.o,by rw[hf];simp⟩)
       clear Ma Nc;by_cases h8:8<nb
       ·have h8i:(8:Int)<nb:=by omega
        have HF:Hid (V=false):=I (Dq.o (by rw[Ve.o,decide_eq_false (by omega),dS]))
        go_wp2_with fail
        go_ret;exact⟨aF HF.o.symm,hw.o⟩
       ·have h8i:¬ (8:Int)<nb:=by omega
        by_cases h18:18<nt
        ·have h18i:(18:Int)<nt:=by omega
         have HF:Hid (V=false):=I (Dq.o (by rw[Ve.o,decide_eq_false (show ¬ nt<=18 by omega),Bool.and_false]))
         go_wp2_with fail
         go_ret;exact⟨aF HF.o.symm,hw.o⟩
        ·have h18i:¬ (18:Int)<nt:=by omega
         have HT:Hid (∀ b∈ms.take (j+1),Bi b=true):=I (by
          intro b hb;rw[lN,Gv.o] at hb;rcases kI.1 hb with hb | hb
          ·exact ha.o b hb
          ·simp only[Option.toList_some,List.mem_singleton] at hb
           rw[hb,Ve.o,decide_eq_true (by omega),decide_eq_true (by omega)];rfl)
         clear ha
         go_wp2_with fail
         go_roundw
         case rel=>exact⟨j+1,by go_num,by omega,HT,hw,hx⟩
         case measure=>simp only[intOf];omega
      ·have ii:¬ (j:Int)<nm:=by omega
       have HF:Hid (V=true):=I (by
        rw[HV.o,List.all_eq_true];intro m hm
        exact ha.o m (by rw[List.take_of_length_le (by rw[fF.o];omega)];exact hm))
       go_wp2_with fail
       go_ret;exact⟨aF HF.o.symm,hw.o⟩
end
section
open Go.RowKit Go.Sort Go.Maps
mutual
theorem ZJ{Q:List Nat->Prop}:∀ p:Prd,dV p=true->((∀ y∈Wb p,y≠[]->Q y)↔∀ k∈oI p,(k.l≠[]->Q k.l)/\(k.r≠[]->Q k.r))
 | .mk k l r c ks,h=>by
  unfold Wb oI;unfold dV at h;by_cases hk:k=0
  ·rw[if_pos hk] at h ⊢
   simp only[dB,List.isEmpty_iff] at h;obtain⟨⟨⟨h1,-⟩,-⟩,-⟩:=h;subst h1
   have e1:Fj []=[]:=by rw[Fj]
   have e2:jB []=[]:=by rw[jB]
   rw[e1,e2];simp
  ·rw[if_neg hk] at h ⊢
   simp only[dB,beq_iff_eq] at h;obtain⟨⟨⟨-,h1⟩,h2⟩,h3⟩:=h;subst h1 h2;rw[List.nil_append,<- ZK ks h3];constructor
   ·intro h y hy
    exact h y (List.mem_cons_of_mem _ (List.mem_cons_of_mem _ hy))
   ·intro h y hy cT
    rcases List.mem_cons.1 hy with e | hy
    ·exact absurd e cT
    rcases List.mem_cons.1 hy with e | hy
    ·exact absurd e cT
    exact h y hy cT
theorem ZK{Q:List Nat->Prop}:∀ ks:List Prd,zX ks=true->((∀ y∈Fj ks,y≠[]->Q y)↔∀ k∈jB ks,(k.l≠[]->Q k.l)/\(k.r≠[]->Q k.r))
 | [],h=>by
  have e1:Fj []=[]:=by rw[Fj]
  have e2:jB []=[]:=by rw[jB]
  rw[e1,e2];simp
 | q::qs,h=>by
  unfold zX at h;rw[dB] at h;unfold Fj jB;have h1:=ZJ (Q:=Q) q h.1;have h2:=ZK (Q:=Q) qs h.2;constructor
  ·intro h k hk
   rcases kI.1 hk with hk | hk
   ·exact h1.1 (fun y hy=>h y (List.mem_append_left _ hy)) k hk
   ·exact h2.1 (fun y hy=>h y (List.mem_append_right _ hy)) k hk
  ·intro h y hy
   rcases kI.1 hy with hy | hy
   ·exact h1.2 (fun k hk=>h k (List.mem_append_left _ hk)) y hy
   ·exact h2.2 (fun k hk=>h k (List.mem_append_right _ hk)) y hy
end
theorem ZL(l:List Bnd):(rvP l []).2=true:=by
 unfold rvP;split<;>rfl
theorem Z0x{p:Prd}{l:List Bnd}(hp:dV p=true)(hv:vbP l=true):(kK [] p).all (fun x=>(rvP l x).2)=(sB p).all (bdV (gY l)):=by
 have hB:∀ x,(rvP l x).2=(jW (gY l) x).isSome:=fun x=>by rw[ng l x hv]
 rw[Bool.eq_iff_iff,List.all_eq_true,List.all_eq_true]
 have h1:(∀ x∈kK [] p,(rvP l x).2=true)↔∀ y∈Wb p,y≠[]->(rvP l y).2=true:=by
  constructor
  ·intro h y hy cT
   exact h y ((EH cT p []).2 (.inr hy))
  ·intro h x hx
   by_cases e:x=[]
   ·subst e;exact ZL l
   ·rcases (EH e p []).1 hx with h2 | h2
    ·cases h2
    ·exact h x h2 e
 rw[h1,ZJ p hp]
 have h2:∀ k:Ky,k∈sB p↔k∈oI p:=fun k=>by
  unfold sB;rw[CG];simp
 have h3:∀ x,(x≠[]->(rvP l x).2=true)↔(jW (gY l) x).isSome=true:=fun x=>by
  rw[<- hB];by_cases e:x=[]
  ·subst e
   exact⟨fun _=>ZL l,fun _ h=>absurd rfl h⟩
  ·exact⟨fun h=>h e,fun h _=>h⟩
 constructor
 ·intro h k hk
  obtain⟨a,b⟩:=h k ((h2 k).1 hk);unfold bdV;rw[dB];exact⟨(h3 _).1 a,(h3 _).1 b⟩
 ·intro h k hk
  have:=h k ((h2 k).2 hk);unfold bdV at this;rw[dB] at this;exact⟨(h3 _).2 this.1,(h3 _).2 this.2⟩
theorem Z0y{p:Prd}{l:List Bnd}(hv:vbP l=true):lW (fR l) p=lW (fV (gY l)) p:=by
 rw[show fR l=fV (gY l) from funext (fun k=>Z37 hv k)]
theorem Zue(p:Prd)(w:World)(P Pb:Nat->Prop)(vs:List Value)(l:List Bnd)(bo:Option Addr)(m bc:Nat)(hp:jV p=true)(aQ:vO p)(h:cK w P p vs)(hm:m=l.length)(qZ:m<=1000000)(hv:vbP l=true)(hk:tJ w Pb l bo) :
  Calls Tryz.prog 166 #[.agg vs.toArray,.slice bo m bc] w fun e w'=>e = .returned (.tuple #[.bool (rI p l).1,.int .i64 (rI p l).2])/\Below w.heap.size w w':=by
 have T9:=Zzl hp;have Nd:=EA p (DH hp);have aJ:=XD hv;have nM:=I (fun W (hW:Below w.heap.size w W)=>Ztj p W P vs (by omega) Nd aQ (h.below hW));have rS:=I (fun W (hW:Below w.heap.size w W)=>Zp9 W Pb l bo m bc hm qZ aJ (hk.below hW));have NJ:=I (fun W (hW:Below w.heap.size w W)=>WU (cO p) p W P vs [] none 0 0 (aO _) Nd (h.below hW) rfl (by omega) (.inl rfl) (fun x hx=>by cases hx));have yT:=Wc p [];have NK:=I (BtS.join p [] Nd (fun x hx=>by cases hx));have qX:=I (fun W lo k lc (hW:Below w.heap.size w W) (sI:k=(kK [] p).length) (hL:pW W lo (kK [] p))=>Ztw W Pb (kK [] p) lo k lc l bo m bc sI (by rw[sI];simp at yT;omega) hL NK.o hm qZ aJ (hk.below hW));have Tv:=I (fun W (hW:Below w.heap.size w W)=>WV (cO p) p W P Pb vs l bo m bc (aO _) (by omega) Nd (h.below hW) hm qZ aJ hv (hk.below hW))
 have HE:Hid (rI p l=if (sB p).all (bdV (gY l))=false then(false,4) else(lW (fV (gY l)) p,0)):=I (by
  unfold rI;rw[hp,hv]
  simp)
 rw[hp] at nM;rw[hv] at rS;rw[Z0x (DH hp) hv] at qX;rw[Z0y hv] at Tv;unfold Hq at NJ;obtain⟨RR,hRR⟩:=exq (rI p l);rw[hRR] at HE ⊢;obtain⟨xa,xn,xc,rfl,-⟩:=h.form;have B1:=I (bwA w (.cells #[.int .i64 p.k,.string (aB p.l),.string (aB p.r),.int .i64 p.c,.slice xa xn xc] 54));have X1:=hnw w 54 [.int .i64 p.k,.string (aB p.l),.string (aB p.r),.int .i64 p.c,.slice xa xn xc];clear T9 Nd aJ aQ h hm hv hk hp yT NK hRR;generalize (sB p).all (bdV (gY l))=bd at *;generalize lW (fV (gY l)) p=tr at *;generalize kK [] p=L at *;generalize p.k=q0 at *;generalize aB p.l=q1 at *;generalize aB p.r=q2 at *;generalize p.c=q3 at *
 go_enter Tryz.func166,Tryz.ntmps166
 go_upto_region 1 with(fail)
 generalize w.alloc (.cells #[.int .i64 q0,.string q1,.string q2,.int .i64 q3,.slice xa xn xc] 54)=w1 at *
 go_wp2_with (refine wpList_load_row rfl 54 (.tmp 2) rfl w.heap.size ?a1 54 #[.int .i64 q0,.string q1,.string q2,.int .i64 q3,.slice xa xn xc] (0,0) _ X1.o Tryz.underlying54 rfl (oT _ rfl) ?_;(case a1=>rfl))
 refine(nM.o w1 B1.o).mono ?_;rintro e w2 ⟨rfl,b2⟩;have B2:=B1.tr b2;have X2:=I (X1.o.step b2);clear b2 X1 B1
 go_wp2_with fail
 refine(rS.o w2 B2.o).mono ?_;rintro e w3 ⟨rfl,b3⟩;have B3:=B2.tr b3;have X3:=I (X2.o.step b3);clear b3 X2 B2
 go_upto_region 3 with(fail)
 go_wp2_with (refine wpList_load_row rfl 54 (.tmp 2) rfl w.heap.size ?a3 54 #[.int .i64 q0,.string q1,.string q2,.int .i64 q3,.slice xa xn xc] (0,0) _ X3.o Tryz.underlying54 rfl (oT _ rfl) ?_;(case a3=>rfl))
 refine(NJ.o w3 B3.o).mono ?_;intro e w4 hq;obtain⟨⟨o4,c4,rfl,NM⟩,b4⟩:=hq;have B4:=B3.tr b4;have X4:=I (X3.o.step b4);have S4:=I NM;obtain⟨k4,AJ⟩:=exq (L.length);have yy:=I AJ.symm;rw[AJ];clear b4 NM X3 B3 AJ
 go_wp2_with fail
 refine(qX.o w4 o4 k4 c4 B4.o yy.o S4.o).mono ?_;rintro e w5 ⟨rfl,rfl⟩
 cases bd with
 | false =>
  have iY:Hid (RR=(false,4)):=I (by rw[HE.o,if_pos rfl])
  go_wp2_with fail
  go_ret2
  exact⟨by rw[iY.o];rfl,B4.o⟩
 | true =>
  have iY:Hid (RR=(tr,0)):=I (by rw[HE.o,if_neg (by decide)])
  go_upto_region 5 with(fail)
  go_wp2_with (refine wpList_load_row rfl 54 (.tmp 2) rfl w.heap.size ?a5 54 #[.int .i64 q0,.string q1,.string q2,.int .i64 q3,.slice xa xn xc] (0,0) _ X4.o Tryz.underlying54 rfl (oT _ rfl) ?_;(case a5=>rfl))
  refine(Tv.o w4 B4.o).mono ?_;rintro e w6 ⟨rfl,b6⟩;have B6:=B4.tr b6;clear b6
  go_wp2_with fail
  go_ret2
  exact⟨by rw[iY.o];rfl,B6.o⟩
end
end Go.Proofs.YtbcgocpihobjnaaGreatDoor
