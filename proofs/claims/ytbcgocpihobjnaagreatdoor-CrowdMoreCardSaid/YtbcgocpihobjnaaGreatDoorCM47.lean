import Derived.Test.YtbcgocpihobjnaaGreatDoorCM44
import Derived.Test.YtbcgocpihobjnaaGreatDoorCM45
import Derived.Test.YtbcgocpihobjnaaGreatDoorCM11
import Derived.Test.YtbcgocpihobjnaaGreatDoorCM46
import Derived.Test.YtbcgocpihobjnaaGreatDoorCM43
set_option linter.all false
set_option maxRecDepth 100000
namespace Go.Proofs.YtbcgocpihobjnaaGreatDoor
open Go.RowKit Go.Sort Go.Maps
def Z2p {k:Nat} (x:Zg1 k) (j:Nat) (v:Value) (hv:v.oneCell'=true):Zg1 k:=⟨x.1.set j v,by rw[List.length_set];exact x.2.1,fun u hu=>by
 rcases List.mem_or_eq_of_mem_set hu with h | h
 ·exact x.2.2 u h
 ·rw[h];exact hv⟩
theorem Zvw {k:Nat} (l:List (Zg1 k)) (i j:Nat) (hj:j<k) (b:Zg1 k) (hb:l[i]?=some b) (v:Value) (hv:v.oneCell'=true):(l.flatMap Zlg).set (i*k+j) v=(l.set i (Z2p b j v hv)).flatMap Zlg:=by
 induction l generalizing i with
 | nil=>simp at hb
 | cons x l ih =>
  cases i with
  | zero =>
   simp only[List.getElem?_cons_zero,Option.some.injEq] at hb;subst hb;rw[Nat.zero_mul,Nat.zero_add,List.set_cons_zero,List.flatMap_cons,List.flatMap_cons,List.set_append_left _ _ (by rw[Zb7];exact hj)];rfl
  | succ i =>
   rw[List.getElem?_cons_succ] at hb
   have e:(i+1)*k+j-k=i*k+j:=by rw[Nat.succ_mul];omega
   rw[List.set_cons_succ,List.flatMap_cons,List.flatMap_cons,← ih i hb,List.set_append_right _ _ (by rw[Zb7,Nat.succ_mul];omega),Zb7,e]
theorem OwnK.setCel {w:World} {B n cap g off:Nat} {l:List (Zg1 3)} (h:OwnK w B 3 n cap (l.flatMap Zlg) (some ⟨g,off,none⟩)) {i:Nat} {b:Zg1 3} (hb:l[i]?=some b) (j:Nat) (hj:j<3) (v:Value) (hv:v.oneCell'=true) :
  OwnK (w.setCell ⟨g,off+i*3+j,none⟩ v) B 3 n cap ((l.set i (Z2p b j v hv)).flatMap Zlg) (some ⟨g,off,none⟩)∧w.frozen? ⟨g,off+i*3+j,none⟩=false∧B≤g∧w.cell? ⟨g,off+i*3+j,none⟩=some ((Zlg b).getD j v):=by
 have hi:=(List.getElem?_eq_some_iff.1 hb).1
 have hlen:(l.flatMap Zlg).length=l.length*3:=by rw[List.length_flatMap,List.map_congr_left (fun x _=>Zb7 x),List.map_const',List.sum_replicate_nat]
 have h1:=h.setAt (i*3+j) (by rw[hlen];omega) v;obtain⟨h5,-,h2,h3⟩:=h.reads;have h4:=h.count;have h6:=h.len_le.1;rw[Zvw l i j hj b hb v hv,← Nat.add_assoc] at h1;refine⟨h1,?_,h2,?_⟩
 ·have:=h3 (i*3+j) (by rw[hlen] at h4;omega)
  rwa [← Nat.add_assoc] at this
 ·have h7:=Zeb Zb7 l off h5 i b hb
  have h8:j<(Zlg b).length:=by rw[Zb7];exact hj
  refine h7 j _ ?_;rw[List.getD_eq_getElem?_getD,List.getElem?_eq_getElem h8];rfl
theorem Zgg (l:List Int):l.flatMap Za9=l.map (Value.int .i64):=(Zej l).symm
theorem OwnK.intAt {w:World} {B n cap g off:Nat} {l:List Int} (h:OwnK w B 1 n cap (l.flatMap Za9) (some ⟨g,off,none⟩)) {i:Nat} {x:Int} (hx:l[i]?=some x):w.cell? ⟨g,off+i,none⟩=some (.int .i64 x)∧w.frozen? ⟨g,off+i,none⟩=false∧B≤g:=by
 obtain⟨h1,-,h2,h3⟩:=h.reads;have h4:=h.count;have h6:=h.len_le.1;have hi:=(List.getElem?_eq_some_iff.1 hx).1;rw[Zgg] at h1 h4;rw[List.length_map] at h4;exact⟨h1 i _ (by rw[List.getElem?_map,hx];rfl),h3 i (by omega),h2⟩
theorem OwnK.intSet {w:World} {B n cap g off:Nat} {l:List Int} (h:OwnK w B 1 n cap (l.flatMap Za9) (some ⟨g,off,none⟩)) {i:Nat} (hi:i<l.length) (x:Int):OwnK (w.setCell ⟨g,off+i,none⟩ (.int .i64 x)) B 1 n cap ((l.set i x).flatMap Za9) (some ⟨g,off,none⟩):=by
 have h1:=h.setAt i (by rw[Zgg,List.length_map];exact hi) (.int .i64 x);rw[Zgg,← List.map_set] at h1;rw[Zgg];exact h1
theorem HdR.set {β:Type} {k:Nat} {P:World→β→List Value→Prop} {w:World} {l:List β} {hs:List (Zg1 k)} (h:HdR P w l hs) (i:Nat) {x:β} {v:Zg1 k} (hP:P w x v.1):HdR P w (l.set i x) (hs.set i v):=⟨by rw[List.length_set,List.length_set,h.1],fun j y u h1 h2=>by
 rw[List.getElem?_set] at h1 h2;by_cases e:i=j
 ·rw[if_pos e] at h1 h2
  split at h1
  ·split at h2
   ·obtain rfl:=Option.some.inj h1
    obtain rfl:=Option.some.inj h2;exact hP
   ·cases h2
  ·cases h1
 ·rw[if_neg e] at h1 h2
  exact h.2 j y u h1 h2⟩
theorem HdR.one {β:Type} {k:Nat} {P:World→β→List Value→Prop} {w:World} {x:β} {v:Zg1 k} (hP:P w x v.1):HdR P w [x] [v]:=⟨rfl,fun i y u h1 h2=>by
 match i with
 | 0 =>
  obtain rfl:=Option.some.inj h1;obtain rfl:=Option.some.inj h2;exact hP
 | i+1=>cases h1⟩
def Zqq (bo:Option Addr) (nb bc:Nat) (to':Option Addr) (nt tc:Nat) (mr:Int):Zg1 3:=⟨[.slice bo nb bc,.slice to' nt tc,.int .i64 mr],rfl,by simp[Value.oneCell']⟩
def Zoa (tl:List Int) (wd i:Nat):List Int:=if wd<i then Zen tl wd else tl
theorem Zvx (tl:List Int) (wd:Nat):Zoa tl wd 0=tl:=if_neg (by omega)
theorem Zr5 {tl:List Int} {wd i:Nat} (h:¬ i=wd):Zoa tl wd (i+1)=Zoa tl wd i:=by
 unfold Zoa;by_cases e:wd<i
 ·rw[if_pos e,if_pos (by omega)]
 ·rw[if_neg e,if_neg (by omega)]
theorem Zvy (tl:List Int) (i:Nat):Zoa tl i i=tl:=if_neg (by omega)
theorem Zvz {tl:List Int} {i:Nat} {x:Int} (hx:tl[i]?=some x) (h:x<4096):Zoa tl i (i+1)=tl.set i (x+1):=by
 unfold Zoa Zen
 have e:tl.getD i 4096=x:=by rw[List.getD_eq_getElem?_getD,hx];rfl
 rw[if_pos (by omega),e,if_pos h]
theorem Zv0 {tl:List Int} {i:Nat} {x:Int} (hx:tl[i]?=some x) (h:¬ x<4096):Zoa tl i (i+1)=tl:=by
 unfold Zoa Zen
 have e:tl.getD i 4096=x:=by rw[List.getD_eq_getElem?_getD,hx];rfl
 rw[if_pos (by omega),e,if_neg h]
theorem Zyx (tl:List Int) (wd:Nat):Zoa tl wd tl.length=Zen tl wd:=by
 unfold Zoa;by_cases e:wd<tl.length
 ·rw[if_pos e]
 ·rw[if_neg e]
  unfold Zen;rw[List.getD_eq_getElem?_getD,List.getElem?_eq_none (by omega),if_neg (by decide)]
theorem Z1w {m:Mem} (h:Zos m) (w:Nat):Zos (Zvr m w):=⟨h.1,h.2.1,by show (Zen m.t w).length≤_;rw[Zge];exact h.2.2⟩
theorem Zv1 (t:Array Value) (h:t.size=257):∃ f:Nat→Value,t=#[f 0,f 1,f 2,f 3,f 4,f 5,f 6,f 7,f 8,f 9,f 10,f 11,f 12,f 13,f 14,f 15,f 16,f 17,f 18,f 19,f 20,f 21,f 22,f 23,f 24,f 25,f 26,f 27,f 28,f 29,f 30,f 31,f 32,f 33,f 34,f 35,f 36,f 37,f 38,f 39,f 40,f 41,f 42,f 43,f 44,f 45,f 46,f 47,f 48,f 49,f 50,f 51,f 52,f 53,f 54,f 55,f 56,f 57,f 58,f 59,f 60,f 61,f 62,f 63,f 64,f 65,f 66,f 67,f 68,f 69,f 70,f 71,f 72,f 73,f 74,f 75,f 76,f 77,f 78,f 79,f 80,f 81,f 82,f 83,f 84,f 85,f 86,f 87,f 88,f 89,f 90,f 91,f 92,f 93,f 94,f 95,f 96,f 97,f 98,f 99,f 100,f 101,f 102,f 103,f 104,f 105,f 106,f 107,f 108,f 109,f 110,f 111,f 112,f 113,f 114,f 115,f 116,f 117,f 118,f 119,f 120,f 121,f 122,f 123,f 124,f 125,f 126,f 127,f 128,f 129,f 130,f 131,f 132,f 133,f 134,f 135,f 136,f 137,f 138,f 139,f 140,f 141,f 142,f 143,f 144,f 145,f 146,f 147,f 148,f 149,f 150,f 151,f 152,f 153,f 154,f 155,f 156,f 157,f 158,f 159,f 160,f 161,f 162,f 163,f 164,f 165,f 166,f 167,f 168,f 169,f 170,f 171,f 172,f 173,f 174,f 175,f 176,f 177,f 178,f 179,f 180,f 181,f 182,f 183,f 184,f 185,f 186,f 187,f 188,f 189,f 190,f 191,f 192,f 193,f 194,f 195,f 196,f 197,f 198,f 199,f 200,f 201,f 202,f 203,f 204,f 205,f 206,f 207,f 208,f 209,f 210,f 211,f 212,f 213,f 214,f 215,f 216,f 217,f 218,f 219,f 220,f 221,f 222,f 223,f 224,f 225,f 226,f 227,f 228,f 229,f 230,f 231,f 232,f 233,f 234,f 235,f 236,f 237,f 238,f 239,f 240,f 241,f 242,f 243,f 244,f 245,f 246,f 247,f 248,f 249,f 250,f 251,f 252,f 253,f 254,f 255,f 256]:=by
 obtain⟨l⟩:=t;have hl:l.length=257:=h
 have e:l=(List.range 257).map (fun i=>l.getD i undef):=by
  apply List.ext_getElem
  ·simp[hl]
  ·intro i h1 h2
   simp[List.getD,h1]
 exact⟨fun i=>l.getD i undef,congrArg List.toArray e⟩
theorem Zr6 (i:Nat) (h:i<42):i=0∨i=1∨i=2∨i=3∨i=4∨i=5∨i=6∨i=7∨i=8∨i=9∨i=10∨i=11∨i=12∨i=13∨i=14∨i=15∨i=16∨i=17∨i=18∨i=19∨i=20∨i=21∨i=22∨i=23∨i=24∨i=25∨i=26∨i=27∨i=28∨i=29∨i=30∨i=31∨i=32∨i=33∨i=34∨i=35∨i=36∨i=37∨i=38∨i=39∨i=40∨i=41:=by omega
def t5F (CB XB OB WS:Nat) (so:Option Addr) (n cap:Nat) (us:List Use) (x0 x1 x2 x3:Int) (i:Nat) (W:World) (v:Value):Prop:=match i with
 | 0=>∃ V,v = .slice (some ⟨V,0,none⟩) 0 0∧OwnK W WS 4 0 0 [] (some ⟨V,0,none⟩)
 | 1=>v = .pointer (some ⟨CB,2,none⟩)
 | 2=>v = .slice so n cap
 | 3=>∃ g5 off5 c5,v = .slice (some ⟨g5,off5,none⟩) n c5∧OwnK W WS 4 n c5 (us.flatMap Zbv) (some ⟨g5,off5,none⟩)
 | 4=>v = .agg #[.int .i64 x0,.int .i64 x1,.int .i64 x2,.int .i64 x3]
 | 5=>∃ V,v = .slice (some ⟨V,0,none⟩) 1 1∧Zaf W V 39 [.int .i64 x0,.int .i64 x1,.int .i64 x2,.int .i64 x3]
 | 6=>True
 | 7=>v = .pointer (some ⟨OB,2,none⟩)
 | _=>True
theorem Zyy (CB XB OB WS:Nat) (so:Option Addr) (n cap:Nat) (us:List Use) (x0 x1 x2 x3:Int):∀ i w w' v,t5F CB XB OB WS so n cap us x0 x1 x2 x3 i w v→Below w.heap.size w w'→t5F CB XB OB WS so n cap us x0 x1 x2 x3 i w' v:=by
 intro i w w' v h hb
 match i with
 | 0=>obtain⟨V,h1,h2⟩:=h;exact⟨V,h1,h2.below hb⟩
 | 1=>exact h
 | 2=>exact h
 | 3=>obtain⟨g5,off5,c5,h1,h2⟩:=h;exact⟨g5,off5,c5,h1,h2.below hb⟩
 | 4=>exact h
 | 5=>obtain⟨V,h1,h2⟩:=h;exact⟨V,h1,h2.step hb⟩
 | 6=>trivial
 | 7=>exact h
 | k+8=>trivial
def t7F (CB XB OB WS:Nat) (so:Option Addr) (n cap:Nat) (us:List (Zg1 3)) (bo:Option Addr) (nb bc:Nat) (to':Option Addr) (nt tc:Nat) (mr:Int) (i:Nat) (W:World) (v:Value):Prop:=match i with
 | 0=>∃ V,v = .slice (some ⟨V,0,none⟩) 0 0∧OwnK W WS 3 0 0 [] (some ⟨V,0,none⟩)
 | 1=>v = .pointer (some ⟨CB,1,none⟩)
 | 2=>v = .slice so n cap
 | 3=>∃ g5 off5 c5,v = .slice (some ⟨g5,off5,none⟩) n c5∧OwnK W WS 3 n c5 (us.flatMap Zlg) (some ⟨g5,off5,none⟩)
 | 4=>v = .agg #[.slice bo nb bc,.slice to' nt tc,.int .i64 mr]
 | 5=>∃ V,v = .slice (some ⟨V,0,none⟩) 1 1∧Zaf W V 44 [.slice bo nb bc,.slice to' nt tc,.int .i64 mr]
 | 6=>True
 | 7=>v = .pointer (some ⟨OB,1,none⟩)
 | _=>True
theorem Zyz (CB XB OB WS:Nat) (so:Option Addr) (n cap:Nat) (us:List (Zg1 3)) (bo:Option Addr) (nb bc:Nat) (to':Option Addr) (nt tc:Nat) (mr:Int):∀ i w w' v,t7F CB XB OB WS so n cap us bo nb bc to' nt tc mr i w v→Below w.heap.size w w'→t7F CB XB OB WS so n cap us bo nb bc to' nt tc mr i w' v:=by
 intro i w w' v h hb
 match i with
 | 0=>obtain⟨V,h1,h2⟩:=h;exact⟨V,h1,h2.below hb⟩
 | 1=>exact h
 | 2=>exact h
 | 3=>obtain⟨g5,off5,c5,h1,h2⟩:=h;exact⟨g5,off5,c5,h1,h2.below hb⟩
 | 4=>exact h
 | 5=>obtain⟨V,h1,h2⟩:=h;exact⟨V,h1,h2.step hb⟩
 | 6=>trivial
 | 7=>exact h
 | k+8=>trivial
def Zj9:Bool→Value→Value→Value
 | true,a,_=>a
 | false,_,b=>b
def Z12 (gl ol lc ga oa la ac gd od dc gb ob4 lb bc un ix rl lk ra rk rd sk rb qk:Nat) (ao bo4 lo ro so qo4:Option Addr) (vm bg:Bool) (i:Nat) (W:World) (v:Value):Prop:=match i with
 | 0=>v = .slice ao la ac
 | 1=>v = .int .i64 (la:Nat)
 | 2=>v = .bool vm
 | 3=>v = .bool vm
 | 4=>v=Zj9 vm (.slice ao la ac) undef
 | 5=>v=Zj9 vm (.int .i64 (ix:Nat)) undef
 | 6=>v=Zj9 vm (.pointer (some ⟨ga,oa+ix,none⟩)) undef
 | 7=>v=Zj9 vm (.slice ro ra rk) undef
 | 8=>v=Zj9 vm (.slice (some ⟨gl,ol,none⟩) un lc) undef
 | 9=>v=Zj9 vm (.int .i64 (ix:Nat)) undef
 | 10=>v=Zj9 vm (.pointer (some ⟨gl,ol+ix,none⟩)) undef
 | 11=>v=Zj9 vm (.slice lo rl lk) undef
 | 12=>v=Zj9 vm (.bool true) undef
 | 13=>v=Zj9 vm (.bool false) undef
 | 14=>v = .bool false
 | 15=>v = .bool false
 | 16=>v = .slice (some ⟨gl,ol,none⟩) un lc
 | 17=>v = .int .i64 (ix:Nat)
 | 18=>v = .pointer (some ⟨gl,ol+ix,none⟩)
 | 19=>v = .slice lo rl lk
 | 20=>v = .slice (some ⟨gd,od,none⟩) un dc
 | 21=>v = .int .i64 (ix:Nat)
 | 22=>v = .pointer (some ⟨gd,od+ix,none⟩)
 | 23=>v = .slice so rd sk
 | 24=>v = .bool true
 | 25=>v = .bool false
 | 26=>v = .bool false
 | 27=>v = .bool false
 | 28=>v = .bool bg
 | 29=>v = .bool bg
 | 30=>v=Zj9 bg (.slice (some ⟨gl,ol,none⟩) un lc) undef
 | 31=>v=Zj9 bg (.int .i64 (ix:Nat)) undef
 | 32=>v=Zj9 bg (.pointer (some ⟨gl,ol+ix,none⟩)) undef
 | 33=>v=Zj9 bg (.slice lo rl lk) undef
 | 34=>v=Zj9 bg (.slice bo4 lb bc) undef
 | 35=>v=Zj9 bg (.int .i64 (ix:Nat)) undef
 | 36=>v=Zj9 bg (.pointer (some ⟨gb,ob4+ix,none⟩)) undef
 | 37=>v=Zj9 bg (.slice qo4 rb qk) undef
 | 38=>v=Zj9 bg (.bool true) undef
 | 39=>v=Zj9 bg (.bool false) undef
 | 40=>v = .bool false
 | 41=>v = .bool false
 | _=>True
theorem Zv2 (gl ol lc ga oa la ac gd od dc gb ob4 lb bc un ix rl lk ra rk rd sk rb qk:Nat) (ao bo4 lo ro so qo4:Option Addr) (vm bg:Bool):∀ i w w' v,Z12 gl ol lc ga oa la ac gd od dc gb ob4 lb bc un ix rl lk ra rk rd sk rb qk ao bo4 lo ro so qo4 vm bg i w v→Below w.heap.size w w'→Z12 gl ol lc ga oa la ac gd od dc gb ob4 lb bc un ix rl lk ra rk rd sk rb qk ao bo4 lo ro so qo4 vm bg i w' v:=by
 intro i w w' v h hb
 match i with
 | 0=>exact h
 | 1=>exact h
 | 2=>exact h
 | 3=>exact h
 | 4=>exact h
 | 5=>exact h
 | 6=>exact h
 | 7=>exact h
 | 8=>exact h
 | 9=>exact h
 | 10=>exact h
 | 11=>exact h
 | 12=>exact h
 | 13=>exact h
 | 14=>exact h
 | 15=>exact h
 | 16=>exact h
 | 17=>exact h
 | 18=>exact h
 | 19=>exact h
 | 20=>exact h
 | 21=>exact h
 | 22=>exact h
 | 23=>exact h
 | 24=>exact h
 | 25=>exact h
 | 26=>exact h
 | 27=>exact h
 | 28=>exact h
 | 29=>exact h
 | 30=>exact h
 | 31=>exact h
 | 32=>exact h
 | 33=>exact h
 | 34=>exact h
 | 35=>exact h
 | 36=>exact h
 | 37=>exact h
 | 38=>exact h
 | 39=>exact h
 | 40=>exact h
 | 41=>exact h
 | k+42=>trivial
end Go.Proofs.YtbcgocpihobjnaaGreatDoor
