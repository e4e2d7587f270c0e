import Derived.Sort.Grow
import Derived.Test.YtbcgocpihobjnaaGreatDoorCC13
set_option linter.all false
set_option maxHeartbeats 8000000
set_option maxRecDepth 100000
namespace Go.Proofs.YtbcgocpihobjnaaGreatDoor
open Go.RowKit Go.Sort
def kyC(k:Ky):List Value:=[.string (Zad k.l),.string (Zad k.r),.int .i64 k.c]
def KyB(k:Ky):Prop:=(∀ y∈k.l,y<256)/\(∀ y∈k.r,y<256)
theorem Z3b(w:World)(x y z:Obj):(((w.alloc x).alloc y).drew).alloc z=grow (w.drewN 1) #[x,y,z]:=by
 rw[alloc_eq_grow,alloc_eq_grow,alloc_eq_grow,grow_grow]
 have:∀ (v:World) (os:Array Obj),(grow v os).drew=grow v.drew os:=fun _ _=>rfl
 rw[this,grow_grow];rfl
theorem Zzo(a b:Ky)(w:World)(ha:KyB a)(hb:KyB b) :
  Calls Tryz.prog 149 #[.agg (kyC a).toArray,.agg (kyC b).toArray] w fun e w'=>e = .returned (.int .i64 (Z20 a b))/\∃ q os',w'=grow (w.drewN q) os':=by
 have H1:=ħ (fun w=>Zra a.l b.l w ha.1 hb.1);have H2:=ħ (fun w=>Zra a.r b.r w ha.2 hb.2);have H3:=ħ (fun w=>Zzb a.c b.c w);have HV:=ħ (show Z20 a b=or3 (Zpn a.l b.l) (Zpn a.r b.r) (Z1o a.c b.c) from rfl);unfold kyC;generalize Z20 a b=V at *;generalize Zpn a.l b.l=x1 at *;generalize Zpn a.r b.r=x2 at *;generalize Z1o a.c b.c=x3 at *;clear ha hb;generalize Zad a.l=s1 at *;generalize Zad b.l=t1 at *;generalize Zad a.r=s2 at *;generalize Zad b.r=t2 at *;generalize a.c=s3 at *;generalize b.c=t3 at *;have hx:Hid (Zae ((w.alloc (.cells #[.string s1,.string s2,.int .i64 s3] 121)).alloc (.cells #[.string t1,.string t2,.int .i64 t3] 121)) w.heap.size 121 [.string s1,.string s2,.int .i64 s3]):=ħ (Zc0 _ _ _);have hy:Hid (Zae ((w.alloc (.cells #[.string s1,.string s2,.int .i64 s3] 121)).alloc (.cells #[.string t1,.string t2,.int .i64 t3] 121)) (w.heap.size+1) 121 [.string t1,.string t2,.int .i64 t3]):=ħ (heap_alloc2_new _ _ _);have GW:=ħ (fun z=>Z3b w (.cells #[.string s1,.string s2,.int .i64 s3] 121) (.cells #[.string t1,.string t2,.int .i64 t3] 121) z)
 go_enter Tryz.func149,Tryz.ntmps149
 go_upto_region 1 with(fail)
 generalize (w.alloc (.cells #[.string s1,.string s2,.int .i64 s3] 121)).alloc (.cells #[.string t1,.string t2,.int .i64 t3] 121)=w1 at *;have c1:=hx.o.cell 0 _ rfl;have c2:=hx.o.cell 1 _ rfl;have c3:=hx.o.cell 2 _ rfl;have d1:=hy.o.cell 0 _ rfl;have d2:=hy.o.cell 1 _ rfl;have d3:=hy.o.cell 2 _ rfl;clear c1 c2 c3 d1 d2 d3;refine Za8 [0,1,2,3,5,6,7,8,10,11,12,13] [4,9,14,15,16,17] (fun w'=>Zae w' w.heap.size 121 [.string s1,.string s2,.int .i64 s3]/\Zae w' (w.heap.size+1) 121 [.string t1,.string t2,.int .i64 t3]) (by kernel_rfl) (by kernel_rfl) (by kernel_rfl) (fun _ _ d _ _ h=>by cases d<;>exact h) ⟨hx.o,hy.o⟩ ?_;simp only[Zb6,List.filterMap_cons,List.filterMap_nil,List.getElem?_cons_zero,List.getElem?_cons_succ,Option.map_some,List.map_cons,List.map_nil];apply Exists.intro;refine⟨?hh,?ht⟩
 case hh =>
  intro w' hw';have c1:=hw'.1.cell 0 _ rfl;have c2:=hw'.1.cell 1 _ rfl;have c3:=hw'.1.cell 2 _ rfl;have d1:=hw'.2.cell 0 _ rfl;have d2:=hw'.2.cell 1 _ rfl;have d3:=hw'.2.cell 2 _ rfl;clear hw'
  repeat still_step
  exact wpStill_nil rfl
 case ht =>
  have SX:=ħ (show Zae w1.drew w.heap.size 121 [.string s1,.string s2,.int .i64 s3]/\Zae w1.drew (w.heap.size+1) 121 [.string t1,.string t2,.int .i64 t3] from ⟨hx.o,hy.o⟩);clear hx hy;generalize w1.drew=wd at *;have A4:=(đc wd.heap.size wd).alloc (đd _) (.cells #[.int .i64 x1,.int .i64 x2,.int .i64 x3] 3);have SY:=ħ (And.intro (SX.o.1.step A4) (SX.o.2.step A4));have N4:Hid (Zae (wd.alloc (.cells #[.int .i64 x1,.int .i64 x2,.int .i64 x3] 3)) wd.heap.size 3 [.int .i64 x1,.int .i64 x2,.int .i64 x3]):=ħ (heap_alloc_new wd _);clear A4;refine Zah ?_
  go_wp2_with fail
  refine(H1.o wd).mono ?_;rintro e w2 ⟨rfl,rfl⟩
  go_wp2_with fail
  refine Zaa ⟨SX.o,?_⟩;refine Zah ?_
  go_wp2_with fail
  refine(H2.o wd).mono ?_;rintro e w2 ⟨rfl,rfl⟩
  go_wp2_with fail
  refine Zaa ⟨SX.o,?_⟩;refine Zah ?_
  go_wp2_with fail
  refine(H3.o wd).mono ?_;rintro e w2 ⟨rfl,rfl⟩
  go_wp2_with fail
  refine Zaa ⟨SX.o,?_⟩;refine Zah ?_
  go_wp2_with fail
  refine Zaa ⟨SY.o,?_⟩;refine Zah ?_;have GX:=ħ (GW.o (.cells #[.int .i64 x1,.int .i64 x2,.int .i64 x3] 3));generalize wd.alloc (.cells #[.int .i64 x1,.int .i64 x2,.int .i64 x3] 3)=w3 at *
  go_wp2_with fail
  refine(Zvd wd.heap.size 3 x1 x2 x3 w3 (N4.o.cell 0 _ rfl) (N4.o.cell 1 _ rfl) (N4.o.cell 2 _ rfl)).mono ?_;rintro e w2 ⟨rfl,rfl⟩
  go_wp2_with fail
  refine Zaa ⟨SY.o,?_⟩;refine Zbu ?_
  go_wp2_with fail
  go_ret;exact⟨Zbb HV.o.symm,_,_,GX.o⟩
end Go.Proofs.YtbcgocpihobjnaaGreatDoor
