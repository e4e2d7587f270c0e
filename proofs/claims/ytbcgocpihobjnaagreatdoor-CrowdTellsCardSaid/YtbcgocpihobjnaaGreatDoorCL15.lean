import Derived.Sort.Grow
import Derived.Test.YtbcgocpihobjnaaGreatDoorCL13
set_option linter.all false
set_option maxHeartbeats 8000000
set_option maxRecDepth 100000
namespace Go.Proofs.YtbcgocpihobjnaaGreatDoor
open Go.RowKit Go.Sort
def kyC(k:Ky):List Value:=[.string (aB k.l),.string (aB k.r),.int .i64 k.c]
def KyB(k:Ky):Prop:=(∀ y∈k.l,y<256)/\(∀ y∈k.r,y<256)
theorem Z27(w:World)(x y z:Obj):(((w.alloc x).alloc y).drew).alloc z=grow (w.drewN 1) #[x,y,z]:=by
 rw[alloc_eq_grow,alloc_eq_grow,alloc_eq_grow,grow_grow]
 have:∀ (v:World) (os:Array Obj),(grow v os).drew=grow v.drew os:=fun _ _=>rfl
 rw[this,grow_grow];rfl
theorem Zzi(a b:Ky)(w:World)(ha:KyB a)(hb:KyB b) :
  Calls Tryz.prog 149 #[.agg (kyC a).toArray,.agg (kyC b).toArray] w fun e w'=>e = .returned (.int .i64 (Vn a b))/\∃ q os',w'=grow (w.drewN q) os':=by
 have H1:=I (fun w=>RY a.l b.l w ha.1 hb.1);have H2:=I (fun w=>RY a.r b.r w ha.2 hb.2);have H3:=I (fun w=>U_ a.c b.c w);have HV:=I (show Vn a b=or3 (vL a.l b.l) (vL a.r b.r) (Sh a.c b.c) from rfl);unfold kyC;generalize Vn a b=V at *;generalize vL a.l b.l=x1 at *;generalize vL a.r b.r=x2 at *;generalize Sh a.c b.c=x3 at *;clear ha hb;generalize aB a.l=s1 at *;generalize aB b.l=t1 at *;generalize aB a.r=s2 at *;generalize aB b.r=t2 at *;generalize a.c=s3 at *;generalize b.c=t3 at *;have hx:Hid (aC ((w.alloc (.cells #[.string s1,.string s2,.int .i64 s3] 121)).alloc (.cells #[.string t1,.string t2,.int .i64 t3] 121)) w.heap.size 121 [.string s1,.string s2,.int .i64 s3]):=I (lr _ _ _);have hy:Hid (aC ((w.alloc (.cells #[.string s1,.string s2,.int .i64 s3] 121)).alloc (.cells #[.string t1,.string t2,.int .i64 t3] 121)) (w.heap.size+1) 121 [.string t1,.string t2,.int .i64 t3]):=I (heap_alloc2_new _ _ _);have GW:=I (fun z=>Z27 w (.cells #[.string s1,.string s2,.int .i64 s3] 121) (.cells #[.string t1,.string t2,.int .i64 t3] 121) z)
 go_enter Tryz.func149,Tryz.ntmps149
 go_upto_region 1 with(fail)
 generalize (w.alloc (.cells #[.string s1,.string s2,.int .i64 s3] 121)).alloc (.cells #[.string t1,.string t2,.int .i64 t3] 121)=w1 at *;obtain⟨c1,c2,c3⟩:=hx.o.c3;obtain⟨d1,d2,d3⟩:=hy.o.c3;clear c1 c2 c3 d1 d2 d3;refine Ku [0,1,2,3,5,6,7,8,10,11,12,13] [4,9,14,15,16,17] (fun w'=>aC w' w.heap.size 121 [.string s1,.string s2,.int .i64 s3]/\aC w' (w.heap.size+1) 121 [.string t1,.string t2,.int .i64 t3]) (by kernel_rfl) (by kernel_rfl) (by kernel_rfl) (fun _ _ d _ _ h=>by cases d<;>exact h) ⟨hx.o,hy.o⟩ ?_;simp only[iH,List.filterMap_cons,List.filterMap_nil,List.getElem?_cons_zero,List.getElem?_cons_succ,Option.map_some,List.map_cons,List.map_nil];apply Exists.intro;refine⟨?hh,?ht⟩
 case hh =>
  intro w' bM;obtain⟨c1,c2,c3⟩:=bM.1.c3;obtain⟨d1,d2,d3⟩:=bM.2.c3;clear bM
  repeat still_step
  exact wpStill_nil rfl
 case ht =>
  have SX:=I (show aC w1.drew w.heap.size 121 [.string s1,.string s2,.int .i64 s3]/\aC w1.drew (w.heap.size+1) 121 [.string t1,.string t2,.int .i64 t3] from ⟨hx.o,hy.o⟩);clear hx hy;generalize w1.drew=wd at *;have A4:=bwA wd (.cells #[.int .i64 x1,.int .i64 x2,.int .i64 x3] 3);have SY:=I (And.intro (SX.o.1.step A4) (SX.o.2.step A4));have N4:=hnw wd 3 [.int .i64 x1,.int .i64 x2,.int .i64 x3];clear A4;refine jT ?_
  go_wp2_with fail
  refine(H1.o wd).mono ?_;rintro e w2 ⟨rfl,rfl⟩
  go_wp2_with fail
  refine aI ⟨SX.o,?_⟩;refine jT ?_
  go_wp2_with fail
  refine(H2.o wd).mono ?_;rintro e w2 ⟨rfl,rfl⟩
  go_wp2_with fail
  refine aI ⟨SX.o,?_⟩;refine jT ?_
  go_wp2_with fail
  refine(H3.o wd).mono ?_;rintro e w2 ⟨rfl,rfl⟩
  go_wp2_with fail
  refine aI ⟨SX.o,?_⟩;refine jT ?_
  go_wp2_with fail
  refine aI ⟨SY.o,?_⟩;refine jT ?_;have GX:=I (GW.o (.cells #[.int .i64 x1,.int .i64 x2,.int .i64 x3] 3));generalize wd.alloc (.cells #[.int .i64 x1,.int .i64 x2,.int .i64 x3] 3)=w3 at *
  go_wp2_with fail
  refine(V_ wd.heap.size 3 x1 x2 x3 w3 (N4.o.cell 0 _ rfl) (N4.o.cell 1 _ rfl) (N4.o.cell 2 _ rfl)).mono ?_;rintro e w2 ⟨rfl,rfl⟩
  go_wp2_with fail
  refine aI ⟨SY.o,?_⟩;refine Kt ?_
  go_wp2_with fail
  go_ret;exact⟨mI HV.o.symm,_,_,GX.o⟩
end Go.Proofs.YtbcgocpihobjnaaGreatDoor
