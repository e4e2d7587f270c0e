import Derived.Test.YtbcgocpihobjnaaGreatDoorCI28
import Derived.Test.YtbcgocpihobjnaaGreatDoorCI22
import Derived.Test.YtbcgocpihobjnaaGreatDoorCI12
import Derived.Test.YtbcgocpihobjnaaGreatDoorCI23
import Derived.Test.YtbcgocpihobjnaaGreatDoorCI13
import Derived.ArgAppend
import Derived.Test.YtbcgocpihobjnaaGreatDoorCI21
import Derived.Test.YtbcgocpihobjnaaGreatDoorShelf
import Derived.Test.YtbcgocpihobjnaaGreatDoorCI27
set_option linter.all false
set_option maxHeartbeats 16000000
set_option maxRecDepth 100000
namespace Go.Proofs.YtbcgocpihobjnaaGreatDoor
section
open Go.RowKit Go.Shelf Go.Sort
theorem Zal.int {w:World} {ao:Option Addr} {l:List Int} (h:Zal Zbk w ao l) (i:Nat) (x:Int) (hx:l[i]?=some x):∃ g off,ao=some ⟨g,off,none⟩∧g<w.heap.size∧w.cell? ⟨g,off+i,none⟩=some (.int .i64 x):=by
 obtain⟨g,off,h1,h2,h3⟩:=h.at Zbp i x hx;refine⟨g,off,h1,h2,?_⟩;have:=h3 0 (.int .i64 x) rfl
 rwa [Nat.mul_one,Nat.add_zero] at this
theorem Z08 (w:World) (ao1 ao2:Option Addr) (n1 n2 c1 c2:Nat) (l1 l2:List Int) (hn1:n1=l1.length) (hn2:n2=l2.length) (h1:Zal Zbk w ao1 l1) (h2:Zal Zbk w ao2 l2) (hbig1:n1≤1000000) (hbig2:n2≤1000000) :
  Calls Tryz.prog 246 #[.slice ao1 n1 c1,.slice ao2 n2 c2] w fun e w'=>e = .returned (.int .i64 (Zfd l1 l2))∧Zpz w w':=by
 have H1:=ħ h1;have H2:=ħ h2;have HN1:=ħ hn1;have HN2:=ħ hn2;obtain⟨V,hV⟩:∃ V,Zfd l1 l2=V:=⟨_,rfl⟩;have HV:=ħ hV;rw[hV];clear h1 h2 hn1 hn2 hV;have B0:=ħ (Zpz.refl w)
 go_enter Tryz.func246,Tryz.ntmps246
 go_wp2_with fail
 go_loopw [11] (fun cc wr=>∃ (i:Nat),cc = .int .i64 i∧i≤n1∧i≤n2∧Hid (Zfd (l1.drop i) (l2.drop i)=V)∧Hid (Zpz w wr)) (fun c _=>(n1-intOf c).toNat)
 case atStart=>exact⟨0,rfl,by omega,by omega,HV,B0⟩
 case round =>
  clear B0 HV;obtain⟨i,rfl,hi1,hi2,hv,hw⟩:=hrel;have e2:IntKind.i64.wrap ((i:Int)+1)=((i+1:Nat):Int):=IntWalk.i64_in _ (by omega);by_cases hlt:i<n1
  ·have ii:(i:Int)<n1:=by omega
   have HK1:Hid (∃ k,l1[i]?=some k):=ħ (by rw[HN1.o] at hlt;exact⟨l1[i],List.getElem?_eq_getElem hlt⟩);obtain⟨k1,hk1⟩:=HK1.o;obtain⟨g1,off1,hao1,hg1,s0⟩:=(H1.o.below hw.o.below).int i k1 hk1;have HG1:=ħ hao1;by_cases hlt2:i<n2
   ·have jj:¬ (n2:Int)≤(i:Int):=by omega
    have jl:(i:Int)<n2:=by omega
    have HK2:Hid (∃ k,l2[i]?=some k):=ħ (by rw[HN2.o] at hlt2;exact⟨l2[i],List.getElem?_eq_getElem hlt2⟩);obtain⟨k2,hk2⟩:=HK2.o;obtain⟨g2,off2,hao2,hg2,t0⟩:=(H2.o.below hw.o.below).int i k2 hk2;have HG2:=ħ hao2;have HC:=ħ (fun w=>Zrs k1 k2 w)
    have HVV:Hid (V=if Znr k1 k2≠0 then Znr k1 k2 else Zfd (l1.drop (i+1)) (l2.drop (i+1))):=ħ (by
     rw[← hv.o,Zb9 l1 i k1 hk1,Zb9 l2 i k2 hk2,Zfd])
    subst hao1;subst hao2;clear hk1 hk2 HK1 HK2 hg1 hg2 hv;generalize Znr k1 k2=x at *
    go_wp2_with fail
    refine (HC.o wr).mono ?_;rintro e w3 ⟨rfl,b3'⟩;subst b3';clear s0 t0;by_cases hx:x=0
    ·have xb:(x != 0)=false:=by rw[hx];rfl
     have HW:Hid (Zfd (l1.drop (i+1)) (l2.drop (i+1))=V):=ħ (by rw[HVV.o,if_neg (by simp[hx])]);clear hx
     go_wp2
     go_roundw
     case rel=>exact⟨i+1,by go_num,by omega,by omega,HW,hw⟩
     case measure=>simp only[intOf];omega
    ·have xb:(x != 0)=true:=by rw[bne_iff_ne];exact hx
     have HW:Hid (V=x):=ħ (by rw[HVV.o,if_pos hx]);clear hx
     go_wp2
     go_ret;exact⟨Za0 HW.o.symm,hw.o⟩
   ·have jj:(n2:Int)≤(i:Int):=by omega
    have HW:Hid (V=1):=ħ (by
     have h2:l2.drop i=[]:=List.drop_eq_nil_of_le (by rw[← HN2.o];omega)
     rw[← hv.o,Zb9 l1 i k1 hk1,h2];rfl)
    subst hao1;clear hk1 HK1 hg1 hv
    go_wp2
    go_ret;exact⟨Za0 HW.o.symm,hw.o⟩
  ·have ii:¬ ((i:Int)<n1):=by omega
   have hd1:l1.drop i=[]:=List.drop_eq_nil_of_le (by rw[← HN1.o];omega);by_cases hlt2:n1<n2
   ·have jj:(n1:Int)<n2:=by omega
    have HW:Hid (V = -1):=ħ (by
     have hl:i<l2.length:=by rw[← HN2.o];omega
     rw[← hv.o,hd1,Zb9 l2 i _ (List.getElem?_eq_getElem hl)];rfl)
    clear hd1
    go_wp2
    go_ret;exact⟨Za0 HW.o.symm,hw.o⟩
   ·have jj:¬ ((n1:Int)<n2):=by omega
    have HW:Hid (V=0):=ħ (by
     have h2:l2.drop i=[]:=List.drop_eq_nil_of_le (by rw[← HN2.o];omega)
     rw[← hv.o,hd1,h2];rfl)
    clear hd1
    go_wp2
    go_ret;exact⟨Za0 HW.o.symm,hw.o⟩
def Zch (b:Bool):List Value:=[.bool b]
def Zlb (w:World) (P:Nat→Prop) (c:List Int×List Bool) (vs:List Value):Prop:=∃ ao cap bo cb,vs=[.slice ao c.1.length cap,.slice bo c.2.length cb]∧c.2.length≤cb ∧
 (c.1=[]∨∃ g off,ao=some ⟨g,off,none⟩∧P g∧g<w.heap.size∧Zau w g off (c.1.flatMap Zbk))∧(c.2=[]∨∃ g off,bo=some ⟨g,off,none⟩∧P g∧g<w.heap.size∧Zau w g off (c.2.flatMap Zch))
theorem Zlb.keeps:Zm1 Zlb:=fun w w' P P' c vs hb hs hP ⟨ao,cap,bo,cb,hv,hcb,hk,hk2⟩=>⟨ao,cap,bo,cb,hv,hcb,by
 rcases hk with hk | ⟨g,off,h1,h2,h3,h4⟩
 ·exact .inl hk
 ·exact .inr ⟨g,off,h1,hP g h2 h3,Nat.lt_of_lt_of_le h3 hs,h4.of_block (hb g h2 h3)⟩,by
 rcases hk2 with hk | ⟨g,off,h1,h2,h3,h4⟩
 ·exact .inl hk
 ·exact .inr ⟨g,off,h1,hP g h2 h3,Nat.lt_of_lt_of_le h3 hs,h4.of_block (hb g h2 h3)⟩⟩
theorem Z3u (vs:Array Value) (h:vs.size=2):(Tryz.prog.info? 228).map (·.size)=some vs.size:=by
 rw[h]
 kernel_rfl
theorem Zw5 (w:World) (ao1 ao2:Option Addr) (n1 n2 c1 c2:Nat) (b1 b2:Value) (l1 l2:List Int) (hb1:b1.oneCell'=true) (hb2:b2.oneCell'=true) (hn1:n1=l1.length) (hn2:n2=l2.length) (h1:Zal Zbk w ao1 l1) (h2:Zal Zbk w ao2 l2) (hbig1:n1≤1000000) (hbig2:n2≤1000000) :
  Calls Tryz.prog 245 #[.agg #[.slice ao1 n1 c1,b1],.agg #[.slice ao2 n2 c2,b2]] w fun e w'=>e = .returned (.int .i64 (Zfd l1 l2))∧Zpz w w':=by
 have bx:=((Below.refl w.heap.size w).alloc (Nat.le_refl _) (.cells #[.slice ao1 n1 c1,b1] 228)).alloc (by simp) (.cells #[.slice ao2 n2 c2,b2] 228);have G1:=ħ (((Zpz.refl w).alloc (.cells #[.slice ao1 n1 c1,b1] 228)).alloc (.cells #[.slice ao2 n2 c2,b2] 228));have HC:=ħ (Z08 _ ao1 ao2 n1 n2 c1 c2 l1 l2 hn1 hn2 (h1.below bx) (h2.below bx) hbig1 hbig2);have X1:Hid (Zae ((w.alloc (.cells #[.slice ao1 n1 c1,b1] 228)).alloc (.cells #[.slice ao2 n2 c2,b2] 228)) w.heap.size 228 [.slice ao1 n1 c1,b1]):=ħ (Za2 _ _ _);have X2:Hid (Zae ((w.alloc (.cells #[.slice ao1 n1 c1,b1] 228)).alloc (.cells #[.slice ao2 n2 c2,b2] 228)) (w.heap.size+1) 228 [.slice ao2 n2 c2,b2]):=ħ (heap_alloc2_new _ _ _);clear bx hn1 hn2 h1 h2
 go_enter Tryz.func245,Tryz.ntmps245
 go_upto_region 1 with (fail)
 generalize (w.alloc (.cells #[.slice ao1 n1 c1,b1] 228)).alloc (.cells #[.slice ao2 n2 c2,b2] 228)=w1 at *;have x0:=X1.o.cell 0 _ rfl;have x1:=X2.o.cell 0 _ rfl
 go_wp2_with fail
 refine HC.o.mono ?_;rintro e w3 ⟨rfl,b3⟩;have B3:=ħ (G1.o.trans b3);clear b3 x0 x1
 go_wp2
 go_ret;exact⟨rfl,B3.o⟩
end
section
open Go.RowKit Go.Shelf Go.Sort
abbrev Cel:=List Int×List Bool
def Z49 (w:World) (g base:Nat) (bad:Nat→Prop) (x:Cel×List Value):Prop :=
 Zlb w (fun h=>base≤h∧¬ bad h∧h≠g) x.1 x.2∧x.1.1.length≤1000
abbrev GE (w:World) (g base:Nat) (bad:Nat→Prop):={x:Cel×List Value // Z49 w g base bad x}
instance (w:World) (g base:Nat) (bad:Nat→Prop):Inhabited (GE w g base bad):=⟨⟨(([],[]),[.slice none 0 0,.slice none 0 0]),⟨none,0,none,0,rfl,Nat.le_refl _,.inl rfl,.inl rfl⟩,by simp⟩⟩
theorem Z6u (w:World) (g base:Nat) (bad:Nat→Prop):SWO (ltOf fun x y:GE w g base bad=>Zfd x.1.1.1 y.1.1.1) where
 irrefl x:=by
  have:Zfd x.1.1.1 x.1.1.1=0:=(Zft _ _).2 rfl;simp[ltOf,this]
 trans x y z h1 h2:=by
  simp only[ltOf,decide_eq_true_eq] at *;have h3:=Zes _ _ _ (Int.le_of_lt h1) (Int.le_of_lt h2);rcases Int.lt_or_eq_of_le h3 with h4 | h4
  ·exact h4
  ·have h5:=(Zft _ _).1 h4
   rw[h5] at h1;have:=Zdc z.1.1.1 y.1.1.1;omega
 ntrans x y z h1 h2:=by
  simp only[ltOf,decide_eq_false_iff_not] at *;intro h3;have a1:=Zdc x.1.1.1 y.1.1.1;have a2:=Zdc y.1.1.1 z.1.1.1;have a3:=Zdc x.1.1.1 z.1.1.1;have:=Zes z.1.1.1 y.1.1.1 x.1.1.1 (by omega) (by omega);omega
theorem Zlb.two {w:World} {P:Nat→Prop} {c:Cel} {vs:List Value} (h:Zlb w P c vs):vs.length=2:=by
 obtain⟨ao,cap,bo,cb,rfl,-⟩:=h;rfl
theorem Zlb.one {w:World} {P:Nat→Prop} {c:Cel} {vs:List Value} (h:Zlb w P c vs):∀ v∈vs,v.oneCell'=true:=by
 obtain⟨ao,cap,bo,cb,rfl,-⟩:=h;simp[Value.oneCell']
theorem Zqs (w:World) (base lo:Nat) (bad:Nat→Prop) (ao:Option Addr) (n cp:Nat) (xs:List Cel) (vss:List (List Value)) (h:RowM Zlb 2 base w lo bad ao n cp xs vss) (hl:∀ c∈xs,c.1.length≤1000) (hn:n≤1000000) :
  Calls Tryz.prog 244 #[.slice ao n cp,.func (.func 245) #[] #[]] w fun e w'=>e = .returned (.tuple #[])∧(∃ ys vss',ys.Perm xs∧ys.Pairwise (fun a b=>leV a b=true)∧RowM Zlb 2 base w' lo bad ao n cp ys vss')∧Only w w' (fun g=>blk ao=some g):=by
 cases ao with
 | none =>
  have hO:=h.own
  have hn0:n=0:=by cases hO with | nil h1 h2 h3=>exact h2
  have hx:xs=[]:=List.eq_nil_of_length_eq_zero (by rw[← h.cnt];exact hn0);subst hx;subst hn0;refine (AnyF.slices_SortFunc_none Tryz.sortCell none cp _ w).mono ?_;rintro e w' ⟨rfl,rfl⟩;exact⟨rfl,⟨[],vss,.nil,.nil,h⟩,Only.refl _ _⟩
 | some a =>
  obtain⟨g,off,si⟩:=a;have hO:=h.own
  have hsi:si=none:=by cases hO;rfl
  subst hsi;have hlt:g<w.heap.size:=(hO.blk_lt rfl).2;have hxl:xs.length=vss.length:=h.len.symm
  have hgood:∀ x∈xs.zip vss,Z49 w g base bad x:=by
   intro x hx;obtain⟨i,hi⟩:=List.mem_iff_getElem?.1 hx;rw[List.getElem?_zip_eq_some] at hi;obtain⟨h1,h2⟩:=hi;refine⟨Zlb.keeps w w _ _ _ _ (fun _ _ _=>rfl) (Nat.le_refl _) (fun y hy _=>⟨hy.1,hy.2.1,fun e=>hy.2.2 (by rw[e];rfl)⟩) (h.each i x.1 _ h1 h2),hl _ (List.mem_of_getElem? h1)⟩
  obtain⟨d,hd⟩:=Zoq _ hgood
  have hd1:d.map (fun x=>x.1.1)=xs:=by
   have:=congrArg (List.map Prod.fst) hd;rw[List.map_map,List.map_fst_zip (by omega)] at this;exact this
  have hd2:d.flatMap (fun x=>x.1.2)=vss.flatten:=by
   have:=congrArg (List.map Prod.snd) hd;rw[List.map_map,List.map_snd_zip (by omega)] at this;rw[← this,List.flatMap_def];rfl
  have hdl:d.length=n:=by rw[h.cnt,← hd1,List.length_map]
  have hO':=hO;rw[← hd2] at hO'
  have hk2:∀ x:GE w g base bad,x.1.2.length=2:=fun x=>x.2.1.two
  have hH:=OwnK.holds (fun x:GE w g base bad=>x.1.2) 2 hk2 hO';have eg:∀ args w,(callFunc 245 args).run Tryz.prog w = .ok (.enter 245 args) w:=enters_of Tryz.func245 (by kernel_rfl) rfl
  have hkeep:∀ (m:Nat) (os:Array Obj) (dk:Array (GE w g base bad)),dk.size=d.length→Only w (sortWorldK (fun x:GE w g base bad=>x.1.2) 2 w g off m dk os) (· = g):=fun m os dk hs=>(OwnK.sorted (fun x:GE w g base bad=>x.1.2) 2 hk2 (m:=m) (os:=os) (d:=dk) hO' hs).2
  have hone:∀ x:GE w g base bad,∃ a c b cb,x.1.2=[.slice a x.1.1.1.length c,.slice b x.1.1.2.length cb]∧(x.1.1.1=[]∨∃ g' off',a=some ⟨g',off',none⟩∧(base≤g'∧¬ bad g'∧g'≠g)∧g'<w.heap.size∧Zau w g' off' (x.1.1.1.flatMap Zbk)):=fun x=>by
   obtain⟨a,c,b,cb,hv,_,hr,_⟩:=x.2.1;exact⟨a,c,b,cb,hv,hr⟩
  have hkr:∀ (x:GE w g base bad) (a:Option Addr) (W:World),Only w W (· = g)→(x.1.1.1=[]∨∃ g' off',a=some ⟨g',off',none⟩∧(base≤g'∧¬ bad g'∧g'≠g)∧g'<w.heap.size∧Zau w g' off' (x.1.1.1.flatMap Zbk))→Zal Zbk W a x.1.1.1:=fun x a W hW hr=>by
   rcases hr with hr | ⟨g',off',h1,h2,h3,h4⟩
   ·exact .inl hr
   ·exact .inr ⟨g',off',h1,Nat.lt_of_lt_of_le h3 hW.size,h4.of_block (hW.block g' h3 h2.2.2)⟩
  have hc:=AnyQ.slices_SortFunc Tryz.sortCell 2 Tryz.isAgg228 Tryz.sizeOf228 (fun x:GE w g base bad=>x.1.2) hk2 (fun x v hv=>x.2.1.one v hv) (fun x y=>Zfd x.1.1.1 y.1.1.1) (Z6u w g base bad) 245 #[] g off cp d.toArray w eg
   (fun m os dk hs x y=>by
    obtain⟨a1,c1,b1,cb1,hv1,hr1⟩:=hone x;obtain⟨a2,c2,b2,cb2,hv2,hr2⟩:=hone y;have hW:=hkeep m os dk (by simpa using hs);have:=Zw5 (sortWorldK (fun x:GE w g base bad=>x.1.2) 2 w g off m dk os) a1 a2 x.1.1.1.length y.1.1.1.length c1 c2 (.slice b1 x.1.1.2.length cb1) (.slice b2 y.1.1.2.length cb2) x.1.1.1 y.1.1.1 rfl rfl rfl rfl (hkr x a1 _ hW hr1) (hkr y a2 _ hW hr2) (Nat.le_trans x.2.2 (by omega)) (Nat.le_trans y.2.2 (by omega));rw[show #[Value.slice a1 x.1.1.1.length c1,Value.slice b1 x.1.1.2.length cb1]=x.1.2.toArray by rw[hv1],show #[Value.slice a2 y.1.1.1.length c2,Value.slice b2 y.1.1.2.length cb2]=y.1.2.toArray by rw[hv2]] at this
    exact this) hH hlt (by simp;omega)
  rw[List.size_toArray,hdl] at hc;refine hc.mono ?_;rintro e w' ⟨rfl,d',m,os,hp,hs,rfl⟩;obtain⟨p1,_,p3⟩:=hp
  have hsz:d'.size=d.length:=by simpa using p1
  have hpp:d'.toList.Perm d:=by
   have e1:d'.extract 0 n=d':=by rw[← hdl,← hsz];exact Array.extract_size
   have e2:d.toArray.extract 0 n=d.toArray:=by rw[← hdl,← List.size_toArray];exact Array.extract_size
   rw[e1,e2] at p3;simpa using p3
  obtain⟨hS,hOn⟩:=OwnK.sorted (fun x:GE w g base bad=>x.1.2) 2 hk2 (m:=m) (os:=os) (d:=d') hO' hsz;refine⟨rfl,⟨d'.toList.map (fun x=>x.1.1),d'.toList.map (fun x=>x.1.2),by rw[← hd1];exact hpp.map _,?_,?_⟩,hOn.mono (fun x _ hx=>by rw[hx];rfl)⟩
  ·rw[List.pairwise_iff_getElem]
   intro i j hi hj hij;rw[List.length_map,Array.length_toList] at hi hj;have:=hs i j (Nat.zero_le _) hij (by omega);rw[getElem!_pos d' i hi,getElem!_pos d' j hj] at this;simp only[List.getElem_map,Array.getElem_toList];simp only[ltOf,decide_eq_false_iff_not] at this;have h1:=Zdc d'[i].1.1.1 d'[j].1.1.1;unfold leV;rw[decide_eq_true_eq];omega
  refine⟨?_,by rw[List.length_map,List.length_map],by rw[List.length_map,Array.length_toList];omega,fun vs hv=>?_,fun i x vs hx hv=>?_⟩
  ·rw[← List.flatMap_def];exact hS
  ·obtain⟨x,_,rfl⟩:=List.mem_map.1 hv
   exact hk2 x
  ·rw[List.getElem?_map] at hx
   rw[List.getElem?_map] at hv;obtain⟨y,hy,rfl⟩:=Option.map_eq_some_iff.1 hx;rw[hy] at hv;obtain rfl:=Option.some.inj hv;exact Zlb.keeps w _ _ _ _ _ (fun z hz hl=>hOn.block z hl hz.2.2) hOn.size (fun z hz _=>⟨hz.1,hz.2.1,fun e=>hz.2.2 (Option.some.inj e).symm⟩) y.2.1
end
section
open Go.RowKit Go.Sort
structure SpcR (w:World) (ns:List (List Nat)) (ao:Option Addr) (n:Nat):Prop where
 cnt:n=ns.length
 strs:Zf3 w ao ns
 byts:∀ s∈ns,NmB s
 asc:Zlx ns
 big:n≤100
theorem SpcR.step {w w':World} {ns:List (List Nat)} {ao:Option Addr} {n:Nat} (h:SpcR w ns ao n) (hb:Below w.heap.size w w'):SpcR w' ns ao n:=⟨h.cnt,h.strs.below hb,h.byts,h.asc,h.big⟩
structure TruB (X Y D:Nat) (ns:List (List Nat)) (ao:Option Addr) (n cp:Nat) (most:Int) (c2 c3:Value) (vo:Option Addr) (vc:Nat) (v:List Int) (w:World):Prop where
 bx:Zae w X 191 [.pointer (some ⟨D,0,none⟩)]
 bd:Zae w D 218 [.slice ao n cp,.int .i64 most,c2,c3]
 bv:Zae w Y 33 [.slice vo v.length vc]
 vals:Zal Zbk w vo v
 spc:SpcR w ns ao n
theorem TruB.step {X Y D:Nat} {ns:List (List Nat)} {ao:Option Addr} {n cp:Nat} {most:Int} {c2 c3:Value} {vo:Option Addr} {vc:Nat} {v:List Int} {w w':World} (h:TruB X Y D ns ao n cp most c2 c3 vo vc v w) (hb:Below w.heap.size w w'):TruB X Y D ns ao n cp most c2 c3 vo vc v w' :=
 ⟨h.bx.step hb,h.bd.step hb,h.bv.step hb,h.vals.below hb,h.spc.step hb⟩
theorem Z5a (t:Array Value) (h:t.size=26):∃ f:Nat→Value,t=#[f 0,f 1,f 2,f 3,f 4,f 5,f 6,f 7,f 8,f 9,f 10,f 11,f 12,f 13,f 14,f 15,f 16,f 17,f 18,f 19,f 20,f 21,f 22,f 23,f 24,f 25]:=by
 obtain⟨l⟩:=t;have hl:l.length=26:=h
 have e:l=(List.range 26).map (fun i=>l.getD i undef):=by
  apply List.ext_getElem
  ·simp[hl]
  ·intro i h1 h2
   simp[List.getD,h1]
 exact⟨fun i=>l.getD i undef,congrArg List.toArray e⟩
theorem Zw6 (i:Nat) (h:i<7):i=0∨i=1∨i=2∨i=3∨i=4∨i=5∨i=6:=by omega
def c1F (D N:Nat) (ao:Option Addr) (n cp:Nat) (most:Int) (y1 y2:ByteArray) (y3:Int) (i1 i2:Nat) (i:Nat) (W:World) (v:Value):Prop:=match i with
 | 0=>v = .pointer (some ⟨D,0,none⟩)
 | 1=>v = .pointer (some ⟨D,0,none⟩)
 | 2=>v = .pointer (some ⟨D,0,none⟩)
 | 3=>v = .agg #[.slice ao n cp,.int .i64 most]
 | 4=>v = .agg #[.string y1,.string y2,.int .i64 y3]
 | 5=>v = .agg #[.int .i64 (i1:Int),.int .i64 (i2:Int),.int .i64 y3]
 | 6=>∃ A,v = .pointer (some ⟨A,0,none⟩)∧Zae W A 259 Z6k∧N≤A
 | _=>True
theorem Z09 (D N:Nat) (ao:Option Addr) (n cp:Nat) (most:Int) (y1 y2:ByteArray) (y3:Int) (i1 i2:Nat):∀ i w w' v,c1F D N ao n cp most y1 y2 y3 i1 i2 i w v→Below w.heap.size w w'→c1F D N ao n cp most y1 y2 y3 i1 i2 i w' v:=by
 intro i w w' v h hb
 match i with
 | 0=>exact h
 | 1=>exact h
 | 2=>exact h
 | 3=>exact h
 | 4=>exact h
 | 5=>exact h
 | 6=>obtain⟨A,h1,h2,h3⟩:=h;exact⟨A,h1,h2.step hb,h3⟩
 | k+7=>trivial
theorem Zw7 (X Y D:Nat) (ns:List (List Nat)) (ao:Option Addr) (n cp:Nat) (most:Int) (c2 c3:Value) (vo:Option Addr) (vc:Nat) (v:List Int) (k:Ky) (w:World) (h:TruB X Y D ns ao n cp most c2 c3 vo vc v w) (hk:NmB k.l∧NmB k.r) (hkn:Zfs ns k.l=true∧Zfs ns k.r=true) (hvl:v.length=n+1) (hvb:∀ i,0≤gv v i∧gv v i≤100000) :
  Calls Tryz.prog 242 #[.agg (kyC k).toArray,.pointer (some ⟨X,0,none⟩),.pointer (some ⟨Y,0,none⟩)] w fun e w'=>e = .returned (.bool (fK ns (gv v) k))∧Below w.heap.size w w':=by
 have bx:=(Below.refl w.heap.size w).alloc (Nat.le_refl _) (.cells (kyC k).toArray 121);have B1:=ħ bx;have H1:=ħ (h.step bx);have X1:Hid (Zae (w.alloc (.cells (kyC k).toArray 121)) w.heap.size 121 (kyC k)):=ħ (heap_alloc_new w _);have HOF:=ħ (fun W (hs:SpcR W ns ao n)=>Z2w W ao n cp most ns k hs.cnt hs.strs hs.byts hs.asc (by have:=hs.big;omega) hk.1 hk.2);have HVL:=ħ hvl;have HVB:=ħ hvb;have HV:Hid (fK ns (gv v) k=decide (gv v (Zin ns k.l)-gv v (Zin ns k.r)≤k.c)):=ħ rfl
 have e1:Zll ns k.l=(Zin ns k.l:Int):=by unfold Zll;rw[if_pos hkn.1]
 have e2:Zll ns k.r=(Zin ns k.r:Int):=by unfold Zll;rw[if_pos hkn.2]
 have hi1:=Zm2 hkn.1;have hi2:=Zm2 hkn.2;rw[← h.spc.cnt] at hi1 hi2;rw[e1,e2] at HOF;have HG1:=ħ (Zwx (l:=v) (i:=Zin ns k.l) (by omega));have HG2:=ħ (Zwx (l:=v) (i:=Zin ns k.r) (by omega));have g1:=hvb (Zin ns k.l);have g2:=hvb (Zin ns k.r);rw[HV.o];clear HV e1 e2 hk hkn hvb bx h;generalize gv v (Zin ns k.l)=z1 at *;generalize gv v (Zin ns k.r)=z2 at *;generalize Zin ns k.l=i1 at *;generalize Zin ns k.r=i2 at *;have HKX:Hid (kyC k=[.string (Zac k.l),.string (Zac k.r),.int .i64 k.c]):=ħ rfl;rw[HKX.o] at B1 X1 H1 HOF ⊢;clear HKX;generalize Zac k.l=y1 at *;generalize Zac k.r=y2 at *;generalize k.c=y3 at *
 go_enter Tryz.func242,Tryz.ntmps242
 go_upto_region 1 with (fail)
 generalize w.alloc (.cells #[.string y1,.string y2,.int .i64 y3] 121)=w1 at *;refine Zlg 7 0 (c1F D w1.heap.size ao n cp most y1 y2 y3 i1 i2) (by kernel_rfl) rfl (Z09 D w1.heap.size ao n cp most y1 y2 y3 i1 i2) (Zb4 (by kernel_rfl)) (Zhm (by kernel_rfl)) (Zzz (by kernel_rfl)) (Zvh (by kernel_rfl)) ?hs ?he
 case hs =>
  intro i o hin hi listed a' w' H hl2;have hl3:=Zap hl2;have hb:=ħ H.below;have s1:=H.same 1 (Zai (by kernel_rfl));have s3:=H.same 3 (Zai (by kernel_rfl));have hdn:=H.done;have hdf:=H.defers;have hts:=H.tsize;clear hl2 H;obtain⟨t',df⟩:=a';obtain⟨f',rfl⟩:=Z5a t' hts;have hdf':df=[]:=hdf;subst hdf';have gs1:f' 1 = .pointer (some ⟨X,0,none⟩):=s1;have gs3:f' 3 = .pointer (some ⟨w.heap.size,0,none⟩):=s3;clear s1 s3;clear hdf hts;have hcases:i=0∨i=1∨i=2∨i=3∨i=4∨i=5∨i=6:=Zw6 i hin;clear hin;rcases hcases with rfl | rfl | rfl | rfl | rfl | rfl | rfl
  ·obtain rfl:=Option.some.inj hi
   clear hdn hl3;rw[gs1];clear gs1 gs3;have x0:=(H1.o.step hb.o).bx.cell 0 _ rfl;refine Zab rfl ?_
   go_wp2_with fail
   exact Zaa ⟨_,rfl,Below.refl _ _,rfl⟩
  ·obtain rfl:=Option.some.inj hi
   have dv0:f' 6 = .pointer (some ⟨D,0,none⟩):=hdn 0 _ 6 rfl (hl3 0 (by rfl)) rfl;clear hdn hl3;rw[dv0];clear dv0 gs1 gs3;refine Zab rfl ?_
   go_wp2_with fail
   exact Zaa ⟨_,rfl,Below.refl _ _,rfl⟩
  ·obtain rfl:=Option.some.inj hi
   have dv1:f' 7 = .pointer (some ⟨D,0,none⟩):=hdn 1 _ 7 rfl (hl3 1 (by rfl)) rfl;clear hdn hl3;rw[dv1];clear dv1 gs1 gs3;refine Zab rfl ?_
   go_wp2_with fail
   exact Zaa ⟨_,rfl,Below.refl _ _,rfl⟩
  ·obtain rfl:=Option.some.inj hi
   have dv2:f' 8 = .pointer (some ⟨D,0,none⟩):=hdn 2 _ 8 rfl (hl3 2 (by rfl)) rfl;clear hdn hl3;rw[dv2];clear dv2 gs1 gs3;have d0:=(H1.o.step hb.o).bd.cell 0 _ rfl;have d1:=(H1.o.step hb.o).bd.cell 1 _ rfl;refine Zab rfl ?_
   go_wp2_with fail
   exact Zaa ⟨_,rfl,Below.refl _ _,rfl⟩
  ·obtain rfl:=Option.some.inj hi
   clear hdn hl3;rw[gs3];clear gs1 gs3;have k0:=(X1.o.step hb.o).cell 0 _ rfl;have k1:=(X1.o.step hb.o).cell 1 _ rfl;have k2:=(X1.o.step hb.o).cell 2 _ rfl;refine Zab rfl ?_
   go_wp2_with fail
   exact Zaa ⟨_,rfl,Below.refl _ _,rfl⟩
  ·obtain rfl:=Option.some.inj hi
   have dv3:f' 9 = .agg #[.slice ao n cp,.int .i64 most]:=hdn 3 _ 9 rfl (hl3 3 (by rfl)) rfl;have dv4:f' 10 = .agg #[.string y1,.string y2,.int .i64 y3]:=hdn 4 _ 10 rfl (hl3 4 (by rfl)) rfl;clear hdn hl3;rw[dv3,dv4];clear dv3 dv4 gs1 gs3;refine Zab rfl ?_
   go_wp2_with fail
   refine (HOF.o w' (H1.o.step hb.o).spc).mono ?_;rintro e w4 ⟨rfl,b4⟩;have HB4:=ħ b4;clear b4
   go_wp2_with fail
   exact Zaa ⟨_,rfl,HB4.o,rfl⟩
  ·obtain rfl:=Option.some.inj hi
   clear hdn hl3;clear gs1 gs3;refine Zab rfl ?_
   go_wp2_with fail
   exact Zaa ⟨_,rfl,(Below.refl w'.heap.size w').alloc (Nat.le_refl _) _,w'.heap.size,rfl,heap_alloc_new _ _,hb.o.size⟩
 case he =>
  intro listed a' w4 H hall;have hd5:c1F D w1.heap.size ao n cp most y1 y2 y3 i1 i2 5 w4 (a'.tmps.getD 11 undef):=H.done 5 _ 11 rfl (hall 5 (by decide)) rfl;have hd6:c1F D w1.heap.size ao n cp most y1 y2 y3 i1 i2 6 w4 (a'.tmps.getD 5 undef):=H.done 6 _ 5 rfl (hall 6 (by decide)) rfl;have hb4:=ħ H.below;have s2:=H.same 2 (Zai (by kernel_rfl));have s4:=H.same 4 (Zai (by kernel_rfl));have hdf:=H.defers;have hts:=H.tsize;clear H hall;obtain⟨t',df⟩:=a';obtain⟨f',rfl⟩:=Z5a t' hts;have hdf':df=[]:=hdf;subst hdf';have gs2:f' 2 = .pointer (some ⟨Y,0,none⟩):=s2;have gs4:f' 4 = .bool false:=s4;have e5:f' 11 = .agg #[.int .i64 (i1:Int),.int .i64 (i2:Int),.int .i64 y3]:=hd5;have e6:c1F D w1.heap.size ao n cp most y1 y2 y3 i1 i2 6 w4 (f' 5):=hd6;clear hd6;obtain⟨A,e6,hA,hNA⟩:=e6;rw[gs2,gs4,e5,e6];clear s2 s4 gs2 gs4 hdf hts hd5 e5 e6;have HA:=ħ hA;have HNA:=ħ hNA;clear hA hNA;refine Zbh (Zab rfl ?_);refine Zao rfl 259 (.tmp 5) (.tmp 11) rfl A #[.int .i64 (i1:Int),.int .i64 (i2:Int),.int .i64 y3] ?s1 ?s2 259 _ HA.o (Zql _ rfl) rfl (by simp[Value.oneCell']) ?_
  case s1=>rfl
  case s2=>rfl
  intro w9 s9 u9;have S9:Hid (Zae w9 A 259 [.int .i64 (i1:Int),.int .i64 (i2:Int),.int .i64 y3]):=ħ s9;have U9:=ħ u9;clear s9 u9;have B4:=ħ (B1.o.trans (hb4.o.mono B1.o.size));have H4:=ħ (H1.o.step (U9.o.below hb4.o HNA.o));have B9:=ħ (U9.o.below B4.o (Nat.le_trans B1.o.size HNA.o));clear HA H1 hb4 B4
  go_wp2_with fail
  refine Zaa (Zc3 ?_);change Exit.then _ _ Exit.normal ⟨#[f' 0,f' 1,.pointer (some ⟨Y,0,none⟩),f' 3,.bool false,.pointer (some ⟨A,0,none⟩),f' 6,f' 7,f' 8,f' 9,f' 10,.agg #[.int .i64 (i1:Int),.int .i64 (i2:Int),.int .i64 y3],f' 12,f' 13,f' 14,f' 15,f' 16,f' 17,f' 18,f' 19,f' 20,f' 21,f' 22,f' 23,f' 24,f' 25],[]⟩ w9;have e3:IntKind.i64.wrap (z1-z2)=z1-z2:=IntWalk.i64_in _ (by omega)
  have j1:(0:Int)≤(i1:Int):=by omega
  have j2:(0:Int)≤(i2:Int):=by omega
  have j3:(i1:Int)<(n:Int)+1:=by omega
  have j4:(i2:Int)<(n:Int)+1:=by omega
  have c0:=S9.o.cell 0 _ rfl;have c1:=S9.o.cell 1 _ rfl;have c2:=S9.o.cell 2 _ rfl;have v0:=H4.o.bv.cell 0 _ rfl;obtain⟨g,off,hvo,hg,w1'⟩:=H4.o.vals.int i1 z1 HG1.o;obtain⟨g',off',hvo',hg',w2'⟩:=H4.o.vals.int i2 z2 HG2.o;rw[hvo] at hvo';simp only[Option.some.injEq,Addr.mk.injEq] at hvo';obtain⟨rfl,rfl,-⟩:=hvo';rw[hvo] at v0
  go_upto_region 2 with (fail)
  have c0':=cell_regrown c0;have c1':=cell_regrown c1;have c2':=cell_regrown c2;have v0':=cell_regrown v0;have q1':=cell_regrown w1';have q2':=cell_regrown w2';clear c0 c1 c2 v0 w1' w2';refine wp_region_quiet_below (by kernel_rfl) (by kernel_rfl) ?_
  repeat (go_big_quiet_step (fail))
  refine wpQuiet_nil ?_;intro _ hw';obtain⟨⟨dq,osq⟩,hw''⟩:=hw';subst hw'';have BB:=ħ (B9.o.trans ((below_regrown w9 dq osq).mono B9.o.size));clear c0' c1' c2' v0' q1' q2';generalize grow (redrawn w9 dq) osq=wy at *
  go_wp2
  go_ret;exact⟨rfl,BB.o⟩
end
section
open Go.RowKit Go.Sort
theorem Z1a:∀ s:Fin 256,∀ i:Fin 9,(bits .and .i64 (((s:Nat):Int)/2^(i:Nat)) 1==0)=!(s:Nat).testBit (i:Nat):=by decide +kernel
theorem Z3v {s i:Nat} (hs:s<256) (hi:i≤8):(bits .and .i64 ((s:Int)/2^i) 1==0)=!s.testBit i:=Z1a ⟨s,hs⟩ ⟨i,by omega⟩
def Zqt (ns:List (List Nat)) (k:Ky):Prop:=(NmB k.l∧NmB k.r)∧(Zfs ns k.l=true∧Zfs ns k.r=true)∧inC k.c=true
theorem Zqt.opp {ns:List (List Nat)} {k:Ky} (h:Zqt ns k):Zqt ns (Ztf k):=by
 refine⟨⟨h.1.2,h.1.1⟩,⟨h.2.1.2,h.2.1.1⟩,?_⟩;have h3:=h.2.2;unfold inC at h3 ⊢;simp only[Bool.and_eq_true,decide_eq_true_eq] at h3 ⊢;show -1099511627776≤-k.c-1∧-k.c-1<1099511627776;omega
theorem Z3w {ns:List (List Nat)} {ks:List Ky} (h:∀ k∈ks,Zqt ns k) (set j:Nat):∀ k∈sgK ks set j,Zqt ns k:=by
 intro k hk;obtain⟨i,x,_,hx,rfl⟩:=(Zkc ks set k j).1 hk;have:=h x (List.mem_of_getElem? hx);split
 ·exact this
 ·exact this.opp
theorem Z1b {ns:List (List Nat)} {most:Int} {ks:List Ky} (h:∀ k∈ks,Zqt ns k) (hm:0≤most∧most≤65535):Z6l (Zcu ns most ks):=by
 intro c hc;unfold Zcu at hc;rcases List.mem_append.1 hc with hc | hc
 ·obtain⟨k,hk,rfl⟩:=List.mem_map.1 hc
  have h3:=(h k hk).2.2;unfold inC at h3;simp only[Bool.and_eq_true,decide_eq_true_eq] at h3;show _≤k.c∧k.c≤_;omega
 ·obtain⟨i,_,h2⟩:=(Zdv most c ns.length).1 hc
  rcases h2 with rfl | rfl
  ·show -1099511627776≤(0:Int)∧(0:Int)≤1099511627776
   omega
  ·show -1099511627776≤most∧most≤1099511627776
   omega
structure DecR (w:World) (P:Nat→Prop) (D:Nat) (ns:List (List Nat)) (ao:Option Addr) (n cp:Nat) (most:Int) (ps:List Prd) (po:Option Addr) (pn pc:Nat) (ks:List Ky) (ro:Option Addr) (rc:Nat):Prop where
 prob:Z06 w D ao n cp most po pn pc ro rc ks.length
 spc:SpcR w ns ao n
 prds:Zcl w P ps po
 keys:Zal kyC w ro ks
theorem DecR.step {w w':World} {P:Nat→Prop} {D:Nat} {ns:List (List Nat)} {ao:Option Addr} {n cp:Nat} {most:Int} {ps:List Prd} {po:Option Addr} {pn pc:Nat} {ks:List Ky} {ro:Option Addr} {rc:Nat} (h:DecR w P D ns ao n cp most ps po pn pc ks ro rc) (hb:Below w.heap.size w w'):DecR w' P D ns ao n cp most ps po pn pc ks ro rc :=
 ⟨Zae.step h.prob hb,h.spc.step hb,h.prds.below hb,h.keys.below hb⟩
theorem RowM.lowerB {α:Type} {EL:World→(Nat→Prop)→α→List Value→Prop} {k base base' lo lo':Nat} {w:World} {bad:Nat→Prop} {ao:Option Addr} {n cp:Nat} {xs:List α} {vss:List (List Value)} (h:RowM EL k base w lo bad ao n cp xs vss) (hE:Zm1 EL) (hb:base'≤base) (hl:lo'≤lo):RowM EL k base' w lo' bad ao n cp xs vss :=
 ⟨h.own.lower hl,h.len,h.cnt,h.elk,fun i x vs hx hv=>hE w w _ _ x vs (fun _ _ _=>rfl) (Nat.le_refl _) (fun g hg _=>⟨Nat.le_trans hb hg.1,hg.2⟩) (h.each i x vs hx hv)⟩
theorem Zw8:(Tryz.prog.info? 228).map (fun i=>(i.zero,i.size,i.bytes))=some (some (.agg #[.slice none 0 0,.slice none 0 0]),2,48):=by kernel_rfl
theorem Z5b (t:Array Value) (h:t.size=87):∃ f:Nat→Value,t=#[f 0,f 1,f 2,f 3,f 4,f 5,f 6,f 7,f 8,f 9,f 10,f 11,f 12,f 13,f 14,f 15,f 16,f 17,f 18,f 19,f 20,f 21,f 22,f 23,f 24,f 25,f 26,f 27,f 28,f 29,f 30,f 31,f 32,f 33,f 34,f 35,f 36,f 37,f 38,f 39,f 40,f 41,f 42,f 43,f 44,f 45,f 46,f 47,f 48,f 49,f 50,f 51,f 52,f 53,f 54,f 55,f 56,f 57,f 58,f 59,f 60,f 61,f 62,f 63,f 64,f 65,f 66,f 67,f 68,f 69,f 70,f 71,f 72,f 73,f 74,f 75,f 76,f 77,f 78,f 79,f 80,f 81,f 82,f 83,f 84,f 85,f 86]:=by
 obtain⟨l⟩:=t;have hl:l.length=87:=h
 have e:l=(List.range 87).map (fun i=>l.getD i undef):=by
  apply List.ext_getElem
  ·simp[hl]
  ·intro i h1 h2
   simp[List.getD,h1]
 exact⟨fun i=>l.getD i undef,congrArg List.toArray e⟩
theorem Ztz (i:Nat) (h:i<17):i=0∨i=1∨i=2∨i=3∨i=4∨i=5∨i=6∨i=7∨i=8∨i=9∨i=10∨i=11∨i=12∨i=13∨i=14∨i=15∨i=16:=by omega
def LsX (RV:Option (List Int)) (M B:Nat) (W:World) (x:Value):Prop:=match RV with
 | none=>x = .slice none 0 0
 | some u=>∃ V,x = .slice (some ⟨V,0,none⟩) M M∧Zae W V 3 (ivs u)∧B≤V
theorem LsX.step {RV:Option (List Int)} {M B:Nat} {W W':World} {x:Value} (h:LsX RV M B W x) (hb:Below W.heap.size W W'):LsX RV M B W' x:=by
 cases RV with
 | none=>exact h
 | some u=>obtain⟨V,h1,h2,h3⟩:=h;exact⟨V,h1,h2.step hb,h3⟩
theorem Zfb.lsx {w w':World} {N B:Nat} {r:Option (List Int)} {e:Ending} (h:Zfb w N r e w') (hB:B≤w.heap.size):∃ x,e = .returned (.tuple #[x,.bool r.isSome])∧LsX r N B w' x∧Below w.heap.size w w':=by
 rcases h.open with ⟨rfl,h1,h2⟩ | ⟨v,V,rfl,h1,h2,h3,h4⟩
 ·exact⟨_,h1,rfl,h2⟩
 ·exact⟨_,h1,⟨V,rfl,h2,Nat.le_trans hB h3⟩,h4⟩
theorem LsX.upd {RV:Option (List Int)} {M B A:Nat} {W W':World} {x:Value} {vs:List Value} (h:LsX RV M B W x) (hA:Zae W A 33 vs) (hu:Upd W W' A):LsX RV M B W' x:=by
 cases RV with
 | none=>exact h
 | some u =>
  obtain⟨V,h1,h2,h3⟩:=h;refine⟨V,h1,h2.upd hu (fun e=>?_),h3⟩;subst e;have h5:=(Option.some.inj ((show W.heap[V]?=_ from h2).symm.trans (show W.heap[V]?=_ from hA)));simp at h5
def stV (g:Option Nat×Option Value×Bool):Value:=if g.2.2=true then g.2.1.getD undef else .slice none 0 0
def clF (D B M:Nat) (ao:Option Addr) (n cp:Nat) (most:Int) (ac:Option Addr) (m cc:Nat) (CS:List Con) (RV:Option (List Int)) (g:Option Nat×Option Value×Bool) (i:Nat) (W:World) (v:Value):Prop:=match i with
 | 0=>v = .pointer (some ⟨D,0,none⟩)
 | 1=>v = .pointer (some ⟨D,0,none⟩)
 | 2=>v = .pointer (some ⟨D,0,none⟩)
 | 3=>v = .agg #[.slice ao n cp,.int .i64 most]
 | 4=>v = .pointer (some ⟨D,0,none⟩)
 | 5=>v = .pointer (some ⟨D,0,none⟩)
 | 6=>v = .pointer (some ⟨D,0,none⟩)
 | 7=>v = .agg #[.slice ao n cp,.int .i64 most]
 | 8=>v = .slice ac m cc
 | 9=>g.2.2=false→∃ r c,v = .slice r CS.length c∧Zal Zl5 W r CS
 | 10=>∃ x,v = .tuple #[x,.bool RV.isSome]∧LsX RV M B W x
 | 11=>∃ x,v = .tuple #[x,.bool RV.isSome]∧LsX RV M B W x
 | 12=>g.2.1=some v∧LsX RV M B W v
 | 13=>v = .bool RV.isSome
 | 14=>∃ A,g.1=some A∧v = .pointer (some ⟨A,0,none⟩)∧B≤A∧Zae W A 33 [stV g]
 | 15=>True
 | 16=>v = .bool RV.isSome
 | _=>True
def Z58 (D B M:Nat) (ao:Option Addr) (n cp:Nat) (most:Int) (ac:Option Addr) (m cc:Nat) (CS:List Con) (RV:Option (List Int)) (k:Nat) (g:Option Nat×Option Value×Bool) (w:World) (g':Option Nat×Option Value×Bool) (w':World):Prop:=match k with
 | 12=>g'.1=g.1∧g'.2.2=g.2.2∧g.2.2=false∧g.2.1=none∧Below w.heap.size w w'
 | 14=>g'.2=g.2∧g.2.2=false∧g.1=none∧Below w.heap.size w w'
 | 15=>∃ A x,g=(some A,some x,false)∧g'=(some A,some x,true)∧Zae w A 33 [.slice none 0 0]∧Zae w' A 33 [x]∧Upd w w' A
 | _=>g'=g∧Below w.heap.size w w'
theorem Z1c (D B M:Nat) (ao:Option Addr) (n cp:Nat) (most:Int) (ac:Option Addr) (m cc:Nat) (CS:List Con) (RV:Option (List Int)):∀ k g i w g' w' v,clF D B M ao n cp most ac m cc CS RV g i w v→Z58 D B M ao n cp most ac m cc CS RV k g w g' w'→clF D B M ao n cp most ac m cc CS RV g' i w' v:=by
 intro k g i w g' w' v h hs;unfold Z58 at hs
 split at hs
 ·obtain⟨h1,h2,h3,h4,hb⟩:=hs
  have hst:stV g'=stV g:=by unfold stV;rw[h2,h3];rfl
  match i with
  | 0=>exact h
  | 1=>exact h
  | 2=>exact h
  | 3=>exact h
  | 4=>exact h
  | 5=>exact h
  | 6=>exact h
  | 7=>exact h
  | 8=>exact h
  | 9=>exact fun _=>(h h3).imp fun r hr=>hr.imp fun c hc=>⟨hc.1,hc.2.below hb⟩
  | 10=>obtain⟨x,e,f⟩:=h;exact⟨x,e,f.step hb⟩
  | 11=>obtain⟨x,e,f⟩:=h;exact⟨x,e,f.step hb⟩
  | 12=>obtain⟨e,f⟩:=h;rw[h4] at e;cases e
  | 13=>exact h
  | 14=>obtain⟨A,a1,a2,a3,a4⟩:=h;exact⟨A,h1.trans a1,a2,a3,by rw[hst];exact a4.step hb⟩
  | 15=>exact h
  | 16=>exact h
  | k+17=>trivial
 ·obtain⟨h1,h2,h3,hb⟩:=hs
  have hst:stV g'=stV g:=by unfold stV;rw[h1]
  match i with
  | 0=>exact h
  | 1=>exact h
  | 2=>exact h
  | 3=>exact h
  | 4=>exact h
  | 5=>exact h
  | 6=>exact h
  | 7=>exact h
  | 8=>exact h
  | 9=>exact fun _=>(h h2).imp fun r hr=>hr.imp fun c hc=>⟨hc.1,hc.2.below hb⟩
  | 10=>obtain⟨x,e,f⟩:=h;exact⟨x,e,f.step hb⟩
  | 11=>obtain⟨x,e,f⟩:=h;exact⟨x,e,f.step hb⟩
  | 12=>obtain⟨e,f⟩:=h;exact⟨by rw[h1];exact e,f.step hb⟩
  | 13=>exact h
  | 14=>obtain⟨A,a1,a2,a3,a4⟩:=h;rw[h3] at a1;cases a1
  | 15=>exact h
  | 16=>exact h
  | k+17=>trivial
 ·obtain⟨A,x,rfl,rfl,hA,hA',hu⟩:=hs
  match i with
  | 0=>exact h
  | 1=>exact h
  | 2=>exact h
  | 3=>exact h
  | 4=>exact h
  | 5=>exact h
  | 6=>exact h
  | 7=>exact h
  | 8=>exact h
  | 9=>exact fun h0=>by cases h0
  | 10=>obtain⟨x,e,f⟩:=h;exact⟨x,e,f.upd hA hu⟩
  | 11=>obtain⟨x,e,f⟩:=h;exact⟨x,e,f.upd hA hu⟩
  | 12=>obtain⟨e,f⟩:=h;exact⟨e,f.upd hA hu⟩
  | 13=>exact h
  | 14=>obtain⟨A',a1,a2,a3,a4⟩:=h;obtain rfl:=Option.some.inj a1;exact⟨A,rfl,a2,a3,hA'⟩
  | 15=>exact h
  | 16=>exact h
  | k+17=>trivial
 ·obtain⟨rfl,hb⟩:=hs
  match i with
  | 0=>exact h
  | 1=>exact h
  | 2=>exact h
  | 3=>exact h
  | 4=>exact h
  | 5=>exact h
  | 6=>exact h
  | 7=>exact h
  | 8=>exact h
  | 9=>exact fun h0=>(h h0).imp fun r hr=>hr.imp fun c hc=>⟨hc.1,hc.2.below hb⟩
  | 10=>obtain⟨x,e,f⟩:=h;exact⟨x,e,f.step hb⟩
  | 11=>obtain⟨x,e,f⟩:=h;exact⟨x,e,f.step hb⟩
  | 12=>obtain⟨e,f⟩:=h;exact⟨e,f.step hb⟩
  | 13=>exact h
  | 14=>obtain⟨A,a1,a2,a3,a4⟩:=h;exact⟨A,a1,a2,a3,a4.step hb⟩
  | 15=>exact h
  | 16=>exact h
  | k+17=>trivial
def Zqu (g:Option Nat×Option Value×Bool) (l:Array Bool):Prop:=(l.getD 12 false=false→g.2.1=none)∧(l.getD 14 false=false→g.1=none)∧(l.getD 15 false=false→g.2.2=false)∧(l.getD 15 false=true→g.2.2=true∧l.getD 10 false=true∧l.getD 12 false=true∧l.getD 14 false=true)
theorem Zt0 (n:Nat):Zqu (none,none,false) (Array.replicate n false):=⟨fun _=>rfl,fun _=>rfl,fun _=>rfl,fun h=>by simp[Array.getD] at h⟩
theorem Zbz {g:Option Nat×Option Value×Bool} {l:Array Bool} {i:Nat} (h:Zqu g l) (hi:i<l.size) (h1:i≠12) (h2:i≠14) (h3:i≠15):Zqu g (l.setIfInBounds i true):=by
 unfold Zqu;simp only[Zay hi,if_neg (Ne.symm h1),if_neg (Ne.symm h2),if_neg (Ne.symm h3)];refine⟨h.1,h.2.1,h.2.2.1,fun h5=>?_⟩;obtain⟨a,b,c,d⟩:=h.2.2.2 h5;exact⟨a,by split<;>simp[b],c,d⟩
theorem Zko {g:Option Nat×Option Value×Bool} {l:Array Bool} (h:Zqu g l) (hl:l.getD 10 false=false∨l.getD 12 false=false∨l.getD 14 false=false∨l.getD 15 false=false):g.2.2=false:=by
 cases h5:l.getD 15 false with
 | false=>exact h.2.2.1 h5
 | true =>
  obtain⟨-,b,c,d⟩:=h.2.2.2 h5;rw[b,c,d,h5] at hl;simp at hl
theorem Z3x {g:Option Nat×Option Value×Bool} {l:Array Bool} {x:Value} (h:Zqu g l) (hi:12<l.size) (hl:l.getD 12 false=false):Zqu (g.1,some x,g.2.2) (l.setIfInBounds 12 true):=by
 unfold Zqu;simp only[Zay hi];refine⟨fun h5=>by simp at h5,fun h5=>h.2.1 (by simpa using h5),fun h5=>h.2.2.1 (by simpa using h5),fun h5=>?_⟩;obtain⟨a,b,c,d⟩:=h.2.2.2 (by simpa using h5);rw[hl] at c;cases c
theorem Z3y {g:Option Nat×Option Value×Bool} {l:Array Bool} {A:Nat} (h:Zqu g l) (hi:14<l.size) (hl:l.getD 14 false=false):Zqu (some A,g.2) (l.setIfInBounds 14 true):=by
 unfold Zqu;simp only[Zay hi];refine⟨fun h5=>h.1 (by simpa using h5),fun h5=>by simp at h5,fun h5=>h.2.2.1 (by simpa using h5),fun h5=>?_⟩;obtain⟨a,b,c,d⟩:=h.2.2.2 (by simpa using h5);rw[hl] at d;cases d
theorem Z3z {A:Nat} {x:Value} {l:Array Bool} (h:Zqu (some A,some x,false) l) (hi:15<l.size) (h10:l.getD 10 false=true) (h12:l.getD 12 false=true) (h14:l.getD 14 false=true):Zqu (some A,some x,true) (l.setIfInBounds 15 true):=by
 unfold Zqu;simp only[Zay hi];refine⟨fun h5=>?_,fun h5=>?_,fun h5=>by simp at h5,fun _=>by simp[h10,h12,h14]⟩
 ·rw[if_neg (by decide),h12] at h5;cases h5
 ·rw[if_neg (by decide),h14] at h5;cases h5
theorem Zw9 (w:World) (P:Nat→Prop) (D:Nat) (ns:List (List Nat)) (ao:Option Addr) (n cp:Nat) (most:Int) (ps:List Prd) (po:Option Addr) (pn pc:Nat) (ks:List Ky) (ro:Option Addr) (rc:Nat) (hd:DecR w P D ns ao n cp most ps po pn pc ks ro rc)
  (hpn:pn=ps.length) (hpl:pn≤1000) (hk8:ks.length≤8) (hkc:∀ k∈ks,Zqt ns k) (hpk:∀ p∈ps,∀ k∈Zcq p,Zqt ns k) (hpc:∀ p∈ps,Zcx p≤1000000) (hmost:0≤most∧most≤65535) :
  Calls Tryz.prog 207 #[.pointer (some ⟨D,0,none⟩)] w fun e w'=>∃ ro' rc' vss,e = .returned (.slice ro' (Zcz ns most ks ps).length rc')∧RowM Zlb 2 w.heap.size w' w.heap.size (fun _=>False) ro' (Zcz ns most ks ps).length rc' (Zcz ns most ks ps) vss∧Below w.heap.size w w':=by
 have bx:=(Below.refl w.heap.size w).alloc (Nat.le_refl _) (.cells #[.pointer (some ⟨D,0,none⟩)] 191);have B1:=ħ bx;have D1:=ħ (hd.step bx);have X1:Hid (Zae (w.alloc (.cells #[.pointer (some ⟨D,0,none⟩)] 191)) w.heap.size 191 [.pointer (some ⟨D,0,none⟩)]):=ħ (heap_alloc_new w _);have HPN:=ħ hpn;have HKC:=ħ hkc;have HPK:=ħ hpk;have HPC:=ħ hpc;have HMO:=ħ hmost;have HKK:Hid (Zp0 ns ks):=ħ (fun k hk=>(hkc k hk).2.1);have HCE:=ħ (fun l hp hs=>Zov (ns:=ns) (most:=most) (ps:=ps) (ks:=ks) HKK.o (l:=l) hp hs);have HCU:=ħ (fun s=>Zht ns most ks ps s);clear bx hd hpn hkc hpk hpc hmost;obtain⟨m,hm⟩:∃ m,ks.length=m:=⟨_,rfl⟩;have HM:=ħ hm;obtain⟨N,hN⟩:∃ N,2^m=N:=⟨_,rfl⟩;have HNM:Hid (2^m=N):=ħ hN
 have eS:wrap64 ((2:Int)^m)=(N:Int):=by rw[← hN];exact Z46 (by omega)
 have HN256:Hid (N≤256):=ħ (by
  rw[← hN]
  exact Nat.le_trans (Nat.pow_le_pow_right (by decide) (show m≤8 by omega)) (by decide))
 have hN2:=HN256.o
 have m8:m≤8:=by omega
 clear hN hk8;rw[hm] at HCE;rw[HNM.o] at HCE;clear hm
 go_enter Tryz.func207,Tryz.ntmps207
 go_upto_region 1 with (fail)
 generalize w.alloc (.cells #[.pointer (some ⟨D,0,none⟩)] 191)=w1 at *;have x0:=X1.o.cell 0 _ rfl;have d3:=Zae.cell D1.o.prob 3 _ rfl;rw[HM.o] at d3
 go_wp2_with fail
 clear x0 d3;have HLO:Hid (w.heap.size+1≤w1.heap.size):=ħ X1.o.lt
 go_loopw [18,2] (fun cc ov wr=>∃ (s:Nat) (outs:List Cel) (ao':Option Addr) (no cp':Nat) (vss:List (List Value)),cc = .int .i64 s∧ov = .slice ao' no cp'∧s≤N∧no≤s∧Hid (outs=Zco ns most ks ps s)∧Hid (RowM Zlb 2 w1.heap.size wr w1.heap.size (fun _=>False) ao' no cp' outs vss)∧Hid (Below w1.heap.size w1 wr)) (fun c _ _=>(N-intOf c).toNat)
 case atStart=>exact⟨0,[],none,0,0,[],rfl,rfl,by omega,by omega,ħ rfl,ħ (RowM.nil _ _ _),ħ (Below.refl _ _)⟩
 case round =>
  obtain⟨s,outs,ao',no,cp',vss,rfl,rfl,hs,hno,hou,hrm,hw⟩:=hrel;have e2:IntKind.i64.wrap ((s:Int)+1)=((s+1:Nat):Int):=IntWalk.i64_in _ (by omega);by_cases hlt:s<N
  ·have ss:(s:Int)<N:=by omega
   have x0:=(X1.o.step hw.o).cell 0 _ rfl;have d3:=Zae.cell (D1.o.step hw.o).prob 3 _ rfl;rw[HM.o] at d3
   go_wp2_with fail
   clear x0 d3;generalize wr=wo at *
   go_loopw [26,4] (fun jv cv wq=>∃ (j:Nat) (ac:Option Addr) (cc:Nat),jv = .int .i64 j∧cv = .slice ac j cc∧j≤m∧Hid (OwnK wq wo.heap.size 3 j cc ((sgK ks s j).flatMap kyC) ac)∧Hid (Below wo.heap.size wo wq)) (fun j _ _=>(m-intOf j).toNat)
   case atStart=>exact⟨0,none,0,rfl,rfl,by omega,ħ (.nil rfl rfl rfl),ħ (Below.refl _ _)⟩
   case round =>
    obtain⟨j,ac,cc,rfl,rfl,hj,hown,hq⟩:=hrel;have e3:IntKind.i64.wrap ((j:Int)+1)=((j+1:Nat):Int):=IntWalk.i64_in _ (by omega);by_cases hjl:j<m
    ·have jj:(j:Int)<m:=by omega
     have HK:Hid (∃ k,ks[j]?=some k):=ħ (by have:j<ks.length:=(by rw[HM.o];exact hjl);exact⟨ks[j],List.getElem?_eq_getElem this⟩);obtain⟨k,hk⟩:=HK.o;have HKI:=ħ hk;have HKQ:=ħ (HKC.o k (List.mem_of_getElem? hk));obtain⟨g,off,hao,hg,hcl⟩:=((D1.o.step hw.o).step hq.o).keys.at (k:=3) (fun _=>rfl) j k hk;have k0:=hcl 0 _ rfl;have k1:=hcl 1 _ rfl;have k2:=hcl 2 _ rfl;rw[Nat.add_zero] at k0;have HAO:=ħ hao;have bx:=(Below.refl wr.heap.size wr).alloc (Nat.le_refl _) (.cells (kyC k).toArray 121);have HO1:=ħ (hown.o.below bx);have HQ1:=ħ (hq.o.trans (bx.mono hq.o.size));have HX1:Hid (Zae (wr.alloc (.cells (kyC k).toArray 121)) wr.heap.size 121 (kyC k)):=ħ (heap_alloc_new _ _);have HPU:Hid (sgK ks s (j+1)=sgK ks s j++[if s.testBit j=true then k else Ztf k]):=ħ (by rw[sgK,hk]);have HKY:Hid (kyC k=[.string (Zac k.l),.string (Zac k.r),.int .i64 k.c]):=ħ rfl;have HKZ:Hid (kyC (Ztf k)=[.string (Zac k.r),.string (Zac k.l),.int .i64 (-k.c-1)]):=ħ rfl;have HOP:=ħ (fun W=>Zsi k HKQ.o.2.2 W);rw[HKY.o,HKZ.o] at HOP;have HBT:=Z3v (s:=s) (i:=j) (by omega) (by omega);obtain⟨tb,htb⟩:∃ tb,s.testBit j=tb:=⟨_,rfl⟩;rw[htb] at HPU HBT;rw[HKY.o] at HO1 HQ1 HX1;have HGE:Hid (wo.heap.size≤wr.heap.size):=ħ hq.o.size;have HACB:Hid (blk ac≠some wr.heap.size):=ħ (fun e=>by have:=(hown.o.blk_lt e).2;omega);clear hk HK bx htb hown hq hcl;subst hao;generalize Zac k.l=y1 at *;generalize Zac k.r=y2 at *;generalize -k.c-1=y4 at *;generalize k.c=y3 at *
     cases tb with
     | true =>
      rw[if_pos rfl] at HPU
      go_upto_region 10 with (fail)
      generalize wr.alloc (.cells #[.string y1,.string y2,.int .i64 y3] 121)=wx at *
      go_wp2_with (first | (refine wpList_load_row rfl 121 (.tmp 6) rfl wr.heap.size ?x1 121 #[.string y1,.string y2,.int .i64 y3] (0,0) _ HX1.o Tryz.underlying121 rfl (Zfr _ rfl) ?_;(case x1=>rfl)) | (at_builtin;refine Zc7 118 121 Z5x 3 40 Tryz.underlying118 Zjj rfl (by omega) (by omega) wx wo.heap.size rfl (.tmp 38) (.tmp 40) rfl ac cc j ((sgK ks s j).flatMap kyC) ?q1 HO1.o ?q5 1 1 #[.string y1,.string y2,.int .i64 y3] 121 ?q2 rfl (by omega) ?q3 ?q4 ?_;(case q1=>rfl);(case q5=>exact HQ1.o.size);(case q2=>rfl);(case q3=>simp[Value.oneCell']);(case q4=>omega);intro g5 off5 c5 wa o8 gr8 b8 or8;have O8:=ħ o8;have B8:=ħ b8;clear o8 gr8 b8 or8))
      have HO9:Hid (OwnK wa wo.heap.size 3 (j+1) c5 ((sgK ks s (j+1)).flatMap kyC) (some ⟨g5,off5,none⟩)):=ħ (by
       rw[HPU.o,List.flatMap_append,List.flatMap_singleton,HKY.o]
       exact O8.o)
      go_roundw
      case rel=>exact⟨_,_,_,_,⟨j+1,by go_num,some ⟨g5,off5,none⟩,c5,rfl,by omega,HO9,ħ (HQ1.o.trans B8.o)⟩,rfl,rfl,rfl,rfl⟩
      case measure=>simp only[intOf];omega
     | false =>
      rw[if_neg (by simp)] at HPU
      go_upto_region 9 with (fail)
      generalize wr.alloc (.cells #[.string y1,.string y2,.int .i64 y3] 121)=wx at *
      go_wp2_with (refine wpList_load_row rfl 121 (.tmp 6) rfl wr.heap.size ?x1 121 #[.string y1,.string y2,.int .i64 y3] (0,0) _ HX1.o Tryz.underlying121 rfl (Zfr _ rfl) ?_;(case x1=>rfl))
      refine (HOP.o wx).mono ?_;rintro e w5 ⟨rfl,b5⟩;have HX5:=ħ (HX1.o.step b5);have HO5:=ħ (HO1.o.below b5);have HQ5:=ħ (HQ1.o.trans (b5.mono HQ1.o.size));clear b5 HX1 HO1 HQ1
      go_upto_region 10 with (refine Zao rfl 121 (.tmp 6) (.tmp 37) rfl wr.heap.size #[.string y2,.string y1,.int .i64 y4] ?s1 ?s2 121 _ HX5.o (Zfr _ rfl) rfl (by simp[Value.oneCell']) ?_;(case s1=>rfl);(case s2=>rfl);intro w9 s9 u9;have S9:=ħ s9;have U9:=ħ u9;clear s9 u9)
      have HO9:=ħ (HO5.o.upd U9.o HACB.o);have HQ9:=ħ (U9.o.below HQ5.o HGE.o);clear HO5 HQ5 HX5 U9
      go_wp2_with (first | (refine wpList_load_row rfl 121 (.tmp 6) rfl wr.heap.size ?x1 121 #[.string y2,.string y1,.int .i64 y4] (0,0) _ S9.o Tryz.underlying121 rfl (Zfr _ rfl) ?_;(case x1=>rfl)) | (at_builtin;refine Zc7 118 121 Z5x 3 40 Tryz.underlying118 Zjj rfl (by omega) (by omega) w9 wo.heap.size rfl (.tmp 38) (.tmp 40) rfl ac cc j ((sgK ks s j).flatMap kyC) ?q1 HO9.o ?q5 1 1 #[.string y2,.string y1,.int .i64 y4] 121 ?q2 rfl (by omega) ?q3 ?q4 ?_;(case q1=>rfl);(case q5=>exact HQ9.o.size);(case q2=>rfl);(case q3=>simp[Value.oneCell']);(case q4=>omega);intro g5 off5 c5 wa o8 gr8 b8 or8;have O8:=ħ o8;have B8:=ħ b8;clear o8 gr8 b8 or8))
      have HO10:Hid (OwnK wa wo.heap.size 3 (j+1) c5 ((sgK ks s (j+1)).flatMap kyC) (some ⟨g5,off5,none⟩)):=ħ (by
       rw[HPU.o,List.flatMap_append,List.flatMap_singleton,HKZ.o]
       exact O8.o)
      go_roundw
      case rel=>exact⟨_,_,_,_,⟨j+1,by go_num,some ⟨g5,off5,none⟩,c5,rfl,by omega,HO10,ħ (HQ9.o.trans B8.o)⟩,rfl,rfl,rfl,rfl⟩
      case measure=>simp only[intOf];omega
    ·have jj:¬ ((j:Int)<m):=by omega
     obtain rfl:j=m:=by omega
     have HWR:=ħ (hw.o.trans (hq.o.mono hw.o.size));have HRM:=ħ (hrm.o.step Zlb.keeps hq.o);obtain⟨KS,hKS⟩:∃ KS,sgK ks s j=KS:=⟨_,rfl⟩;have HKS:Hid (KS.length=j∧∀ k∈KS,Zqt ns k):=ħ ⟨by rw[← hKS];exact Zv5 ks s j (by rw[HM.o];exact Nat.le_refl _),by rw[← hKS];exact Z3w HKC.o s j⟩
     have HUU:Hid (Zco ns most ks ps (s+1)=Zco ns most ks ps s++(match Zdn n (Zcu ns most KS) with | some v=>[(v,trU ns ps (gv v))] | none=>[])):=ħ (by
      rw[Zco,HM.o,hKS,D1.o.spc.cnt]
      cases Zdn ns.length (Zcu ns most KS)<;>rfl)
     rw[hKS] at hown;clear hKS;have HKN:Hid (Zp0 ns KS):=ħ (fun k hk=>(HKS.o.2 k hk).2.1);have HCN:=ħ (fun W (hW:Below wr.heap.size wr W)=>Z01 W ao n cp most ns ac j cc KS D1.o.spc.cnt (D1.o.spc.step (HWR.o.trans (hW.mono HWR.o.size))).strs D1.o.spc.byts D1.o.spc.asc (by have:=D1.o.spc.big;omega) ((hown.o.flatR (fun _=>rfl) HKS.o.1.symm).below hW) HKS.o.1.symm HKN.o (fun k hk=>(HKS.o.2 k hk).1) (by omega));have HIN:Hid (InC (n+1) (Zcu ns most KS)):=ħ (by have:=Ze3 HKN.o most;rwa [← D1.o.spc.cnt] at this);have HBN:=ħ (Z1b HKS.o.2 HMO.o)
     have HLN:Hid ((Zcu ns most KS).length≤1800):=ħ (by
      unfold Zcu;rw[List.length_append,List.length_map,Zhq,HKS.o.1,← D1.o.spc.cnt];have:=D1.o.spc.big
      omega)
     obtain⟨CS,hCS⟩:∃ CS,Zcu ns most KS=CS:=⟨_,rfl⟩;rw[hCS] at HCN HIN HBN HLN HUU;have HLS:=ħ (fun W r c (hr:Zal Zl5 W r CS)=>least_any' W ao n cp most r CS.length c CS hr rfl HIN.o (by have:=D1.o.spc.big;omega) HBN.o (by have:=HLN.o;omega));obtain⟨RV,hRV⟩:∃ RV,Zdn n CS=RV:=⟨_,rfl⟩;have HRV:=ħ hRV;rw[hRV] at HUU HLS;have HCSE:Hid (Zcu ns most KS=CS):=ħ hCS;clear hCS hRV hown hrm hq
     go_upto_region 12 with (fail)
     refine Zlh (clF D wr.heap.size (n+1) ao n cp most ac j cc CS RV) Zqu (Z58 D wr.heap.size (n+1) ao n cp most ac j cc CS RV) (none,none,false) (by kernel_rfl) (Zt0 _) (Z1c D wr.heap.size (n+1) ao n cp most ac j cc CS RV) (Zz0 (by kernel_rfl)) (Z26 (by kernel_rfl)) (Zbb (by kernel_rfl)) ?hs ?he
     case hs =>
      intro i o hi g listed a' w' hI H hl2 hli;have hl3:=Zap hl2;have hin:i<17:=(Array.getElem?_eq_some_iff.1 hi).1;have hsz:listed.size=17:=H.size;have hb:=ħ H.below;have s1:=H.same 1 (Zai (by kernel_rfl));have s4:=H.same 4 (Zai (by kernel_rfl));have hdn:=H.done;have hdf:=H.defers;have hts:=H.tsize;clear hl2 H;obtain⟨t',df⟩:=a';obtain⟨f',rfl⟩:=Z5b t' hts;have hdf':df=[]:=hdf;subst hdf';have gs1:f' 1 = .pointer (some ⟨w.heap.size,0,none⟩):=s1;have gs4:f' 4 = .slice ac j cc:=s4;clear s1 s4;clear hdf hts;have hcases:=Ztz i hin;clear hin;rcases hcases with rfl | rfl | rfl | rfl | rfl | rfl | rfl | rfl | rfl | rfl | rfl | rfl | rfl | rfl | rfl | rfl | rfl
      ·obtain rfl:=Option.some.inj hi
       clear hdn hl3;rw[gs1];clear gs1 gs4;have x0:=(X1.o.step ((HWR.o.trans (hb.o.mono HWR.o.size)))).cell 0 _ rfl;refine Zab rfl ?_
       go_wp2_with fail
       exact Zaa (Zeb.mk _ g rfl hb.o (And.intro rfl (Below.refl _ _)) (Zbz hI (by omega) (by decide) (by decide) (by decide)) (fun _=>rfl))
      ·obtain rfl:=Option.some.inj hi
       have dv0:f' 44 = .pointer (some ⟨D,0,none⟩):=hdn 0 _ 44 rfl (hl3 0 (by rfl)) rfl;clear hdn hl3;rw[dv0];clear dv0 gs1 gs4;refine Zab rfl ?_
       go_wp2_with fail
       exact Zaa (Zeb.mk _ g rfl hb.o (And.intro rfl (Below.refl _ _)) (Zbz hI (by omega) (by decide) (by decide) (by decide)) (fun _=>rfl))
      ·obtain rfl:=Option.some.inj hi
       have dv1:f' 45 = .pointer (some ⟨D,0,none⟩):=hdn 1 _ 45 rfl (hl3 1 (by rfl)) rfl;clear hdn hl3;rw[dv1];clear dv1 gs1 gs4;refine Zab rfl ?_
       go_wp2_with fail
       exact Zaa (Zeb.mk _ g rfl hb.o (And.intro rfl (Below.refl _ _)) (Zbz hI (by omega) (by decide) (by decide) (by decide)) (fun _=>rfl))
      ·obtain rfl:=Option.some.inj hi
       have dv2:f' 46 = .pointer (some ⟨D,0,none⟩):=hdn 2 _ 46 rfl (hl3 2 (by rfl)) rfl;clear hdn hl3;rw[dv2];clear dv2 gs1 gs4;have d0:=Zae.cell (D1.o.step (HWR.o.trans (hb.o.mono HWR.o.size))).prob 0 _ rfl;have d1:=Zae.cell (D1.o.step (HWR.o.trans (hb.o.mono HWR.o.size))).prob 1 _ rfl;refine Zab rfl ?_
       go_wp2_with fail
       exact Zaa (Zeb.mk _ g rfl hb.o (And.intro rfl (Below.refl _ _)) (Zbz hI (by omega) (by decide) (by decide) (by decide)) (fun _=>rfl))
      ·obtain rfl:=Option.some.inj hi
       clear hdn hl3;rw[gs1];clear gs1 gs4;have x0:=(X1.o.step ((HWR.o.trans (hb.o.mono HWR.o.size)))).cell 0 _ rfl;refine Zab rfl ?_
       go_wp2_with fail
       exact Zaa (Zeb.mk _ g rfl hb.o (And.intro rfl (Below.refl _ _)) (Zbz hI (by omega) (by decide) (by decide) (by decide)) (fun _=>rfl))
      ·obtain rfl:=Option.some.inj hi
       have dv4:f' 48 = .pointer (some ⟨D,0,none⟩):=hdn 4 _ 48 rfl (hl3 4 (by rfl)) rfl;clear hdn hl3;rw[dv4];clear dv4 gs1 gs4;refine Zab rfl ?_
       go_wp2_with fail
       exact Zaa (Zeb.mk _ g rfl hb.o (And.intro rfl (Below.refl _ _)) (Zbz hI (by omega) (by decide) (by decide) (by decide)) (fun _=>rfl))
      ·obtain rfl:=Option.some.inj hi
       have dv5:f' 49 = .pointer (some ⟨D,0,none⟩):=hdn 5 _ 49 rfl (hl3 5 (by rfl)) rfl;clear hdn hl3;rw[dv5];clear dv5 gs1 gs4;refine Zab rfl ?_
       go_wp2_with fail
       exact Zaa (Zeb.mk _ g rfl hb.o (And.intro rfl (Below.refl _ _)) (Zbz hI (by omega) (by decide) (by decide) (by decide)) (fun _=>rfl))
      ·obtain rfl:=Option.some.inj hi
       have dv6:f' 50 = .pointer (some ⟨D,0,none⟩):=hdn 6 _ 50 rfl (hl3 6 (by rfl)) rfl;clear hdn hl3;rw[dv6];clear dv6 gs1 gs4;have d0:=Zae.cell (D1.o.step (HWR.o.trans (hb.o.mono HWR.o.size))).prob 0 _ rfl;have d1:=Zae.cell (D1.o.step (HWR.o.trans (hb.o.mono HWR.o.size))).prob 1 _ rfl;refine Zab rfl ?_
       go_wp2_with fail
       exact Zaa (Zeb.mk _ g rfl hb.o (And.intro rfl (Below.refl _ _)) (Zbz hI (by omega) (by decide) (by decide) (by decide)) (fun _=>rfl))
      ·obtain rfl:=Option.some.inj hi
       clear hdn hl3;rw[gs4];clear gs1 gs4;refine Zab rfl ?_
       go_wp2_with fail
       exact Zaa (Zeb.mk _ g rfl hb.o (And.intro rfl (Below.refl _ _)) (Zbz hI (by omega) (by decide) (by decide) (by decide)) (fun _=>rfl))
      ·obtain rfl:=Option.some.inj hi
       have dv7:f' 51 = .agg #[.slice ao n cp,.int .i64 most]:=hdn 7 _ 51 rfl (hl3 7 (by rfl)) rfl;have dv8:f' 52 = .slice ac j cc:=hdn 8 _ 52 rfl (hl3 8 (by rfl)) rfl;clear hdn hl3;rw[dv7,dv8];clear dv7 dv8 gs1 gs4;refine Zab rfl ?_
       go_wp2_with fail
       refine (HCN.o w' hb.o).mono ?_;rintro e w4 ⟨⟨r2,c2,rfl,ho4⟩,b4⟩;have HB4:=ħ b4;have HO4:=ħ (ho4.flatR Zm8 rfl);clear b4 ho4
       go_wp2_with fail
       exact Zaa (Zeb.mk _ g rfl (hb.o.trans (HB4.o.mono hb.o.size)) (And.intro rfl HB4.o) (Zbz hI (by omega) (by decide) (by decide) (by decide)) (fun _ _=>⟨r2,c2,rfl,HO4.o⟩))
      ·obtain rfl:=Option.some.inj hi
       have dv3:f' 47 = .agg #[.slice ao n cp,.int .i64 most]:=hdn 3 _ 47 rfl (hl3 3 (by rfl)) rfl;have dv9:clF D wr.heap.size (n+1) ao n cp most ac j cc CS RV g 9 w' (f' 53):=hdn 9 _ 53 rfl (hl3 9 (by rfl)) rfl;obtain⟨rr,rk,dv9,hCS⟩:=dv9 (Zko hI (.inl hli));clear hdn hl3;rw[dv3,dv9];clear dv3 dv9 gs1 gs4;have HCS:=ħ hCS;clear hCS;refine Zab rfl ?_
       go_wp2_with fail
       refine (HLS.o w' rr rk HCS.o).mono ?_;intro e w4 hq;obtain⟨lx,rfl,hlx,hb4⟩:=hq.lsx hb.o.size;have HB4:=ħ hb4;have HLX:=ħ hlx;clear hq hlx hb4
       go_wp2_with fail
       exact Zaa (Zeb.mk _ g rfl (hb.o.trans (HB4.o.mono hb.o.size)) (And.intro rfl HB4.o) (Zbz hI (by omega) (by decide) (by decide) (by decide)) (fun _=>⟨lx,rfl,HLX.o⟩))
      ·obtain rfl:=Option.some.inj hi
       have dv10:clF D wr.heap.size (n+1) ao n cp most ac j cc CS RV g 10 w' (f' 54):=hdn 10 _ 54 rfl (hl3 10 (by rfl)) rfl;obtain⟨lx,dv10,hLX⟩:=dv10;clear hdn hl3;rw[dv10];clear dv10 gs1 gs4;have HLX:=ħ hLX;clear hLX;refine Zab rfl ?_
       go_wp2_with fail
       exact Zaa (Zeb.mk _ g rfl hb.o (And.intro rfl (Below.refl _ _)) (Zbz hI (by omega) (by decide) (by decide) (by decide)) (fun _=>⟨lx,rfl,HLX.o⟩))
      ·obtain rfl:=Option.some.inj hi
       have dv11:clF D wr.heap.size (n+1) ao n cp most ac j cc CS RV g 11 w' (f' 43):=hdn 11 _ 43 rfl (hl3 11 (by rfl)) rfl;obtain⟨lx,dv11,hLX⟩:=dv11;clear hdn hl3;rw[dv11];clear dv11 gs1 gs4;have HLX:=ħ hLX;clear hLX;refine Zab rfl ?_
       go_wp2_with fail
       exact Zaa (Zeb.mk _ ((g.1,some lx,g.2.2)) rfl hb.o ⟨rfl,rfl,Zko hI (.inr (.inl hli)),hI.1 hli,Below.refl _ _⟩ (Z3x hI (by omega) hli) (fun _=>⟨rfl,HLX.o⟩))
      ·obtain rfl:=Option.some.inj hi
       have dv11:clF D wr.heap.size (n+1) ao n cp most ac j cc CS RV g 11 w' (f' 43):=hdn 11 _ 43 rfl (hl3 11 (by rfl)) rfl;obtain⟨lx,dv11,hLX⟩:=dv11;clear hdn hl3;rw[dv11];clear dv11 gs1 gs4;clear hLX;refine Zab rfl ?_
       go_wp2_with fail
       exact Zaa (Zeb.mk _ g rfl hb.o (And.intro rfl (Below.refl _ _)) (Zbz hI (by omega) (by decide) (by decide) (by decide)) (fun _=>rfl))
      ·obtain rfl:=Option.some.inj hi
       clear hdn hl3;clear gs1 gs4;have h0:=Zko hI (.inr (.inr (.inl hli)));have hst:stV (some w'.heap.size,g.2) = .slice none 0 0:=if_neg (show ¬ g.2.2=true by rw[h0];simp);refine Zab rfl ?_
       go_wp2_with fail
       exact Zaa (Zeb.mk _ ((some w'.heap.size,g.2)) rfl (hb.o.alloc hb.o.size _) ⟨rfl,Zko hI (.inr (.inr (.inl hli))),hI.2.1 hli,(Below.refl w'.heap.size w').alloc (Nat.le_refl _) _⟩ (Z3y hI (by omega) hli) (fun _=>⟨w'.heap.size,rfl,rfl,hb.o.size,by rw[hst];exact heap_alloc_new _ _⟩))
      ·obtain rfl:=Option.some.inj hi
       have dv12:clF D wr.heap.size (n+1) ao n cp most ac j cc CS RV g 12 w' (f' 55):=hdn 12 _ 55 rfl (hl3 12 (by rfl)) rfl;obtain⟨eX,hLX⟩:=dv12;obtain⟨lx,dv12⟩:∃ x,f' 55=x:=⟨_,rfl⟩;rw[dv12] at eX hLX;have hli10:=hl3 10 (by rfl);have hli12:=hl3 12 (by rfl);have hli14:=hl3 14 (by rfl);have dv14:clF D wr.heap.size (n+1) ao n cp most ac j cc CS RV g 14 w' (f' 7):=hdn 14 _ 7 rfl (hl3 14 (by rfl)) rfl;obtain⟨A,eA,dv14,hNA,hA⟩:=dv14;clear hdn hl3;rw[dv12,dv14];clear dv12 dv14 gs1 gs4;obtain⟨ga,gx,gs⟩:=g;have eA2:ga=some A:=eA;have eX2:gx=some lx:=eX;have eS2:gs=false:=Zko hI (.inr (.inr (.inr hli)));subst eA2;subst eX2;subst eS2;have HA:=ħ (show Zae w' A 33 [.slice none 0 0] from hA);have HLX:=ħ hLX;have HNA:=ħ hNA;have HII:=ħ (Z3z hI (by omega) hli10 hli12 hli14);clear hA hLX hNA hI hli hli10 hli12 hli14;have c0:=HA.o.cell 0 _ rfl;have f0:=HA.o.warm 0;have HFIN:Hid (Zae (w'.setCell ⟨A,0,none⟩ lx) A 33 [lx]∧Below wr.heap.size wr (w'.setCell ⟨A,0,none⟩ lx)):=ħ ⟨HA.o.set 0 lx,(Zc8 w' ⟨A,0,none⟩ lx).below hb.o HNA.o⟩
       cases hRVc:RV with
       | none =>
        have hl:lx = .slice none 0 0:=by have:=HLX.o;rw[hRVc] at this;exact this
        subst hl;refine Zab rfl ?_
        go_wp2_with fail
        exact Zaa (Zeb.mk undef ((some A,some (.slice none 0 0),true)) rfl HFIN.o.2 ⟨A,_,rfl,rfl,HA.o,HFIN.o.1,Zc8 w' ⟨A,0,none⟩ _⟩ HII.o (fun h=>absurd rfl h))
       | some uv =>
        obtain⟨V,hl,hV⟩:∃ V,lx = .slice (some ⟨V,0,none⟩) (n+1) (n+1)∧True:=by have:=HLX.o;rw[hRVc] at this;obtain⟨V,h1,_⟩:=this;exact⟨V,h1,trivial⟩
        clear hV;subst hl;refine Zab rfl ?_
        go_wp2_with fail
        exact Zaa (Zeb.mk undef ((some A,some (.slice (some ⟨V,0,none⟩) (n+1) (n+1)),true)) rfl HFIN.o.2 ⟨A,_,rfl,rfl,HA.o,HFIN.o.1,Zc8 w' ⟨A,0,none⟩ _⟩ HII.o (fun h=>absurd rfl h))
      ·obtain rfl:=Option.some.inj hi
       have dv13:f' 56 = .bool RV.isSome:=hdn 13 _ 56 rfl (hl3 13 (by rfl)) rfl;clear hdn hl3;rw[dv13];clear dv13 gs1 gs4;refine Zab rfl ?_
       go_wp2_with fail
       exact Zaa (Zeb.mk _ g rfl hb.o (And.intro rfl (Below.refl _ _)) (Zbz hI (by omega) (by decide) (by decide) (by decide)) (fun _=>rfl))
     case he =>
      intro g listed a' w4 hI H hall;have hg1:=(hI.2.2.2 (hall 15 (by decide))).1;have hd12:clF D wr.heap.size (n+1) ao n cp most ac j cc CS RV g 12 w4 (a'.tmps.getD 55 undef):=H.done 12 _ 55 rfl (hall 12 (by decide)) rfl;have hd14:clF D wr.heap.size (n+1) ao n cp most ac j cc CS RV g 14 w4 (a'.tmps.getD 7 undef):=H.done 14 _ 7 rfl (hall 14 (by decide)) rfl;clear hI;have hd16:clF D wr.heap.size (n+1) ao n cp most ac j cc CS RV g 16 w4 (a'.tmps.getD 8 undef):=H.done 16 _ 8 rfl (hall 16 (by decide)) rfl;have hb4:=ħ H.below;have s0:=H.same 0 (Zai (by kernel_rfl));have s1:=H.same 1 (Zai (by kernel_rfl));have s2:=H.same 2 (Zai (by kernel_rfl));have s3:=H.same 3 (Zai (by kernel_rfl));have s10:=H.same 10 (Zai (by kernel_rfl));have s12:=H.same 12 (Zai (by kernel_rfl));have s13:=H.same 13 (Zai (by kernel_rfl));have s14:=H.same 14 (Zai (by kernel_rfl));have s15:=H.same 15 (Zai (by kernel_rfl));have s16:=H.same 16 (Zai (by kernel_rfl));have s84:=H.same 84 (Zai (by kernel_rfl));have s85:=H.same 85 (Zai (by kernel_rfl));have s86:=H.same 86 (Zai (by kernel_rfl));have s17:=H.same 17 (Zai (by kernel_rfl));have s18:=H.same 18 (Zai (by kernel_rfl));have hdf:=H.defers;have hts:=H.tsize;clear H hall;obtain⟨t',df⟩:=a';obtain⟨f',rfl⟩:=Z5b t' hts;have hdf':df=[]:=hdf;subst hdf';have gs0:f' 0 = .pointer (some ⟨D,0,none⟩):=s0;have gs1:f' 1 = .pointer (some ⟨w.heap.size,0,none⟩):=s1;have gs2:f' 2 = .slice ao' no cp':=s2;have gs3:f' 3 = .int .i64 (s:Int):=s3;have gs10:f' 10=undef:=s10;have gs12:f' 12 = .pointer (some ⟨D,0,none⟩):=s12;have gs13:f' 13 = .pointer (some ⟨D,0,none⟩):=s13;have gs14:f' 14 = .pointer (some ⟨D,3,none⟩):=s14;have gs15:f' 15 = .slice ro j rc:=s15;have gs16:f' 16 = .int .i64 (j:Int):=s16;have gs84:f' 84=undef:=s84;have gs85:f' 85=undef:=s85;have gs86:f' 86=undef:=s86;have gs17:f' 17 = .int .i64 (wrap64 (2^j)):=s17;have gs18:f' 18 = .int .i64 (s:Int):=s18;have e16:f' 8 = .bool RV.isSome:=hd16;rw[gs0,gs1,gs2,gs3,gs10,gs12,gs13,gs14,gs15,gs16,gs84,gs85,gs86,gs17,gs18,e16];clear s0 s1 s2 s3 s10 s12 s13 s14 s15 s16 s84 s85 s86 s17 s18 gs0 gs1 gs2 gs3 gs10 gs12 gs13 gs14 gs15 gs16 gs84 gs85 gs86 gs17 gs18 hdf hts hd16 e16;obtain⟨eX,hLX⟩:=hd12;obtain⟨A,eA,h7,hNA,hA⟩:=hd14;have g7:f' 7 = .pointer (some ⟨A,0,none⟩):=h7;have g55:f' 55=f' 55:=rfl
      have hst:stV g=(f' 55):=by
       unfold stV;rw[if_pos hg1,show g.2.1=some (f' 55) from eX];rfl
      rw[hst] at hA;have HLX:Hid (LsX RV (n+1) wr.heap.size w4 (f' 55)):=ħ hLX;have HA:=ħ hA;have HNA:=ħ hNA;clear hLX hA hNA eX eA h7 hg1 hst g55;rw[g7];clear g7;generalize hlx:f' 55=lx at HLX HA;have HB4:=ħ (HWR.o.trans (hb4.o.mono HWR.o.size));have HR4:=ħ (HRM.o.step Zlb.keeps hb4.o);obtain⟨bs,hbs⟩:∃ b,RV.isSome=b:=⟨_,rfl⟩;rw[hbs]
      cases hRVc:RV with
      | none =>
       obtain rfl:bs=false:=by rw[← hbs,hRVc];rfl
       have HOU2:Hid (outs=Zco ns most ks ps (s+1)):=ħ (by rw[HUU.o,hou.o,hRVc];simp);clear HLX HA hlx hbs
       go_wp2_with fail
       go_roundw
       case rel=>exact⟨s+1,outs,ao',no,cp',vss,by go_num,rfl,by omega,by omega,HOU2,HR4,HB4⟩
       case measure=>simp only[intOf];omega
      | some u =>
       obtain rfl:bs=true:=by rw[← hbs,hRVc];rfl
       clear hbs
       obtain⟨V,hl,hV,hVB⟩:∃ V,lx = .slice (some ⟨V,0,none⟩) (n+1) (n+1)∧Zae w4 V 3 (ivs u)∧wr.heap.size≤V:=by have:=HLX.o;rw[hRVc] at this;exact this
       have HV4:=ħ hV;have HVB:=ħ hVB;have HLU:Hid (Zdn n CS=some u):=ħ (by rw[HRV.o,hRVc]);rw[hRVc] at HUU
       have HUS:Hid (u.length=n+1∧∀ i,0≤gv u i∧gv u i≤100000):=ħ (by
        obtain⟨h1,h2,-⟩:=Zc1 HIN.o HLU.o
        have h3:SolC (ns.length+1) (Zcu ns most KS) (gv u):=by rw[HCSE.o,← D1.o.spc.cnt];exact h2
        obtain⟨hz,hr⟩:=(Zhr.1 h3).1;have hmo:=HMO.o;refine⟨h1,fun i=>?_⟩
        cases i with
        | zero=>rw[hz];exact⟨by decide,by decide⟩
        | succ i =>
         by_cases hi:i<ns.length
         ·have:=hr i hi;omega
         ·have h0:gv u (i+1)=0:=by
           unfold gv;rw[List.getD_eq_getElem?_getD,List.getElem?_eq_none (by rw[h1,D1.o.spc.cnt];omega)];rfl
          rw[h0];exact⟨by decide,by decide⟩)
       clear HLX hV hVB hlx;subst hl;have a0:=HA.o.cell 0 _ rfl;have bx:=(Below.refl w4.heap.size w4).alloc (Nat.le_refl _) (.cells #[.slice (some ⟨V,0,none⟩) (n+1) (n+1),.slice none 0 0] 228);have C5:Hid (Zae (w4.alloc (.cells #[.slice (some ⟨V,0,none⟩) (n+1) (n+1),.slice none 0 0] 228)) w4.heap.size 228 [.slice (some ⟨V,0,none⟩) (n+1) (n+1),.slice none 0 0]):=ħ (heap_alloc_new _ _);have B5:=ħ bx;clear bx
       go_upto_region 15 with (fail)
       clear a0;generalize w4.alloc (.cells #[.slice (some ⟨V,0,none⟩) (n+1) (n+1),.slice none 0 0] 228)=w5 at *;have x0:=(X1.o.step (HB4.o.trans (B5.o.mono HB4.o.size))).cell 0 _ rfl;have d2:=Zae.cell (D1.o.step (HB4.o.trans (B5.o.mono HB4.o.size))).prob 2 _ rfl
       go_wp2_with fail
       clear x0 d2;have HCB:Hid (wr.heap.size≤w4.heap.size):=ħ hb4.o.size;have HC5:Hid (w4.heap.size<w5.heap.size):=ħ C5.o.lt;have HDC:Hid (∀ W,Below w4.heap.size w4 W→DecR W P D ns ao n cp most ps po pn pc ks ro rc∧Zae W w.heap.size 191 [.pointer (some ⟨D,0,none⟩)]∧Zae W A 33 [.slice (some ⟨V,0,none⟩) (n+1) (n+1)]∧Zae W V 3 (ivs u)):=ħ (fun W hW=>⟨(D1.o.step HB4.o).step hW,(X1.o.step HB4.o).step hW,HA.o.step hW,HV4.o.step hW⟩);obtain⟨C,hC⟩:∃ C,w4.heap.size=C:=⟨_,rfl⟩;rw[hC] at C5 HC5 B5 HCB HDC ⊢;have HC:Hid (w4.heap.size=C):=ħ hC;clear hC;obtain⟨w0,HW0⟩:∃ w0:World,Hid ((∀ g,blk ao'=some g→g<w0.heap.size)∧w1.heap.size≤w0.heap.size∧w0.heap.size≤V∧w0.heap.size≤C):=⟨wr,ħ ⟨fun g hg=>(HRM.o.own.blk_lt hg).2,HWR.o.size,HVB.o,HCB.o⟩⟩
       go_loopw [66] (fun qv wq=>∃ (q:Nat) (tq:Option Addr) (tc:Nat),qv = .int .i64 q∧q≤pn∧Hid (Zae wq C 228 [.slice (some ⟨V,0,none⟩) (n+1) (n+1),.slice tq q tc])∧Hid (OwnK wq (C+1) 1 q tc (((ps.take q).map (fun p=>Za5 (fK ns (gv u)) p)).flatMap Zch) tq)∧Hid (Below C w4 wq)) (fun q _=>(pn-intOf q).toNat)
       case atStart=>exact⟨0,none,0,rfl,by omega,C5,ħ (.nil rfl rfl rfl),B5⟩
       case round =>
        clear C5 B5;obtain⟨q,tq,tc,rfl,hq,hcv,htq,hwq⟩:=hrel;have e4:IntKind.i64.wrap ((q:Int)+1)=((q+1:Nat):Int):=IntWalk.i64_in _ (by omega);by_cases hql:q<pn
        ·have qq:(q:Int)<pn:=by omega
         obtain⟨p,hp⟩:∃ p,ps[q]?=some p:=⟨_,List.getElem?_eq_getElem (by rw[← HPN.o];exact hql)⟩;have HPI:=ħ hp;have HPM:=ħ (List.mem_of_getElem? hp);obtain⟨gk,off,vs,hao,hgl,hpc,hrd⟩:=(HDC.o wr hwq.o).1.prds.at q p hp;obtain⟨xa,xn,xc,hvf,-⟩:=hpc.form;subst hvf;have PC:=ħ hpc;have s0:=hrd 0 _ rfl;have s1:=hrd 1 _ rfl;have s2:=hrd 2 _ rfl;have s3:=hrd 3 _ rfl;have s4:=hrd 4 _ rfl;rw[Nat.add_zero] at s0;have HAO:=ħ hao;clear hrd hpc hp hgl;subst hao;have HTR:=ħ (fun (W:World) (Cx:World→Prop) (g:Nat) (cb:Array Value) (f:Ky→Bool) (S:Ky→Prop) h1 h2 h3 h4=>Zka (Zcx p) p W P [.int .i64 p.k,.string (Zac p.l),.string (Zac p.r),.int .i64 p.c,.slice xa xn xc] Cx g cb f S (Nat.le_refl _) (HPC.o p HPM.o) h1 h2 h3 h4);have HPQ:=ħ (HPK.o p HPM.o);generalize p.k=q0 at *;generalize Zac p.l=q1 at *;generalize Zac p.r=q2 at *;generalize p.c=q3 at *;have bq:=(Below.refl wr.heap.size wr).alloc (Nat.le_refl _) (.cells #[.int .i64 q0,.string q1,.string q2,.int .i64 q3,.slice xa xn xc] 54);have Y1:Hid (Zae (wr.alloc (.cells #[.int .i64 q0,.string q1,.string q2,.int .i64 q3,.slice xa xn xc] 54)) wr.heap.size 54 [.int .i64 q0,.string q1,.string q2,.int .i64 q3,.slice xa xn xc]):=ħ (heap_alloc_new _ _);have HCW:Hid (C<wr.heap.size):=ħ hcv.o.lt;have HTQN:Hid (blk tq≠some wr.heap.size):=ħ (fun e=>by have:=(htq.o.blk_lt e).2;omega);have PX:=ħ (PC.o.below bq);have hcv1:=ħ (hcv.o.step bq);have htq1:=ħ (htq.o.below bq);have hwq1:=ħ (hwq.o.trans (bq.mono (Nat.le_of_lt HCW.o)));clear bq PC hcv htq hwq
         go_upto_region 18 with (fail)
         clear s0 s1 s2 s3 s4;generalize wr.alloc (.cells #[.int .i64 q0,.string q1,.string q2,.int .i64 q3,.slice xa xn xc] 54)=wx at *;refine Zaw [0,1,2] [3,4,5,6,7,8] (fun w'=>Zae w' C 228 [.slice (some ⟨V,0,none⟩) (n+1) (n+1),.slice tq q tc]∧Zae w' wr.heap.size 54 [.int .i64 q0,.string q1,.string q2,.int .i64 q3,.slice xa xn xc]) (by kernel_rfl) (by kernel_rfl) (by kernel_rfl) (fun _ _ d _ _ h=>by cases d<;>exact h) ⟨hcv1.o,Y1.o⟩ ?_;simp only[Zbq,List.filterMap_cons,List.filterMap_nil,List.getElem?_cons_zero,List.getElem?_cons_succ,Option.map_some,List.map_cons,List.map_nil];apply Exists.intro;refine⟨?hh,?ht⟩
         case hh =>
          intro w' hw';have c0:=hw'.1.cell 0 _ rfl;have c1:=hw'.1.cell 1 _ rfl;have p0:=hw'.2.cell 0 _ rfl;have p1:=hw'.2.cell 1 _ rfl;have p2:=hw'.2.cell 2 _ rfl;have p3:=hw'.2.cell 3 _ rfl;have p4:=hw'.2.cell 4 _ rfl;clear hw'
          repeat still_step
          exact wpStill_nil rfl
         case ht =>
          have BD:=(Below.refl wx.heap.size wx).drew;have hcv2:=ħ (hcv1.o.step BD);have Y2:=ħ (Y1.o.step BD);have htq2:=ħ (htq1.o.below BD);have hwq2:=ħ (hwq1.o.trans (BD.mono (Nat.le_of_lt (Nat.lt_of_lt_of_le HCW.o (Nat.le_of_lt Y1.o.lt)))));have P2:=ħ (PX.o.below BD);clear BD hcv1 Y1 htq1 hwq1 PX;generalize wx.drew=wd at *;refine Zah ?_
          go_wp2_with fail
          refine Zaa ⟨⟨hcv2.o,Y2.o⟩,?_⟩;refine Zah ?_
          have HIF:Hid (IsF (TruB w.heap.size A D ns ao n cp most (.slice (some ⟨gk,off,none⟩) pn pc) (.slice ro ks.length rc) (some ⟨V,0,none⟩) (n+1) u) 242 #[.pointer (some ⟨w.heap.size,0,none⟩),.pointer (some ⟨A,0,none⟩)] (fK ns (gv u)) (Zqt ns)):=ħ
           ⟨enters_of Tryz.func242 (by kernel_rfl) rfl,fun w w' h hb=>h.step hb,fun k w' hk hC=>Zw7 w.heap.size A D ns ao n cp most _ _ (some ⟨V,0,none⟩) (n+1) u k w' hC hk.1 hk.2.1 HUS.o.1 HUS.o.2⟩
          have HTB:Hid (TruB w.heap.size A D ns ao n cp most (.slice (some ⟨gk,off,none⟩) pn pc) (.slice ro ks.length rc) (some ⟨V,0,none⟩) (n+1) u wd):=ħ (by
           obtain⟨h1,h2,h3,h4⟩:=HDC.o wd hwq2.o
           exact⟨h2,h1.prob,by rw[HUS.o.1];exact h3,h4.flatI,h1.spc⟩)
          go_wp2_with fail
          refine (HTR.o wd _ _ _ _ _ HIF.o HPQ.o P2.o HTB.o).mono ?_;rintro e w6 ⟨rfl,b6⟩;have hcv6:=ħ (hcv2.o.step b6);have Y6:=ħ (Y2.o.step b6);have htq6:=ħ (htq2.o.below b6);have hwq6:=ħ (hwq2.o.trans (b6.mono (Nat.le_of_lt hcv2.o.lt)));clear b6 HIF HTB hcv2 Y2 htq2 hwq2 P2;obtain⟨tv,htv⟩:∃ v,Za5 (fK ns (gv u)) p=v:=⟨_,rfl⟩;rw[htv];have HTV:=ħ htv;clear htv
          go_wp2_with fail
          refine Zaa ⟨⟨hcv6.o,Y6.o⟩,?_⟩;refine Zah ?_
          go_wp2_with fail
          have bz:=(Below.refl w6.heap.size w6).alloc (Nat.le_refl _) (.cells #[.bool tv] 4);refine Zaa ⟨⟨hcv6.o.step bz,Y6.o.step bz⟩,?_⟩;clear bz;refine Zah ?_
          go_wp2_with (at_builtin;refine Zc7 87 4 (.bool false) 1 1 Tryz.underlying87 Zdd rfl (by omega) (by omega) w6 (C+1) rfl (.tmp 71) (.tmp 75) rfl tq tc q (((ps.take q).map (fun p=>Za5 (fK ns (gv u)) p)).flatMap Zch) ?q1 htq6.o hcv6.o.lt 1 1 #[.bool tv] 4 ?q2 rfl (by omega) ?q3 ?q4 ?_;(case q1=>rfl);(case q2=>rfl);(case q3=>simp[Value.oneCell']);(case q4=>omega);intro g5 off5 c5 wa o8 gr8 b8 or8;have O8:=ħ o8;have B8:=ħ b8;have G8:=ħ gr8;clear o8 gr8 b8 or8)
          have hcv8:=ħ (hcv6.o.below B8.o (Nat.lt_succ_self C));have Y8:=ħ (Y6.o.grownBy G8.o HTQN.o);refine Zaa ⟨⟨hcv8.o,Y8.o⟩,?_⟩;refine Zah ?_
          go_wp2_with fail
          refine Zaa ⟨⟨hcv8.o,Y8.o⟩,?_⟩;refine Zbj ?_;have m0:=hcv8.o.cell 0 _ rfl;have m1:=hcv8.o.cell 1 _ rfl;have f1:=hcv8.o.warm 1;have U9:=ħ (Zc8 wa ⟨C,1,none⟩ (.slice (some ⟨g5,off5,none⟩) (q+1) c5))
          go_wp2_with fail
          go_roundw
          case rel=>exact⟨q+1,some ⟨g5,off5,none⟩,c5,by go_num,by omega,ħ (hcv8.o.set 1 _),ħ (by
           have h:=O8.o.upd U9.o (fun e=>absurd (show C+1≤C from (O8.o.blk_lt e).1) (Nat.not_succ_le_self C))
           have e:((ps.take (q+1)).map (fun p=>Za5 (fK ns (gv u)) p)).flatMap Zch=((ps.take q).map (fun p=>Za5 (fK ns (gv u)) p)).flatMap Zch++[.bool tv]:=by
            rw[List.take_add_one,HPI.o];simp[Zch,HTV.o]
           rw[e];exact h),ħ (U9.o.below (hwq6.o.trans (B8.o.mono (Nat.le_succ _))) (Nat.le_refl _))⟩
          case measure=>simp only[intOf];omega
        ·have qq:¬ ((q:Int)<pn):=by omega
         obtain rfl:q=pn:=by omega
         have HPT:Hid (ps.take q=ps):=ħ (by rw[HPN.o,List.take_length]);have HWQ:Hid (Below w4.heap.size w4 wr):=ħ (by have h:=hwq.o;rw[← HC.o] at h;exact h);have HR5:=ħ (HR4.o.step Zlb.keeps HWQ.o);have HB5:=ħ (HB4.o.trans (HWQ.o.mono HB4.o.size))
         have HCE:Hid (Zlb wr (fun g=>w0.heap.size≤g) (u,trU ns ps (gv u)) [.slice (some ⟨V,0,none⟩) (n+1) (n+1),.slice tq q tc]):=ħ ⟨some ⟨V,0,none⟩,n+1,tq,tc,by
           show _=[Value.slice _ u.length _,Value.slice _ (trU ns ps (gv u)).length _]
           rw[HUS.o.1,trU,List.length_map,← HPN.o],by
           show (trU ns ps (gv u)).length≤tc;rw[trU,List.length_map,← HPN.o]
           exact htq.o.len_le.1,by
           cases (HDC.o wr hwq.o).2.2.2.flatI with
           | inl h=>exact .inl h
           | inr h =>
            obtain⟨g,off,h1,h2,h3⟩:=h
            obtain⟨rfl,rfl⟩:V=g∧0=off:=by cases h1;exact⟨rfl,rfl⟩
            exact .inr ⟨V,0,rfl,HW0.o.2.2.1,h2,h3⟩,by
           have h9:=htq.o;rw[HPT.o] at h9
           cases h9.flatR (fun _=>rfl) (by rw[List.length_map,← HPN.o]) with
           | inl h=>exact .inl h
           | inr h =>
            obtain⟨g,off,h1,h2,h3⟩:=h
            exact .inr ⟨g,off,h1,Nat.le_trans HW0.o.2.2.2 (Nat.le_of_lt (h9.blk_lt (by rw[h1];rfl)).1),h2,h3⟩⟩
         have HOU2:Hid (outs++[(u,trU ns ps (gv u))]=Zco ns most ks ps (s+1)):=ħ (by rw[HUU.o,hou.o]);clear htq hwq
         go_wp2_with (first | (refine wpList_load_row rfl 228 (.tmp 9) rfl C ?x1 228 #[.slice (some ⟨V,0,none⟩) (n+1) (n+1),.slice tq q tc] (0,0) _ hcv.o Tryz.underlying228 rfl (Z3u _ rfl) ?_;(case x1=>rfl)) | (at_builtin;refine Zc7 225 228 (.agg #[.slice none 0 0,.slice none 0 0]) 2 48 Tryz.underlying225 Zw8 rfl (by omega) (by omega) wr w1.heap.size rfl (.tmp 79) (.tmp 81) rfl ao' cp' no vss.flatten ?q1 HR5.o.own ?q5 1 1 #[.slice (some ⟨V,0,none⟩) (n+1) (n+1),.slice tq q tc] 228 ?q2 rfl (by omega) ?q3 ?q4 ?_;(case q1=>rfl);(case q5=>exact HB5.o.size);(case q2=>rfl);(case q3=>intro z hz;simp at hz;rcases hz with rfl | rfl<;>rfl);(case q4=>omega);intro g5 off5 c5 wa o8 gr8 b8 or8;have R8:=ħ (RowM.add Zlb.keeps HR5.o HW0.o.1 HW0.o.2.1 (fun g hg=>hg.elim) HCE.o rfl (by simpa using o8) gr8 or8);have B8:=ħ (HB5.o.trans b8);clear o8 gr8 b8 or8))
         go_roundw
         case rel=>exact⟨_,_,_,_,_,_,_,_,_,_,⟨s+1,by go_num,outs++[(u,trU ns ps (gv u))],some ⟨g5,off5,none⟩,no+1,c5,rfl,by omega,by omega,HOU2,vss++[[.slice (some ⟨V,0,none⟩) (n+1) (n+1),.slice tq q tc]],R8⟩,rfl,rfl,rfl,rfl,rfl,rfl,rfl,rfl,rfl,rfl⟩
         case measure=>simp only[intOf];omega
  ·have ss:¬ ((s:Int)<N):=by omega
   obtain rfl:s=N:=by omega
   have HLE:Hid (∀ c∈outs,c.1.length≤1000):=ħ (fun c hc=>by
    rw[hou.o] at hc;obtain⟨t,_,h1,_⟩:=(Zer ns most ks ps c s).1 hc;have h2:=(Zc1 (Ze3 (Zhs HKK.o t) most) h1).1;have h3:=D1.o.spc.cnt;have h4:=D1.o.spc.big
    omega)
   have HSC:=ħ (Zqs wr w1.heap.size w1.heap.size (fun _=>False) ao' no cp' outs vss hrm.o HLE.o (by omega))
   go_wp2_with fail
   refine HSC.o.mono ?_;rintro e w6 ⟨rfl,⟨ys,vs6,hp,hs6,hr6⟩,on6⟩;have HE:ys=Zcz ns most ks ps:=HCE.o ys (by rw[← hou.o];exact hp) hs6;rw[HE] at hr6;have HR6:=ħ hr6;have HB6:=ħ (Only.later hw.o on6 (fun g hg=>(hrm.o.own.blk_lt hg).1));clear HSC hp hs6 hr6 on6 HE HLE hou hrm hw
   go_wp2
   go_ret;exact⟨ao',cp',vs6,by rw[← HR6.o.cnt];rfl,by rw[← HR6.o.cnt];exact HR6.o.lowerB Zlb.keeps B1.o.size B1.o.size,B1.o.trans (HB6.o.mono B1.o.size)⟩
end
section
open Go.RowKit Go.Sort
structure IsT (g:Nat) (f:List Bool→Bool) (m:Nat):Prop where
 enters:∀ args w,(callFunc g args).run Tryz.prog w = .ok (.enter g args) w
 calls:∀ (W:World) (bo:Option Addr) (cb:Nat) (l:List Bool),l.length=m→Zal Zch W bo l→Calls Tryz.prog g #[.slice bo m cb] W fun e w'=>e = .returned (.bool (f l))∧Below W.heap.size W w'
theorem Zt1 {ns:List (List Nat)} {most:Int} {ks:List Ky} {ps:List Prd} (hk:Zp0 ns ks):∀ c∈Zcz ns most ks ps,c.1.length=ns.length+1∧c.2.length=ps.length:=by
 intro c hc;obtain⟨h1,h2⟩:=Zm3 hk (List.mem_mergeSort.1 hc);exact⟨h1.len,by rw[h2,trU,List.length_map]⟩
def Zkp (ns:List (List Nat)) (most:Int) (ks:List Ky) (ps:List Prd) (f:List Bool→Bool):Option (List Int):=((Zcz ns most ks ps).find? (fun c=>f c.2)).map Prod.fst
theorem Zlb.open {w:World} {P:Nat→Prop} {c:List Int×List Bool} {vs:List Value} (h:Zlb w P c vs):∃ ao cap bo cb,vs=[.slice ao c.1.length cap,.slice bo c.2.length cb]∧Zal Zbk w ao c.1∧Zal Zch w bo c.2∧c.2.length≤cb:=by
 obtain⟨ao,cap,bo,cb,h1,hcb,h2,h3⟩:=h;refine⟨ao,cap,bo,cb,h1,?_,?_,hcb⟩
 ·rcases h2 with h | ⟨g,off,a,_,b,d⟩
  ·exact .inl h
  ·exact .inr ⟨g,off,a,b,d⟩
 ·rcases h3 with h | ⟨g,off,a,_,b,d⟩
  ·exact .inl h
  ·exact .inr ⟨g,off,a,b,d⟩
theorem Z1d (w:World) (P:Nat→Prop) (D:Nat) (ns:List (List Nat)) (ao:Option Addr) (n cp:Nat) (most:Int) (ps:List Prd) (po:Option Addr) (pn pc:Nat) (ks:List Ky) (ro:Option Addr) (rc:Nat) (hd:DecR w P D ns ao n cp most ps po pn pc ks ro rc)
  (hpn:pn=ps.length) (hpl:pn≤1000) (hk8:ks.length≤8) (hkc:∀ k∈ks,Zqt ns k) (hpk:∀ p∈ps,∀ k∈Zcq p,Zqt ns k) (hpc:∀ p∈ps,Zcx p≤1000000) (hmost:0≤most∧most≤65535) (fg:Nat) (f:List Bool→Bool) (hf:IsT fg f pn) :
  Calls Tryz.prog 175 #[.pointer (some ⟨D,0,none⟩),.func (.func fg) #[] #[]] w fun e w'=>Zg0 w ns (Zkp ns most ks ps f) e w':=by
 have HCL:=ħ (fun W (h:DecR W P D ns ao n cp most ps po pn pc ks ro rc)=>Zw9 W P D ns ao n cp most ps po pn pc ks ro rc h hpn hpl hk8 hkc hpk hpc hmost);have HD:=ħ hd
 have HLEN:Hid (∀ c∈Zcz ns most ks ps,c.1.length=n+1∧c.2.length=pn):=ħ (fun c hc=>by
  rw[hd.spc.cnt,hpn]
  exact Zt1 (fun k hk=>(hkc k hk).2.1) c hc)
 have HFC:=ħ hf.calls;have eg:=hf.enters
 have HCU:Hid ((Zcz ns most ks ps).length≤256):=ħ (by
  unfold Zcz;rw[List.length_mergeSort]
  exact Nat.le_trans (Zht ns most ks ps _) (Nat.le_trans (Nat.pow_le_pow_right (by decide) hk8) (by decide)))
 obtain⟨FR,hFR⟩:∃ F,Zkp ns most ks ps f=F:=⟨_,rfl⟩;rw[hFR];have HFR:Hid (((Zcz ns most ks ps).find? (fun c=>f c.2)).map Prod.fst=FR):=ħ hFR;obtain⟨CL,hCL⟩:∃ CL,Zcz ns most ks ps=CL:=⟨_,rfl⟩;rw[hCL] at HCL HLEN HCU HFR;obtain⟨N,hN⟩:∃ N,CL.length=N:=⟨_,rfl⟩;have HN:=ħ hN;rw[hN] at HCL HCU;have hN2:=HCU.o;clear hd hpn hpl hk8 hkc hpk hpc hmost hf hFR hCL hN
 go_enter Tryz.func175,Tryz.ntmps175
 go_wp2_with fail
 refine (HCL.o w HD.o).mono ?_;rintro e w2 ⟨r1,c1,vss,rfl,hrm,b2⟩;have HRM:=ħ hrm;have B2:=ħ b2;clear hrm b2 HCL
 go_wp2_with fail
 go_loopw [11] (fun iv wr=>∃ i:Nat,iv = .int .i64 i∧i≤N∧Hid ((CL.take i).find? (fun c=>f c.2)=none)∧Hid (Below w2.heap.size w2 wr)) (fun iv _=>(N-intOf iv).toNat)
 case atStart=>exact⟨0,rfl,by omega,ħ rfl,ħ (Below.refl _ _)⟩
 case round =>
  obtain⟨i,rfl,hi,hno,hw⟩:=hrel;have e3:IntKind.i64.wrap ((i:Int)+1)=((i+1:Nat):Int):=IntWalk.i64_in _ (by omega);by_cases hil:i<N
  ·have ii:(i:Int)<N:=by omega
   obtain⟨c,hc⟩:∃ c,CL[i]?=some c:=⟨_,List.getElem?_eq_getElem (by rw[HN.o];exact hil)⟩;have HC:=ħ hc;obtain⟨gc,off,vs,hao,hgl,hlo,hvs,hvl,hrd,hel⟩:=(HRM.o.step Zlb.keeps hw.o).at i c hc;obtain⟨vo,vc,bo,bc,rfl,hv1,hv2,-⟩:=hel.open;have HLC:=ħ (HLEN.o c (List.mem_of_getElem? hc));rw[HLC.o.1,HLC.o.2] at hrd;have HV1:=ħ hv1;have HV2:=ħ hv2;have s0:=hrd 0 _ rfl;have s1:=hrd 1 _ rfl;rw[Nat.add_zero] at s0;have bq:=(Below.refl wr.heap.size wr).alloc (Nat.le_refl _) (.cells #[.slice vo (n+1) vc,.slice bo pn bc] 228);have Y1:Hid (Zae (wr.alloc (.cells #[.slice vo (n+1) vc,.slice bo pn bc] 228)) wr.heap.size 228 [.slice vo (n+1) vc,.slice bo pn bc]):=ħ (heap_alloc_new _ _);have HV3:=ħ (hv1.below bq);have HV4:=ħ (hv2.below bq);have HW1:=ħ (hw.o.trans (bq.mono hw.o.size));clear hv1 hv2 hrd hel hc bq hvs hvl hlo hgl HV1 HV2 hw;subst hao
   go_upto_region 4 with (fail)
   clear s0 s1;generalize wr.alloc (.cells #[.slice vo (n+1) vc,.slice bo pn bc] 228)=wx at *;have y1:=Y1.o.cell 1 _ rfl
   go_wp2_with fail
   refine (HFC.o wx bo bc c.2 HLC.o.2 HV4.o).mono ?_;rintro e w4 ⟨rfl,b4⟩;have HW4:=ħ (HW1.o.trans (b4.mono HW1.o.size));have Y4:=ħ (Y1.o.step b4);have HV5:=ħ (HV3.o.below b4);clear b4 y1 HW1 Y1 HV3 HV4;obtain⟨tv,htv⟩:∃ v,f c.2=v:=⟨_,rfl⟩;rw[htv];have HTV:=ħ htv;clear htv
   cases tv with
   | false =>
    have HNO:Hid ((CL.take (i+1)).find? (fun c=>f c.2)=none):=ħ (by
     rw[List.take_add_one,HC.o,List.find?_append,hno.o]
     simp[HTV.o])
    go_wp2_with fail
    go_roundw
    case rel=>exact⟨i+1,by go_num,by omega,HNO,HW4⟩
    case measure=>simp only[intOf];omega
   | true =>
    have HYE:Hid (FR=some c.1):=ħ (by
     rw[← HFR.o]
     have h1:CL=CL.take i++(c::CL.drop (i+1)):=by
      have h2:i<CL.length:=by rw[HN.o];exact hil
      have h3:CL[i]=c:=by have:=HC.o;rw[List.getElem?_eq_getElem h2] at this;exact Option.some.inj this
      rw[← h3,← List.drop_eq_getElem_cons h2,List.take_append_drop]
     rw[h1,List.find?_append,hno.o]
     simp[HTV.o])
    have D4:=ħ (HD.o.step (B2.o.trans (HW4.o.mono B2.o.size)))
    go_upto_region 5 with (fail)
    refine Zcs [0,1,2,3,4,5] [6,7,8] (fun w'=>Zae w' D 218 [.slice ao n cp,.int .i64 most,.slice po pn pc,.slice ro ks.length rc]∧Zae w' wr.heap.size 228 [.slice vo (n+1) vc,.slice bo pn bc]) (by kernel_rfl) (by kernel_rfl) (by kernel_rfl) (fun _ _ d _ _ h=>by cases d<;>exact h) ⟨D4.o.prob,Y4.o⟩ ?_;simp only[Zbq,List.filterMap_cons,List.filterMap_nil,List.getElem?_cons_zero,List.getElem?_cons_succ,Option.map_some,List.map_cons,List.map_nil];apply Exists.intro;refine⟨?hh,?ht⟩
    case hh =>
     intro w' hw';have c0:=hw'.1.cell 0 _ rfl;have c1:=hw'.1.cell 1 _ rfl;have p0:=hw'.2.cell 0 _ rfl;clear hw'
     repeat still_step
     exact wpStill_nil rfl
    case ht =>
     have BD:=(Below.refl w4.heap.size w4).drew;have HW5:=ħ (B2.o.trans ((HW4.o.trans (BD.mono HW4.o.size)).mono B2.o.size));have HBD:=ħ (Zwy w4.drew ao n cp most ns vo (n+1) vc c.1 D4.o.spc.cnt (D4.o.spc.strs.below BD) (by have:=D4.o.spc.big;omega) (HV5.o.below BD) HLC.o.1.symm HLC.o.1);have Y5:=ħ (Y4.o.step BD);have D5:=ħ (D4.o.step BD);clear BD Y4 D4 HV5 HW4;generalize w4.drew=w5 at *;refine Za4 ?_
     go_wp2_with fail
     refine HBD.o.mono ?_;rintro e w6 ⟨⟨r5,c5,rfl,ho5⟩,b5⟩;have B6:=ħ (HW5.o.trans (b5.mono HW5.o.size));have O6:=ħ (ho5.lower HW5.o.size);have HCN:=ħ D5.o.spc.cnt;have SS:Hid (Zae w6 D 218 [.slice ao n cp,.int .i64 most,.slice po pn pc,.slice ro ks.length rc]∧Zae w6 wr.heap.size 228 [.slice vo (n+1) vc,.slice bo pn bc]):=ħ ⟨Zae.step D5.o.prob b5,Y5.o.step b5⟩;clear b5 ho5 HBD Y5 D5 HW5
     go_wp2_with fail
     refine Zaa ⟨SS.o,?_⟩;refine Za4 ?_
     go_wp2_with fail
     refine Zaa ⟨SS.o,?_⟩;refine Za4 ?_
     go_wp2_with fail
     refine Zaa ⟨SS.o,?_⟩;unfold Zd4
     go_wp2
     go_ret2
     exact Zg0.yes HYE.o HCN.o O6.o B6.o
  ·have ii:¬ ((i:Int)<N):=by omega
   have HNO:Hid (FR=none):=ħ (by
    rw[← HFR.o];have:=hno.o;rw[List.take_of_length_le (by rw[HN.o];omega)] at this
    rw[this];rfl)
   have B9:=ħ (B2.o.trans (hw.o.mono B2.o.size))
   go_wp2
   go_ret2
   exact Zg0.no HNO.o B9.o
end
section
open Go.RowKit Go.Sort Go.Maps
theorem Zg1.inc {k:Ky} (h:Zg1 k):inC k.c=true:=h.2.2
theorem Zpe {ns:List (List Nat)} {most:Int} {ps:List Prd} (h:Zec ns most ps=0):(Za7 ps).length≤8∧(∀ k∈Za7 ps,Zqt ns k)∧(∀ p∈ps,∀ k∈Zcq p,Zqt ns k)∧(0≤most∧most≤65535)∧ns.length≤16:=by
 obtain⟨h1,h2,h3⟩:=Zw4 (ns:=ns) (most:=most) (ps:=ps) (by rw[h];decide)
 have hA:∀ p∈ps,∀ k∈Zam p,Zqt ns k:=fun p hp k hk=>⟨(Zet (h1 p hp) k hk).nmb,h2 k (List.mem_flatMap.2 ⟨p,hp,hk⟩),(Zet (h1 p hp) k hk).inc⟩
 have hg:=h3;unfold Zf8 at hg;simp only[Bool.and_eq_true,decide_eq_true_eq] at hg;refine⟨?_,?_,fun p hp k hk=>hA p hp k ((Zb8 p k).2 hk),hg.1.2,hg.1.1⟩
 ·have h5:∀ p∈ps,okQ ns p=true:=fun p hp=>Zpd (h1 p hp) (fun k hk=>(hA p hp k hk).2.1)
  rw[Zpc h5 h3] at h;by_cases h6:8<(Za7 ps).length
  ·rw[if_pos h6] at h;cases h
  ·omega
 ·intro k hk
  rw[Zl8] at hk;unfold Zfh at hk;obtain⟨k',hk',rfl⟩:=List.mem_map.1 (List.mem_filter.1 hk).1;obtain⟨p,hp,hkp⟩:=List.mem_flatMap.1 hk';have:=hA p hp k' hkp;unfold Zeh;split
  ·exact this.opp
  ·exact this
theorem Zan.wide {w:World} {P:Nat→Prop} {p:Prd} {vs:List Value} (h:Zan w P p vs):Zan w (fun _=>True) p vs:=Zan.keep (fun _ _ _=>rfl) (Nat.le_refl _) (fun _ _ _=>trivial) p vs h
theorem Zae.readsR {w:World} {g:Nat} {t:TypeId} {vs:List Value} (h:Zae w g t vs):Zau w g 0 vs:=fun j u hj=>by rw[Nat.zero_add];exact h.cell j u hj
theorem Zan.len5 {w:World} {P:Nat→Prop} {p:Prd} {vs:List Value} (h:Zan w P p vs):vs.length=5:=by
 obtain⟨a,n,c,rfl,-⟩:=h.form;rfl
theorem Z1e {w:World} {p q:Prd} {g:Nat} {t:TypeId} {vs us:List Value} (h:Zan w (fun _=>True) p vs) (h':Zan w (fun _=>True) q us) (hg:Zae w g t (vs++us)):Zcl w (fun _=>True) [p,q] (some ⟨g,0,none⟩):=by
 refine .inr ⟨g,0,rfl,trivial,hg.lt,?_⟩;have hr:=hg.readsR;unfold Za6;refine⟨⟨vs,h,fun j u hj=>hr j u (by rw[List.getElem?_append_left (List.getElem?_eq_some_iff.1 hj).1];exact hj)⟩,?_⟩;unfold Za6;refine⟨⟨us,h',fun j u hj=>?_⟩,?_⟩
 ·have:=hr (5+j) u (by rw[List.getElem?_append_right (by rw[h.len5];omega),h.len5,Nat.add_sub_cancel_left];exact hj)
  rwa [Nat.zero_add] at this ⊢
 ·unfold Za6
  trivial
def Zl9 (w w':World) (ns:List (List Nat)) (r:Option (List Int)) (v:Value):Prop:=match r with
 | none=>v = .slice none 0 0
 | some u=>∃ ro rc,v = .slice ro ns.length rc∧OwnK w' w.heap.size 2 ns.length rc ((Zww ns u).flatMap Zp1) ro
theorem Zg0.open {w w':World} {ns:List (List Nat)} {r:Option (List Int)} {e:Ending} (h:Zg0 w ns r e w'):(∃ v,e = .returned (.tuple #[v,.bool r.isSome])∧Zl9 w w' ns r v)∧Below w.heap.size w w':=by
 obtain⟨h1,h2⟩:=h
 cases r with
 | none=>exact⟨⟨_,h1,rfl⟩,h2⟩
 | some u=>obtain⟨ro,rc,h3,h4⟩:=h1;exact⟨⟨_,h3,ro,rc,rfl,h4⟩,h2⟩
theorem Zl9.lower {w w0 w':World} {ns:List (List Nat)} {r:Option (List Int)} {v:Value} (h:Zl9 w w' ns r v) (hb:w0.heap.size≤w.heap.size):Zl9 w0 w' ns r v:=by
 cases r with
 | none=>exact h
 | some u=>obtain⟨ro,rc,h3,h4⟩:=h;exact⟨ro,rc,h3,h4.lower hb⟩
def Zzp (w:World) (ns:List (List Nat)) (c:Int) (r:Option (List Int)) (b:Bool) (e:Ending) (w':World):Prop :=
 (if c=0 then ∃ v,e = .returned (.tuple #[v,.bool b,.int .i64 0])∧Zl9 w w' ns r v else e = .returned (.tuple #[.slice none 0 0,.bool false,.int .i64 c]))∧Below w.heap.size w w'
theorem Zzp.bad {w w':World} {ns:List (List Nat)} {c:Int} {r:Option (List Int)} {b:Bool} (h:c≠0) (hb:Below w.heap.size w w'):Zzp w ns c r b (.returned (.tuple #[.slice none 0 0,.bool false,.int .i64 c])) w':=by
 refine⟨?_,hb⟩;rw[if_neg h]
theorem Zzp.good {w w':World} {ns:List (List Nat)} {c:Int} {r:Option (List Int)} {b b':Bool} {v:Value} (h:c=0) (hb':b'=b) (hv:Zl9 w w' ns r v) (hb:Below w.heap.size w w'):Zzp w ns c r b (.returned (.tuple #[v,.bool b',.int .i64 0])) w':=by
 subst hb';refine⟨?_,hb⟩;rw[if_pos h];exact⟨v,rfl,hv⟩
theorem Zg2.open {w w':World} {c:Int} {cs:List Ky} {ao:Option Addr} {n cp:Nat} {most:Int} {po:Option Addr} {pn pc:Nat} {e:Ending} (h:Zg2 w c cs ao n cp most po pn pc e w'):(c≠0∧e = .returned (.tuple #[.pointer none,.int .i64 c])∧Below w.heap.size w w')∨(c=0∧∃ D ro rc,e = .returned (.tuple #[.pointer (some ⟨D,0,none⟩),.int .i64 0])∧w.heap.size≤D∧Z06 w' D ao n cp most po pn pc ro rc cs.length∧OwnK w' w.heap.size 3 cs.length rc (cs.flatMap kyC) ro∧Below w.heap.size w w'):=by
 obtain⟨h1,h2⟩:=h;by_cases hc:c=0
 ·rw[if_pos hc] at h1
  obtain⟨D,ro,rc,a,b,d,f⟩:=h1;exact .inr ⟨hc,D,ro,rc,a,b,d,f,h2⟩
 ·rw[if_neg hc] at h1
  exact .inl ⟨hc,h1,h2⟩
theorem Z30 (k:Ky):(kyC k).length=3:=rfl
theorem Zpf (b:Bool):(Zch b).length=1:=rfl
theorem Zal.bool {w:World} {bo:Option Addr} {l:List Bool} (h:Zal Zch w bo l) (i:Nat) (hi:i<l.length):∃ g off,bo=some ⟨g,off,none⟩∧w.cell? ⟨g,off+i,none⟩=some (.bool (l.getD i false)):=by
 obtain⟨g,off,h1,h2,h3⟩:=h.at Zpf i l[i] (List.getElem?_eq_getElem hi);refine⟨g,off,h1,?_⟩;have:=h3 0 _ rfl;rw[Nat.mul_one,Nat.add_zero] at this;rw[this,List.getD_eq_getElem?_getD,List.getElem?_eq_getElem hi];rfl
theorem Zpg (m:Nat) (hm:1<m) (hM:m≤1000):IsT 132 (fun l=>l.getD 0 false&&!l.getD 1 false) m:=⟨enters_of Tryz.func132 (by kernel_rfl) rfl,fun W bo cb l hl hr=>by
 obtain⟨g,off,rfl,s0⟩:=hr.bool 0 (by omega);obtain⟨g',off',h1,s1⟩:=hr.bool 1 (by omega);cases h1
 have mm:(0:Int)<m:=by omega
 have m1:(1:Int)<m:=by omega
 rw[Nat.add_zero] at s0;generalize l.getD 0 false=b0 at *;generalize l.getD 1 false=b1 at *;clear hr hl hm
 go_enter Tryz.func132,Tryz.ntmps132
 cases b0 with
 | false =>
  go_wp2
  go_ret;exact⟨rfl,Below.refl _ _⟩
 | true =>
  go_wp2
  go_ret
  exact⟨by simp,Below.refl _ _⟩⟩
end
section
open Go.RowKit Go.Shelf Go.Sort
theorem Zae.addr {w:World} {g:Nat} {t:TypeId} {vs:List Value} (h:Zae w g t vs) (j:Nat) (u:Value) (hj:vs[j]?=some u):w.cell? ((⟨g,0,none⟩:Addr).add j)=some u:=by
 rw[Addr.add_lit,Nat.zero_add];exact h.cell j u hj
theorem OwnK.sortI {w:World} {B n cap g off m:Nat} {l:List Int} {d:List Int} {os:Array Obj} (h:OwnK w B 1 n cap (l.flatMap Zbk) (some ⟨g,off,none⟩)) (hd:d.length=l.length) :
  OwnK (grow (putRow (Value.int .i64) (Sort.ahead w m) g off d.toArray) os) B 1 n cap (d.flatMap Zbk) (some ⟨g,off,none⟩)∧Only w (grow (putRow (Value.int .i64) (Sort.ahead w m) g off d.toArray) os) (· = g)∧Holds (Value.int .i64) w g off l.toArray:=by
 have hlen:=h.count
 have hll:l.length=n:=by rw[Zb6 Zbk 1 Zbp,Nat.mul_one,Nat.mul_one] at hlen;exact hlen
 cases h with
 | «at» g off h h1 h2 h3 =>
  have hlt:=h.lt;have hle:=h.le;rw[Nat.mul_one,h1,Nat.mul_one] at hle
  have hH:Holds (Value.int .i64) w g off l.toArray:=by
   intro j hj;rw[List.size_toArray] at hj;refine⟨?_,h.warm j (by omega)⟩;rw[h.cells j (.int .i64 l.toArray[j]!) (by rw[← Ze4,ivs,List.getElem?_map,List.getElem?_eq_getElem hj,getElem!_pos l.toArray j (by simpa using hj)];simp)]
  have hH2:Holds (Value.int .i64) (grow (putRow (Value.int .i64) (Sort.ahead w m) g off d.toArray) os) g off d.toArray:=holds_sortWorld (Value.int .i64) w g off m l.toArray d.toArray os hlt hH (by simpa using hd)
  have hsz:w.heap.size≤(grow (putRow (Value.int .i64) (Sort.ahead w m) g off d.toArray) os).heap.size:=by
   rw[show grow (putRow (Value.int .i64) (Sort.ahead w m) g off d.toArray) os=sortWorld (Value.int .i64) w g off m d.toArray os from rfl];unfold sortWorld grow;simp[Sort.ahead]
  have hg:∀ a:Addr,a.block<w.heap.size→(grow (putRow (Value.int .i64) (Sort.ahead w m) g off d.toArray) os).cell? a=(putRow (Value.int .i64) (Sort.ahead w m) g off d.toArray).cell? a:=fun a ha =>
   World.cell?_of_block (heap_grow_old _ _ (by rw[Sort.size_putRow];exact ha))
  have hgf:∀ a:Addr,a.block<w.heap.size→(grow (putRow (Value.int .i64) (Sort.ahead w m) g off d.toArray) os).frozen? a=(putRow (Value.int .i64) (Sort.ahead w m) g off d.toArray).frozen? a:=fun a ha =>
   World.frozen?_of_block (heap_grow_old _ _ (by rw[Sort.size_putRow];exact ha))
  have hfl:(d.flatMap Zbk).length=n*1:=by rw[Zb6 Zbk 1 Zbp,hd,hll]
  refine⟨.at g off ⟨h.own,Nat.lt_of_lt_of_le hlt hsz,by rw[hfl];exact Nat.mul_le_mul_right 1 h3,fun j u hj=>?_,fun j hj=>?_,fun j hj=>?_⟩ hfl h2 h3,?_,hH⟩
  ·rw[← Ze4,ivs,List.getElem?_map] at hj
   obtain⟨x,hx,rfl⟩:=Option.map_eq_some_iff.1 hj;have hjl:=(List.getElem?_eq_some_iff.1 hx).1;rw[(hH2 j (by simpa using hjl)).1,getElem!_pos d.toArray j (by simpa using hjl)];simp[(List.getElem?_eq_some_iff.1 hx).2]
  ·by_cases hj2:j<d.length
   ·rw[(hH2 j (by simpa using hj2)).1];rfl
   ·rw[hg _ hlt,Sort.cell?_putRow_other _ _ _ _ _ _ (.inr (.inr (by rw[List.size_toArray];show off+d.length≤off+j;omega)))]
    exact h.room j hj
  ·rw[hgf _ hlt,Sort.frozen?_putRow]
   exact h.warm j hj
  ·refine⟨rfl,rfl,rfl,hsz,fun i hi hne=>?_⟩
   have e1:(grow (putRow (Value.int .i64) (Sort.ahead w m) g off d.toArray) os).heap[i]?=(putRow (Value.int .i64) (Sort.ahead w m) g off d.toArray).heap[i]?:=heap_grow_old _ _ (by rw[Sort.size_putRow];exact hi);rw[e1];show (w.heap.modify g _)[i]?=_;rw[Array.getElem?_modify,if_neg (fun e=>hne e.symm)]
theorem Zxa (w:World) (B n cap g off:Nat) (l:List Int) (hn:n=l.length) (hO:OwnK w B 1 n cap (l.flatMap Zbk) (some ⟨g,off,none⟩)) (hbig:n≤1000000) :
  Calls Tryz.prog 169 #[.slice (some ⟨g,off,none⟩) n cap] w fun e w'=>e = .returned (.tuple #[])∧OwnK w' B 1 n cap ((l.mergeSort leI).flatMap Zbk) (some ⟨g,off,none⟩)∧Only w w' (· = g):=by
 have hlt:g<w.heap.size:=(hO.blk_lt rfl).2;have hH:=(OwnK.sortI (m:=0) (os:=#[]) hO (d:=l) rfl).2.2;rw[hn];refine (Tryz.slices_Sort_int g off cap l w hH hlt (by omega)).mono ?_;rintro e w' ⟨rfl,m,os,rfl⟩;obtain⟨h1,h2,-⟩:=OwnK.sortI (m:=m) (os:=os) hO (d:=l.mergeSort leI) (List.length_mergeSort ..);exact⟨rfl,by rw[← hn];exact h1,h2⟩
where flatMap_le1 {α:Type} (f:α→List Int) (h:∀ x,(f x).length≤1):∀ l:List α,(l.flatMap f).length≤l.length
 | []=>by simp
 | x::xs=>by
  rw[List.flatMap_cons,List.length_append,List.length_cons];have h1:=h x;have h2:=flatMap_le1 f h xs;omega
end
section
open Go.RowKit Go.Sort
theorem OwnK.two (w:World) (a b:Int) (T:TypeId):OwnK (w.alloc (.cells #[.int .i64 a,.int .i64 b] T)) w.heap.size 1 2 2 ([a,b].flatMap Zbk) (some ⟨w.heap.size,0,none⟩) :=
 have hA:Zae (w.alloc (.cells #[.int .i64 a,.int .i64 b] T)) w.heap.size T [.int .i64 a,.int .i64 b]:=heap_alloc_new w _
 .at w.heap.size 0 ⟨Nat.le_refl _,hA.lt,by simp[Zbk],fun j u h=>by rw[Nat.zero_add];exact hA.cell j u (by simpa [Zbk] using h),fun j h=>by
  rw[Nat.zero_add]
  have h2:j<2:=by omega
  rcases (show j=0∨j=1 by omega) with rfl | rfl
  ·rw[hA.cell 0 _ rfl];rfl
  ·rw[hA.cell 1 _ rfl];rfl,fun j h=>by rw[Nat.zero_add];exact hA.warm j⟩ (by simp[Zbk]) (by simp[maxLen]) (Nat.le_refl _)
theorem Zma (i:Nat) (h:i<11):i=0∨i=1∨i=2∨i=3∨i=4∨i=5∨i=6∨i=7∨i=8∨i=9∨i=10:=by omega
theorem Zt2 (i:Nat) (h:i<10):i=0∨i=1∨i=2∨i=3∨i=4∨i=5∨i=6∨i=7∨i=8∨i=9:=by omega
end
section
open Go.RowKit Go.Sort
theorem Zkq (i:Nat) (h:i<9):i=0∨i=1∨i=2∨i=3∨i=4∨i=5∨i=6∨i=7∨i=8:=by omega
end
section
open Go.RowKit Go.Sort Go.Maps
def Zel (ps:List Prd):List (List Nat):=Znt (ps.flatMap Zam)
theorem Z1f (ps:List Prd):Zlx (Zel ps):=Zmz _
theorem Zgg {α β:Type} (f:α→List β) (b:Nat):∀ l:List α,(∀ x∈l,(f x).length≤b)→(l.flatMap f).length≤b*l.length
 | [],_=>by simp
 | x::xs,h=>by
  rw[List.flatMap_cons,List.length_append,List.length_cons,Nat.mul_add];have h1:=h x (List.mem_cons_self ..);have h2:=Zgg f b xs (fun y hy=>h y (List.mem_cons_of_mem _ hy));omega
theorem Zmb {ps:List Prd} (h:∀ p∈ps,Zas p=true):(ps.flatMap Zam).length≤100*ps.length:=Zgg Zam 100 ps (fun p hp=>Zkn (h p hp))
theorem Zxb {ps:List Prd} (h:∀ p∈ps,Zas p=true):∀ s∈Zel ps,NmB s:=by
 intro s hs;obtain⟨-,k,hk,h2⟩:=(Zji _ _).1 hs;obtain⟨p,hp,hkp⟩:=List.mem_flatMap.1 hk;have:=(Zet (h p hp) k hkp).nmb;rcases h2 with rfl | rfl
 ·exact this.1
 ·exact this.2
theorem Z1g (ks:List Ky):(Znt ks).length≤2*ks.length:=by
 have h1:(Znt ks).length≤(ks.flatMap Zuy).length:=Zhj _ _ ((Zmz ks).imp (fun {a b} hab e=>by subst e;rw[Za3] at hab;cases hab)) (fun x hx=>by
  obtain⟨-,k,hk,h2⟩:=(Zji _ _).1 hx;refine List.mem_flatMap.2 ⟨k,hk,?_⟩;unfold Zuy
  rcases h2 with rfl | rfl<;>simp)
 have h2:=Zgg Zuy 2 ks (fun k _=>by unfold Zuy;simp);omega
theorem Z1h {ps:List Prd} (h:∀ p∈ps,Zas p=true):(Zel ps).length≤200*ps.length:=by
 have h1:=Z1g (ps.flatMap Zam);have h2:=Zmb h;unfold Zel;omega
theorem Zxc {f:Prd→Bool} {ks:List Prd} (h:∀ q∈ks,f q=false):Z2u f ks = -1:=by
 unfold Z2u;rw[List.findIdx?_eq_none_iff.2 h]
theorem Zt3 (B:Nat):PrF (fun W=>Tab W B) (fun _=>True) 206 #[] (fun p=>!Zas p) (fun p=>Zox p∧Zcx p≤1000000):=by
 refine⟨enters_of Tryz.func206 (by kernel_rfl) rfl,fun w w' hT hb=>Tab.keep hT (fun k hk=>hb.block k (Nat.lt_of_lt_of_le hk hT.size)) hb.size,fun q w vs hS h hT=>?_⟩;obtain⟨xa,xn,xc,rfl,-⟩:=h.form;have bx:=(Below.refl w.heap.size w).alloc (Nat.le_refl _) (.cells #[.int .i64 q.k,.string (Zac q.l),.string (Zac q.r),.int .i64 q.c,.slice xa xn xc] 54);have B1:=ħ bx;have X1:Hid (Zae (w.alloc (.cells #[.int .i64 q.k,.string (Zac q.l),.string (Zac q.r),.int .i64 q.c,.slice xa xn xc] 54)) w.heap.size 54 [.int .i64 q.k,.string (Zac q.l),.string (Zac q.r),.int .i64 q.c,.slice xa xn xc]):=ħ (heap_alloc_new w _);have HV:=ħ (fun W (hW:Below w.heap.size w W)=>Zkg q W (fun _=>True) [.int .i64 q.k,.string (Zac q.l),.string (Zac q.r),.int .i64 q.c,.slice xa xn xc] B hS.2 hS.1 (h.below hW) (Tab.keep hT (fun k hk=>hW.block k (Nat.lt_of_lt_of_le hk hT.size)) hW.size));obtain⟨vv,hvv⟩:∃ v,Zas q=v:=⟨_,rfl⟩;rw[hvv] at HV ⊢;clear hT hS h bx hvv;generalize q.k=q0 at *;generalize Zac q.l=q1 at *;generalize Zac q.r=q2 at *;generalize q.c=q3 at *
 go_enter Tryz.func206,Tryz.ntmps206
 go_upto_region 1 with (fail)
 generalize w.alloc (.cells #[.int .i64 q0,.string q1,.string q2,.int .i64 q3,.slice xa xn xc] 54)=w1 at *
 go_wp2_with (refine wpList_load_row rfl 54 (.tmp 1) rfl w.heap.size ?x1 54 #[.int .i64 q0,.string q1,.string q2,.int .i64 q3,.slice xa xn xc] (0,0) _ X1.o Tryz.underlying54 rfl (Za1 _ rfl) ?_;(case x1=>rfl))
 refine (HV.o w1 B1.o).mono ?_;rintro e w2 ⟨rfl,b2⟩;have B2:=ħ (B1.o.trans (b2.mono B1.o.size));clear b2
 go_wp2
 go_ret;exact⟨rfl,B2.o⟩
theorem Zxd (w:World) (P:Nat→Prop) (ks:List Prd) (ao:Option Addr) (n cap:Nat) (hn:n=ks.length) (hbig:n≤1000000) (hk:Zcl w P ks ao)
  (C:World→Prop) (g:Nat) (cb:Array Value) (f:Prd→Bool) (S:Prd→Prop) (hf:PrF C P g cb f S) (hS:∀ q∈ks,S q) (hC:C w) (hno:∀ q∈ks,f q=false) :
  Calls Tryz.prog 204 #[.slice ao n cap,.func (.func g) #[] cb] w fun e w'=>e = .returned (.slice ao n cap)∧Below w.heap.size w w':=by
 have HI:=ħ (Zr7 w P ks ao n cap hn hbig hk C g cb f S hf hS hC);rw[Zxc hno] at HI;clear hn hbig hk hf hS hC hno
 go_enter Tryz.func204,Tryz.ntmps204
 go_wp2_with fail
 refine HI.o.mono ?_;rintro e w1 ⟨rfl,b1⟩;have B1:=ħ b1;clear b1 HI
 go_wp2
 go_ret;exact⟨rfl,B1.o⟩
theorem Zxe (w:World) (P:Nat→Prop) (ps:List Prd) (po:Option Addr) (n cp:Nat) (B:Nat) (hT:Tab w B) (hps:Zcl w P ps po) (hn:n=ps.length) (hn0:0<n) (hbig:n≤1000) (hv:∀ p∈ps,Zas p=true) (hpb:∀ p∈ps,Zox p) (hpc:∀ p∈ps,Zcx p≤1000000) :
  Calls Tryz.prog 174 #[.slice po n cp] w fun e w'=>∃ (ro:Option Addr) (rc:Nat),e = .returned (.slice ro (Zel ps).length rc)∧OwnK w' w.heap.size 1 (Zel ps).length rc ((Zel ps).map Z4t) ro∧Below w.heap.size w w':=by
 rcases hps with h0 | ⟨g,off,rfl,hPg,hgl,hkc⟩
 ·subst h0;simp at hn;omega
 obtain⟨vss,hv1,hv2,hv3,hv4,hv5⟩:=Za6.cells ps g off hkc;have HCL:=ħ (Ztj w g off n cp vss.flatten hn0 (by omega) (by rw[hn];exact hv4) hv5 hgl hv3);have HK2:Hid (∀ W g' off',Below w.heap.size w W→g'<W.heap.size→Zau W g' off' vss.flatten→Zcl W (fun _=>True) ps (some ⟨g',off',none⟩)):=ħ (fun W g' off' hW hg' hr=>.inr ⟨g',off',rfl,trivial,hg',Za6.of ps vss g' off' hv1 (fun i p vs hp hvs=>((hv2 i p vs hp hvs).below hW).wide) hr⟩);have HT:=ħ (fun W (hW:Below w.heap.size w W)=>Tab.keep hT (fun k hk=>hW.block k (Nat.lt_of_lt_of_le hk hT.size)) hW.size);have HDL:=ħ (fun W g' off' cap' (hW:Below w.heap.size w W) (hr:Zcl W (fun _=>True) ps (some ⟨g',off',none⟩))=>Zxd W (fun _=>True) ps (some ⟨g',off',none⟩) n cap' hn (by omega) hr (fun W=>Tab W B) 206 #[] (fun p=>!Zas p) (fun p=>Zox p∧Zcx p≤1000000) (Zt3 B) (fun q hq=>⟨hpb q hq,hpc q hq⟩) (HT.o W hW) (fun q hq=>by simp[hv q hq]));have HAN:=ħ (fun W g' off' cap' (hr:Zcl W (fun _=>True) ps (some ⟨g',off',none⟩))=>Zo5 ps W (fun _=>True) (some ⟨g',off',none⟩) n cap' hn hr (fun q hq=>by have:=hv q hq;unfold Zas at this;rw[Bool.and_eq_true] at this;exact this.2) hpc (by have:=Zmb hv;omega) (by omega));rw[show Znt (ps.flatMap Zam)=Zel ps from rfl] at HAN;generalize Zel ps=NS at *;clear hT hn hn0 hbig hv hpb hpc hPg hgl hkc hv1 hv2 hv3 hv4 hv5;generalize vss.flatten=news at *
 go_enter Tryz.func174,Tryz.ntmps174
 go_wp2_with fail
 refine HCL.o.mono ?_;rintro e w1 ⟨g1,off1,c1,rfl,ho1,b1⟩;have B1:=ħ b1;have P1:=ħ (HK2.o w1 g1 off1 b1 ho1.reads.2.1 ho1.reads.1);clear HCL HK2 ho1 b1
 go_wp2_with fail
 refine (HDL.o w1 g1 off1 c1 B1.o P1.o).mono ?_;rintro e w2 ⟨rfl,b2⟩;have B2:=ħ (B1.o.trans (b2.mono B1.o.size));have P2:=ħ (P1.o.below b2);clear b2 HDL B1 P1
 go_wp2_with fail
 refine (HAN.o w2 g1 off1 c1 P2.o).mono ?_;rintro e w3 ⟨ro,rc,rfl,ho3,b3⟩;have O3:=ħ (ho3.lower B2.o.size);have B3:=ħ (B2.o.trans (b3.mono B2.o.size));clear ho3 b3 HAN
 go_wp2
 go_ret;exact⟨ro,rc,rfl,O3.o,B3.o⟩
end
end Go.Proofs.YtbcgocpihobjnaaGreatDoor
