import Derived.Test.YtbcgocpihobjnaaGreatDoorCC46
import Derived.Test.YtbcgocpihobjnaaGreatDoorCC41
import Derived.Test.YtbcgocpihobjnaaGreatDoorCC45
import Derived.Test.YtbcgocpihobjnaaGreatDoorCC39
set_option linter.all false
set_option maxHeartbeats 16000000
set_option maxRecDepth 100000
namespace Go.Proofs.YtbcgocpihobjnaaGreatDoor
section
open Go.RowKit Go.Sort Go.Maps
def usE(q f:Int):Use:=⟨q,0,f,-1⟩
def Z1m:List Wsh:=[⟨-1,2⟩]
theorem es1:Zfi (exC [usE 0 0])=[[0,1]]:=by kernel_rfl
theorem ec1:Zdm (exC [usE 0 0])=(2,0):=by kernel_rfl
theorem es2:Zfi (exC [usE 0 1])=[[0]]:=by kernel_rfl
theorem ec2:Zdm (exC [usE 0 1])=(1,0):=by kernel_rfl
theorem es3:Zfi (exC [usE 0 0,usE 1 0])=[[0,1],[0,2]]:=by kernel_rfl
theorem ec3:Zdm (exC [usE 0 0,usE 1 0])=(3,0):=by kernel_rfl
theorem es4:Zfi (exC [usE 0 0,usE 1 0,usE 1 0])=[[1],[0,2],[0,2]]:=by kernel_rfl
theorem ec4:Zdm (exC [usE 0 0,usE 1 0,usE 1 0])=(2,0):=by kernel_rfl
theorem ebl:Zhx (exC [usE 0 0,usE 1 0,usE 1 0]) 0 0 [0,1,2]=true:=by kernel_rfl
theorem xe1:Zxw (exC [usE 1 0]) [] (usE 0 1) Z1m=([],0):=by kernel_rfl
theorem xe2:Zxw (exC [usE 1 0,usE 1 0]) [] (usE 0 0) Z1m=([0,1],0):=by kernel_rfl
theorem eun:Zif (exC [usE 1 0]) [0,1]=3:=by kernel_rfl
theorem eud:Zcz (exC [usE 1 0]) [0,1]=true:=by kernel_rfl
theorem ekp:Zsk (exC [usE 1 0]) [] (usE 0 1) Z1m=false:=by kernel_rfl
theorem enm:Zsb (exC [usE 0 1,usE 1 0])=[0,2]:=by kernel_rfl
theorem etl:Z0o (exC [usE 1 0]) (usE 0 1)=[0]:=by kernel_rfl
theorem ecm:Zfj (exC [usE 1 0]) [0,1]=[0]:=by kernel_rfl
theorem eas:(Z2s (exC [usE 0 0,usE 1 0]) [-1,-1]).map (fun C=>(Zfn (Za1 (exC [usE 0 0,usE 1 0]) C),Zcl (exC [usE 0 0,usE 1 0]) 2 0 C []))=some (true,[0,2]):=by kernel_rfl
theorem Zx1{l:List Nat}(h:(l.all (fun y=>decide (y<256))&&decide (l.length<=9223372036854775807))=true):NmL l:=by
 simp only[đi,List.all_eq_true,decide_eq_true_eq] at h;exact h
theorem Z5e(us:List Use)(h:us.length<=1000000):CrwOk (exC us):=by
 have n0:NmL []:=Zx1 rfl;have na:NmL [120,46,97]:=Zx1 rfl;have nb:NmL [120,46,98]:=Zx1 rfl;refine⟨?_,?_,by simp[exC],by simp[exC],h⟩
 ·intro p hp
  simp only[exC,List.mem_cons,List.not_mem_nil,or_false] at hp;rcases hp with rfl | rfl
  ·exact⟨⟨n0,na,trivial⟩,by decide⟩
  ·exact⟨⟨n0,n0,⟨nb,n0,trivial⟩,⟨n0,nb,trivial⟩,trivial⟩,by decide⟩
 ·intro m hm
  simp only[exC,List.mem_cons,List.not_mem_nil,or_false] at hm
  have hx:∀ a b r,Z2d (Zxy a b r):=by
   intro a b r;refine⟨?_,by simp[Zxy],by simp[Zxy]⟩;intro x hx;simp only[Zxy,List.mem_cons,List.not_mem_nil,or_false] at hx;rcases hx with rfl | rfl
   ·exact na
   ·exact nb
  rcases hm with rfl | rfl | rfl
  ·exact hx _ _ _
  ·exact hx _ _ _
  ·exact hx _ _ _
theorem Zj6{W:World}{B:Nat}{us:List Use}{cs:List Value}(h:Zhs W (exC us) cs)(hT:Tab W B)(hn:us.length<=999):ArgC W (exC us) cs B:=⟨h,hT,Z5e us (by omega),hn⟩
theorem Zhc(w:World)(B:Nat)(hG:Tab w B)(us:List Use)(uo:Option Addr)(uc:Nat)(t:List (List Int))(ta:Option Addr)(tc n:Nat)(hu:Zan Zcg w uo us)(hcap:us.length<=uc)(hn:us.length<=999)(ht:Zhw w t ta)(hs:Zfi (exC us)=t)(hc:Zdm (exC us)=(n,0))(hrl:t.length<=1000000/\∀ r∈t,r.length<=1000000) :
  Calls Tryz.prog 68 #[.slice uo us.length uc,.slice ta t.length tc,.int .i64 (n:Nat)] w fun e w'=>e = .returned (.bool true)/\Below w.heap.size w w':=by
 have HEX:=ħ (Zdc w us uo uc hu hcap);have HTW:=ħ (fun W (hW:Below w.heap.size w W)=>ht.below hW);have HCN:=ħ (fun W (hW:Below w.heap.size w W) cs (hcs:Zhs W (exC us) cs)=>Zsf W (exC us) cs B (Zj6 hcs (Zbw.step (w:=w) hG hW) hn));have HST:=ħ (fun W (hW:Below w.heap.size w W) cs (hcs:Zhs W (exC us) cs)=>Zsa W (exC us) cs B (Zj6 hcs (Zbw.step (w:=w) hG hW) hn));have HSA:=ħ (fun W (hW:Below w.heap.size w W) so sc (hsr:Zhw W t so)=>Zxx W t t so ta sc tc hsr (ht.below hW) hrl.1 hrl.2);rw[hc] at HCN;unfold Z0h at HST;rw[hs] at HST;clear hu ht hs hc hrl hG;generalize us.length=nu at *;generalize t.length=nt at *
 go_enter Tryz.func68,Tryz.ntmps68
 go_upto_region 1 with(fail)
 go_wp2_with fail
 refine HEX.o.mono ?_;rintro e w1 ⟨⟨cs,rfl,hcs⟩,b1⟩
 have HFM:Hid (∃ qo qn qc mo mn mc xo xn xc,cs=[.slice qo qn qc,.slice mo mn mc,.slice xo xn xc]):=by
  obtain⟨qo,qc,mo,mc,uo,uc,h1,-⟩:=hcs;exact ħ ⟨_,_,_,_,_,_,_,_,_,h1⟩
 have X1:Hid (Zae (w1.alloc (.cells #[.slice none 0 0,.slice none 0 0,.slice none 0 0] 26)) w1.heap.size 26 [.slice none 0 0,.slice none 0 0,.slice none 0 0]):=ħ (heap_alloc_new w1 _);have bx:=(đc w1.heap.size w1).alloc (đd _) (.cells #[.slice none 0 0,.slice none 0 0,.slice none 0 0] 26);have HC1:=ħ hcs;have BX:=ħ bx;have B1:=ħ b1;clear hcs bx b1 HEX;obtain⟨qo,qn,qc,mo,mn,mc,xo,xn,xc,rfl⟩:=HFM.o;clear HFM
 go_upto_region 2 with(refine Zaq rfl 26 (.tmp 7) (.tmp 11) rfl w1.heap.size #[.slice qo qn qc,.slice mo mn mc,.slice xo xn xc] (by rfl) (by rfl) 26 _ X1.o (Zbf _ _ _) rfl (by simp[Value.oneCell']) ?_;intro w9 s9 u9;have S9:=ħ s9;have U9:=ħ u9;clear s9 u9)
 have B19:=U9.o.below BX.o (đd _);have HC9:=ħ (HC1.o.below B19);have B9:=ħ (B1.o.trans (B19.mono B1.o.size));have S9:Hid (Zae w9 w1.heap.size 26 [.slice qo qn qc,.slice mo mn mc,.slice xo xn xc]):=ħ S9.o;have HK:=ħ (HCN.o w9 B9.o _ HC9.o);clear B19 U9 HC1 BX B1 X1 HCN
 go_wp2_with (refine wpList_load_row rfl 26 (.tmp 7) rfl w1.heap.size ?x1 26 #[.slice qo qn qc,.slice mo mn mc,.slice xo xn xc] (0,0) _ S9.o Tryz.underlying26 rfl (Zbf _ _ _) ?_;(case x1=>rfl))
 refine HK.o.mono ?_;rintro e w2 ⟨rfl,b2⟩;have B2:=ħ (B9.o.trans (b2.mono B9.o.size));have S2:=ħ (S9.o.step b2);have HC2:=ħ (HC9.o.below b2);clear b2 S9 HC9 B9 HK;have HK:=ħ (HST.o w2 B2.o _ HC2.o);clear HST
 go_upto_region 3 with(fail)
 go_wp2_with (refine wpList_load_row rfl 26 (.tmp 7) rfl w1.heap.size ?x1 26 #[.slice qo qn qc,.slice mo mn mc,.slice xo xn xc] (0,0) _ S2.o Tryz.underlying26 rfl (Zbf _ _ _) ?_;(case x1=>rfl))
 refine HK.o.mono ?_;rintro e w3 ⟨⟨so,sc,rfl,hrs⟩,b3⟩;have B3:=ħ (B2.o.trans (b3.mono B2.o.size));have HK2:=ħ (HSA.o w3 B3.o so sc hrs);clear b3 B2 S2 HC2 HK HSA hrs
 go_wp2_with fail
 refine HK2.o.mono ?_;rintro e w4 ⟨rfl,b4⟩;have B4:=ħ (B3.o.trans (b4.mono B3.o.size));clear b4 B3 HK2;rw[decide_eq_true trivial]
 go_wp2_with fail
 go_ret;exact⟨by simp,B4.o⟩
end
section
open Go.RowKit Go.Sort Go.Maps
theorem Zdq {P:Program} {ops:Array Oper} {rest:List Oper} {o:Oper} {a:Act} {w:World} {Q:Exit->Act->World->Prop} (hw:Region.wanted o (yielded ops a.tmps)=true) (ty:TypeId) (x:Operand) (ho:o.op = .load ty x)
  (g:Nat) (hx:a.eval x = .pointer (some ⟨g,0,none⟩)) (t:TypeId) (cs:Array Value) (fr:Nat×Nat) (d:TypeDesc) (hg:w.heap[g]?=some (.cells cs t fr))
  (hu:P.underlying ty=some d) (hd:(match d with | .struct _ | .array _ _=>true | _=>false)=true) (hi:(P.info? ty).map (·.size)=some cs.size)
  (h:wpList P ops Q rest (a.put o.dst (.agg cs)) w):wpList P ops Q (o::rest) a w :=
 wpList_step fun _ hK=>by rw[if_pos hw];exact wp_load_row ty x ho g hx t cs fr d hg hu hd hi (hK _ _ h)
def Z2v(W:World)(g:Nat)(c:Crw)(cs:List Value):Prop:=Zae W g 26 cs/\Zhs W c cs
theorem Z2v.below{W W':World}{g:Nat}{c:Crw}{cs:List Value}(h:Z2v W g c cs)(hb:Below W.heap.size W W'):Z2v W' g c cs:=⟨h.1.step hb,h.2.below hb⟩
theorem Zhs.inf{W:World}{c:Crw}{cs:List Value}(h:Zhs W c cs):(Tryz.prog.info? 26).map (·.size)=some cs.toArray.size:=by
 obtain⟨qo,qc,mo,mc,uo,uc,rfl,-⟩:=h;exact Zbf _ _ _
theorem Zhs.one{W:World}{c:Crw}{cs:List Value}(h:Zhs W c cs):cs.toArray.all (·.oneCell')=true:=by
 obtain⟨qo,qc,mo,mc,uo,uc,rfl,-⟩:=h;simp[Value.oneCell']
theorem Zhs.three{W:World}{c:Crw}{cs:List Value}(h:Zhs W c cs):3=cs.toArray.size:=by
 obtain⟨qo,qc,mo,mc,uo,uc,rfl,-⟩:=h;rfl
theorem Znj{W:World}{g:Nat}{T:TypeId}{rows:List (List Int)}{vs:List Value}(h:Zae W g T vs)(hr:∀ (i:Nat) (row:List Int),rows[i]?=some row->∃ bo bc,vs[i]?=some (Value.slice bo row.length bc)/\Zan Zbg W bo row):Zhw W rows (some ⟨g,0,none⟩):=by
 refine .inr ⟨g,0,rfl,h.lt,fun i row hi=>?_⟩;obtain⟨bo,bc,h1,h2⟩:=hr i row hi;exact⟨bo,bc,by rw[Nat.zero_add];exact h.cell i _ h1,h2⟩
theorem Zbd{α:Type}{f:α->List Value}{W:World}{g:Nat}{T:TypeId}{vs:List Value}(l:List α)(h:Zae W g T vs)(he:l.flatMap f=vs):Zan f W (some ⟨g,0,none⟩) l:=.inr ⟨g,0,rfl,h.lt,by rw[he];exact h.readsR⟩
theorem Zfd(w:World)(a:List Int)(ao bo:Option Addr)(ac bc:Nat)(ha:Zan Zbg w ao a)(hb:Zan Zbg w bo a)(hl:a.length<=1000000) :
  Calls Tryz.prog 25 #[.slice ao a.length ac,.slice bo a.length bc] w fun e w'=>e = .returned (.bool true)/\Below w.heap.size w w' :=
 (Zpf w a a ao bo ac bc ha hb hl).mono (fun e w' h=>⟨by rw[h.1,decide_eq_true (show a=a from rfl)],h.2⟩)
theorem Zj7(w:World)(t0:TypeId)(v0:List Value):Zae (w.alloc (.cells v0.toArray t0)) w.heap.size t0 v0/\Below w.heap.size w (w.alloc (.cells v0.toArray t0)):=by
 refine⟨Zae.new w t0 v0,(đc _ _).alloc (đd _) _⟩
theorem Z3q(w:World)(t0 t1 t2:TypeId)(v0 v1 v2:List Value):Zae (((w.alloc (.cells v0.toArray t0)).alloc (.cells v1.toArray t1)).alloc (.cells v2.toArray t2)) w.heap.size t0 v0/\Zae (((w.alloc (.cells v0.toArray t0)).alloc (.cells v1.toArray t1)).alloc (.cells v2.toArray t2)) (w.heap.size+1) t1 v1/\Zae (((w.alloc (.cells v0.toArray t0)).alloc (.cells v1.toArray t1)).alloc (.cells v2.toArray t2)) (w.heap.size+2) t2 v2/\Below w.heap.size w (((w.alloc (.cells v0.toArray t0)).alloc (.cells v1.toArray t1)).alloc (.cells v2.toArray t2)):=by
 refine⟨((Zae.new w t0 v0).step ((đc _ _).alloc (đd _) _)).step ((đc _ _).alloc (đd _) _),((Zae.newAt _ _ _ _ (by simp only[đl]):Zae ((w.alloc (.cells v0.toArray t0)).alloc (.cells v1.toArray t1)) (w.heap.size+1) t1 v1)).step ((đc _ _).alloc (đd _) _),(Zae.newAt _ _ _ _ (by simp only[đl]):Zae (((w.alloc (.cells v0.toArray t0)).alloc (.cells v1.toArray t1)).alloc (.cells v2.toArray t2)) (w.heap.size+2) t2 v2),(((đc _ _).alloc (đd _) _).alloc (by simp only[đl];omega) _).alloc (by simp only[đl];omega) _⟩
theorem Z4p(w:World)(t0 t1 t2 t3:TypeId)(v0 v1 v2 v3:List Value):Zae ((((w.alloc (.cells v0.toArray t0)).alloc (.cells v1.toArray t1)).alloc (.cells v2.toArray t2)).alloc (.cells v3.toArray t3)) w.heap.size t0 v0/\Zae ((((w.alloc (.cells v0.toArray t0)).alloc (.cells v1.toArray t1)).alloc (.cells v2.toArray t2)).alloc (.cells v3.toArray t3)) (w.heap.size+1) t1 v1/\Zae ((((w.alloc (.cells v0.toArray t0)).alloc (.cells v1.toArray t1)).alloc (.cells v2.toArray t2)).alloc (.cells v3.toArray t3)) (w.heap.size+2) t2 v2/\Zae ((((w.alloc (.cells v0.toArray t0)).alloc (.cells v1.toArray t1)).alloc (.cells v2.toArray t2)).alloc (.cells v3.toArray t3)) (w.heap.size+3) t3 v3/\Below w.heap.size w ((((w.alloc (.cells v0.toArray t0)).alloc (.cells v1.toArray t1)).alloc (.cells v2.toArray t2)).alloc (.cells v3.toArray t3)):=by
 refine⟨(((Zae.new w t0 v0).step ((đc _ _).alloc (đd _) _)).step ((đc _ _).alloc (đd _) _)).step ((đc _ _).alloc (đd _) _),(((Zae.newAt _ _ _ _ (by simp only[đl]):Zae ((w.alloc (.cells v0.toArray t0)).alloc (.cells v1.toArray t1)) (w.heap.size+1) t1 v1)).step ((đc _ _).alloc (đd _) _)).step ((đc _ _).alloc (đd _) _),((Zae.newAt _ _ _ _ (by simp only[đl]):Zae (((w.alloc (.cells v0.toArray t0)).alloc (.cells v1.toArray t1)).alloc (.cells v2.toArray t2)) (w.heap.size+2) t2 v2)).step ((đc _ _).alloc (đd _) _),(Zae.newAt _ _ _ _ (by simp only[đl]):Zae ((((w.alloc (.cells v0.toArray t0)).alloc (.cells v1.toArray t1)).alloc (.cells v2.toArray t2)).alloc (.cells v3.toArray t3)) (w.heap.size+3) t3 v3),((((đc _ _).alloc (đd _) _).alloc (by simp only[đl];omega) _).alloc (by simp only[đl];omega) _).alloc (by simp only[đl];omega) _⟩
theorem Z4q(w:World)(t0 t1 t2 t3 t4:TypeId)(v0 v1 v2 v3 v4:List Value):Zae (((((w.alloc (.cells v0.toArray t0)).alloc (.cells v1.toArray t1)).alloc (.cells v2.toArray t2)).alloc (.cells v3.toArray t3)).alloc (.cells v4.toArray t4)) w.heap.size t0 v0/\Zae (((((w.alloc (.cells v0.toArray t0)).alloc (.cells v1.toArray t1)).alloc (.cells v2.toArray t2)).alloc (.cells v3.toArray t3)).alloc (.cells v4.toArray t4)) (w.heap.size+1) t1 v1/\Zae (((((w.alloc (.cells v0.toArray t0)).alloc (.cells v1.toArray t1)).alloc (.cells v2.toArray t2)).alloc (.cells v3.toArray t3)).alloc (.cells v4.toArray t4)) (w.heap.size+2) t2 v2/\Zae (((((w.alloc (.cells v0.toArray t0)).alloc (.cells v1.toArray t1)).alloc (.cells v2.toArray t2)).alloc (.cells v3.toArray t3)).alloc (.cells v4.toArray t4)) (w.heap.size+3) t3 v3/\Zae (((((w.alloc (.cells v0.toArray t0)).alloc (.cells v1.toArray t1)).alloc (.cells v2.toArray t2)).alloc (.cells v3.toArray t3)).alloc (.cells v4.toArray t4)) (w.heap.size+4) t4 v4/\Below w.heap.size w (((((w.alloc (.cells v0.toArray t0)).alloc (.cells v1.toArray t1)).alloc (.cells v2.toArray t2)).alloc (.cells v3.toArray t3)).alloc (.cells v4.toArray t4)):=by
 refine⟨((((Zae.new w t0 v0).step ((đc _ _).alloc (đd _) _)).step ((đc _ _).alloc (đd _) _)).step ((đc _ _).alloc (đd _) _)).step ((đc _ _).alloc (đd _) _),((((Zae.newAt _ _ _ _ (by simp only[đl]):Zae ((w.alloc (.cells v0.toArray t0)).alloc (.cells v1.toArray t1)) (w.heap.size+1) t1 v1)).step ((đc _ _).alloc (đd _) _)).step ((đc _ _).alloc (đd _) _)).step ((đc _ _).alloc (đd _) _),(((Zae.newAt _ _ _ _ (by simp only[đl]):Zae (((w.alloc (.cells v0.toArray t0)).alloc (.cells v1.toArray t1)).alloc (.cells v2.toArray t2)) (w.heap.size+2) t2 v2)).step ((đc _ _).alloc (đd _) _)).step ((đc _ _).alloc (đd _) _),((Zae.newAt _ _ _ _ (by simp only[đl]):Zae ((((w.alloc (.cells v0.toArray t0)).alloc (.cells v1.toArray t1)).alloc (.cells v2.toArray t2)).alloc (.cells v3.toArray t3)) (w.heap.size+3) t3 v3)).step ((đc _ _).alloc (đd _) _),(Zae.newAt _ _ _ _ (by simp only[đl]):Zae (((((w.alloc (.cells v0.toArray t0)).alloc (.cells v1.toArray t1)).alloc (.cells v2.toArray t2)).alloc (.cells v3.toArray t3)).alloc (.cells v4.toArray t4)) (w.heap.size+4) t4 v4),(((((đc _ _).alloc (đd _) _).alloc (by simp only[đl];omega) _).alloc (by simp only[đl];omega) _).alloc (by simp only[đl];omega) _).alloc (by simp only[đl];omega) _⟩
end
end Go.Proofs.YtbcgocpihobjnaaGreatDoor
