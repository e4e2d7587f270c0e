import Derived.Test.YtmkdfbelbcocpaaGreatDoorCU35
import Derived.Test.YtmkdfbelbcocpaaGreatDoorCU25
import Derived.Test.YtmkdfbelbcocpaaGreatDoorCU23
import Derived.Test.YtmkdfbelbcocpaaGreatDoorCU20
import Derived.Test.YtmkdfbelbcocpaaGreatDoorCU22
import Derived.Test.YtmkdfbelbcocpaaGreatDoorCU10
set_option linter.unusedVariables false
set_option linter.unusedSimpArgs false
set_option maxHeartbeats 16000000
set_option maxRecDepth 100000
namespace Go.Proofs.YtmkdfbelbcocpaaGreatDoor
section
open Go.RowKit Go.Sort
def threeL:List (List Nat):=[[120,46,97],[120,46,98],[121,46,97]]
def someL (n:Nat):List (List Nat):=threeL.take n
theorem someL_len {n:Nat} (h:n≤3):(someL n).length=n:=by unfold someL;rw[List.length_take];exact Nat.min_eq_left h
theorem somen_any (n:Nat) (hn:n≤3) (w:World) :
  Calls Tryz.prog 55 #[.int .i64 n] w fun e w'=>∃ ao,e = .returned (.slice ao n 3)∧StrsR w' ao (someL n)∧Below w.heap.size w w':=by
 have bx:=(Below.refl w.heap.size w).alloc (Nat.le_refl _) (.cells #[.string ⟨#[120,46,97]⟩,.string ⟨#[120,46,98]⟩,.string ⟨#[121,46,97]⟩] 9)
 have X1:Hid (HasV (w.alloc (.cells #[.string ⟨#[120,46,97]⟩,.string ⟨#[120,46,98]⟩,.string ⟨#[121,46,97]⟩] 9)) w.heap.size 9 [.string ⟨#[120,46,97]⟩,.string ⟨#[120,46,98]⟩,.string ⟨#[121,46,97]⟩]):=ħ (heap_alloc_new w _)
 have B1:=ħ bx
 clear bx
 have i0:(0:Int)≤n:=by omega
 have i3:(n:Int)≤3:=by omega
 go_enter Tryz.func55,Tryz.ntmps55
 go_wp2
 go_ret
 refine⟨_,rfl,.inr ⟨_,0,rfl,X1.o.lt,fun j u hj=>?_⟩,B1.o⟩
 have h3:(threeL.map strV)[j]?=some u:=by
  unfold someL at hj
  rw[List.map_take,List.getElem?_take] at hj
  by_cases h:j<n
  ·rwa [if_pos h] at hj
  ·rw[if_neg h] at hj;cases hj
 exact X1.o.readsR j u h3
theorem alln_any (n m:Nat) (hn:n≤3) (hm:m≤6) (w:World) :
  Calls Tryz.prog 57 #[.int .i64 n,.int .i64 m] w fun e w'=>e = .returned (.int .i64 (((m+1)^n:Nat):Int))∧w=w':=by
 have HP:Hid (∀ i,i≤n→(m+1)^i≤343):=ħ (fun i hi=>by
  have h1:(m+1)^i≤7^i:=Nat.pow_le_pow_left (by omega) i
  have h2:7^i≤7^3:=Nat.pow_le_pow_right (by omega) (by omega)
  omega)
 have e1:IntKind.i64.wrap ((m:Int)+1)=((m+1:Nat):Int):=IntWalk.i64_in _ (by omega)
 go_enter Tryz.func57,Tryz.ntmps57
 go_wp2_with fail
 go_loop [5,6] (fun o c=>∃ i:Nat,c = .int .i64 i∧i≤n∧o = .int .i64 (((m+1)^i:Nat):Int)) (fun o c=>(n-intOf c).toNat)
 case atStart=>exact⟨0,rfl,by omega,rfl⟩
 case round =>
  obtain⟨i,rfl,hi,rfl⟩:=hrel
  have e2:IntKind.i64.wrap ((i:Int)+1)=((i+1:Nat):Int):=IntWalk.i64_in _ (by omega)
  by_cases hlt:i<n
  ·have ii:(i:Int)<n:=by omega
   obtain⟨q,hq⟩:∃ q,(m+1)^i=q:=⟨_,rfl⟩
   obtain⟨r,hr⟩:∃ r,(m+1)^(i+1)=r:=⟨_,rfl⟩
   have HR:=ħ hr
   have hb:=HP.o (i+1) hlt
   rw[Nat.pow_succ] at hr
   rw[hq] at hr
   have e3:IntKind.i64.wrap ((q:Int)*((m:Int)+1))=(r:Int):=(by
    rw[show (q:Int)*((m:Int)+1)=((q*(m+1):Nat):Int) by simp,hr]
    exact IntWalk.i64_in _ (by rw[HR.o] at hb;omega))
   rw[hq]
   clear hq hr hb
   go_wp2
   go_round
   case rel=>exact⟨i+1,by go_num,by omega,by rw[HR.o]⟩
   case measure=>simp only[intOf];omega
  ·have ii:¬ ((i:Int)<n):=by omega
   obtain rfl:i=n:=by omega
   go_wp2
   go_ret
   exact⟨rfl,rfl⟩
end
section
open Go.RowKit Go.Sort
def asgB (n most k:Nat):List Bnd:=bndsU (someL n) (asgK n most k) n
theorem bndsU_at {ns:List (List Nat)} {v:List Int} {j i:Nat} (h:i<j):(bndsU ns v j)[i]?=some ⟨ns.getD i [],gv v (i+1)⟩:=by
 unfold bndsU
 rw[List.getElem?_map,List.getElem?_range h];rfl
theorem bndsU_set (ns:List (List Nat)) (vs:List Int) (j i:Nat) (x:Int) (h:i<vs.length):bndsU ns (0::vs.set i x) j=(bndsU ns (0::vs) j).set i ⟨ns.getD i [],x⟩:=by
 apply List.ext_getElem?
 intro t
 by_cases ht:t<j
 ·rw[bndsU_at ht,List.getElem?_set]
  by_cases e:i=t
  ·subst e
   rw[if_pos rfl,if_pos (by rw[bndsU_len];exact ht)]
   rw[show (0::vs.set i x)=(0::vs).set (i+1) x from rfl,gv_set _ _ _ _ (by simp;omega),if_pos rfl]
  ·rw[if_neg e,bndsU_at ht]
   rw[show (0::vs.set i x)=(0::vs).set (i+1) x from rfl,gv_set _ _ _ _ (by simp;omega),if_neg (by omega)]
 ·rw[List.getElem?_eq_none (by rw[bndsU_len];omega),List.getElem?_eq_none (by rw[List.length_set,bndsU_len];omega)]
theorem dig_step {b i k k0 n:Nat} {vs:List Int} (hv:vs.length=n) (hi:i<n) (h:digU b n k0=digU b (i+1) k++vs.drop (i+1)):digU b n k0=digU b i (k/b)++(vs.set i ((k%b:Nat):Int)).drop i:=by
 rw[h]
 have:(vs.set i ((k%b:Nat):Int)).drop i=((k%b:Nat):Int)::vs.drop (i+1):=by
  rw[List.drop_eq_getElem_cons (by rw[List.length_set];omega),List.getElem_set_self,List.drop_set_of_lt (by omega)]
 rw[this,digU,List.append_assoc];rfl
theorem OwnK.setAt {w:World} {B k n cap g off:Nat} {xs:List Value} (h:OwnK w B k n cap xs (some ⟨g,off,none⟩)) (i:Nat) (hi:i<xs.length) (v:Value) :
  OwnK (w.setCell ⟨g,off+i,none⟩ v) B k n cap (xs.set i v) (some ⟨g,off,none⟩):=by
 cases h with
 | «at» g off h h1 h2 h3 =>
  have hth:=h.cells i xs[i] (List.getElem?_eq_getElem hi)
  have hsame:=World.cell?_setCell_same w ⟨g,off+i,none⟩ v hth
  have hoth:∀ j,i≠j→(w.setCell ⟨g,off+i,none⟩ v).cell? ⟨g,off+j,none⟩=w.cell? ⟨g,off+j,none⟩:=fun j hj=>World.cell?_setCell_other w _ _ v (fun e=>hj (by have:=congrArg Addr.off e;simp at this;exact this))
  refine .at g off ⟨h.own,by rw[World.size_setCell];exact h.lt,by rw[List.length_set];exact h.le,fun j u hj=>?_,fun j hj=>?_,fun j hj=>?_⟩ (by rw[List.length_set];exact h1) h2 h3
  ·rw[List.getElem?_set] at hj
   by_cases e:i=j
   ·subst e
    rw[if_pos rfl,if_pos hi] at hj
    cases hj
    exact hsame
   ·rw[if_neg e] at hj
    rw[hoth j e];exact h.cells j u hj
  ·by_cases e:i=j
   ·subst e;rw[hsame];rfl
   ·rw[hoth j e];exact h.room j hj
  ·show (w.setCells g (off+i) [v]).frozen? _=_
   rw[World.frozen?_setCells];exact h.warm j hj
theorem flat_set1 (l:List Bnd) (i:Nat) (b:Bnd) (hb:l[i]?=some b) (x:Int):(l.flatMap bndC).set (i*2+1) (.int .i64 x)=(l.set i ⟨b.n,x⟩).flatMap bndC:=by
 have hi:=(List.getElem?_eq_some_iff.1 hb).1
 apply List.ext_getElem?
 intro j
 rw[flat_set bndC 2 bndC_len l i hi,List.getElem?_set]
 by_cases e:i*2+1=j
 ·subst e
  rw[if_pos rfl,if_pos (by rw[flatK_len bndC 2 bndC_len];omega),if_pos (by omega),show i*2+1-i*2=1 by omega];rfl
 ·rw[if_neg e]
  by_cases e2:i*2≤j∧j<i*2+2
  ·obtain rfl:j=i*2:=by omega
   rw[if_pos e2,Nat.sub_self]
   have:=flatK_at bndC 2 bndC_len l i 0 b hb (by omega)
   rw[Nat.add_zero] at this
   rw[this];rfl
  ·rw[if_neg e2]
theorem assign_any (k n m:Nat) (hn:n≤3) (hm:m≤6) (hk:k≤1000000) (w:World) :
  Calls Tryz.prog 58 #[.int .i64 k,.int .i64 n,.int .i64 m] w fun e w'=>(∃ ro rc,e = .returned (.slice ro n rc)∧OwnK w' w.heap.size 2 n rc ((asgB n m k).flatMap bndC) ro)∧Below w.heap.size w w':=by
 have HS:=ħ (fun W=>somen_any n hn W)
 have HL:=ħ (someL_len hn)
 have bx:=(Below.refl w.heap.size w).alloc (Nat.le_refl _) (.cells #[] 87)
 have B0:=ħ bx
 have O0:Hid (OwnK (w.alloc (.cells #[] 87)) w.heap.size 2 0 0 ((bndsU (someL n) (0::List.replicate n 0) 0).flatMap bndC) (some ⟨w.heap.size,0,none⟩)):=ħ (by have:=OwnK.made w 87 2;simpa [bndsU] using this)
 clear bx
 have e1:IntKind.i64.wrap ((m:Int)+1)=(m:Int)+1:=IntWalk.i64_in _ (by omega)
 go_enter Tryz.func58,Tryz.ntmps58
 go_wp2_with fail
 go_loopw [7,8] (fun o c wr=>∃ (i:Nat) (ro:Option Addr) (rc:Nat),c = .int .i64 i∧i≤n∧o = .slice ro i rc∧Hid (OwnK wr w.heap.size 2 i rc ((bndsU (someL n) (0::List.replicate n 0) i).flatMap bndC) ro)∧Hid (Below w.heap.size w wr)) (fun o c _=>(n-intOf c).toNat)
 case atStart=>exact⟨0,_,0,rfl,by omega,rfl,O0,B0⟩
 case round =>
  clear O0 B0
  obtain⟨i,ro,rc,rfl,hi,rfl,ho,hw⟩:=hrel
  have e2:IntKind.i64.wrap ((i:Int)+1)=((i+1:Nat):Int):=IntWalk.i64_in _ (by omega)
  by_cases hlt:i<n
  ·have ii:(i:Int)<n:=by omega
   obtain⟨s,hs⟩:∃ s,(someL n)[i]?=some s:=⟨_,List.getElem?_eq_getElem (by rw[HL.o];exact hlt)⟩
   have HTK:Hid ((bndsU (someL n) (0::List.replicate n 0) i).flatMap bndC++[.string (strN s),.int .i64 0]=(bndsU (someL n) (0::List.replicate n 0) (i+1)).flatMap bndC):=ħ (by
    rw[bndsU_step hs,← flat_snoc]
    have:gv (0::List.replicate n 0) (i+1)=0:=gv_rep (n+1) (i+1)
    rw[this];rfl)
   go_wp2_with fail
   refine (HS.o wr).mono ?_
   rintro e w2 ⟨sa,rfl,hsr,b2⟩
   have HW2:=ħ (hw.o.trans (b2.mono hw.o.size))
   have HO2:=ħ (ho.o.below b2)
   obtain⟨g,off,hao,hg,hc⟩:=hsr.at i s hs
   subst hao
   clear b2 hsr hs ho hw
   generalize strN s=y at *
   go_wp2_with (at_builtin;refine app_k 49 87 bndZ 2 24 Tryz.underlying49 info_bnd rfl (by omega) (by omega) w2 w.heap.size rfl (.tmp 16) (.tmp 23) rfl ro rc i ((bndsU (someL n) (0::List.replicate n 0) i).flatMap bndC) ?q1 HO2.o HW2.o.size 1 1 #[.string y,.int .i64 0] 87 ?q2 rfl (by omega) ?q3 ?q4 ?_;(case q1=>rfl);(case q2=>rfl);(case q3=>simp[Value.oneCell']);(case q4=>omega);intro g5 off5 c5 wa o8 gr8 b8 or8;have O8:=ħ o8;have B8:=ħ b8;clear o8 gr8 b8 or8)
   have B4:=ħ (HW2.o.trans B8.o)
   clear HO2 HW2 hg hc B8
   go_roundw
   case rel=>exact⟨i+1,some ⟨g5,off5,none⟩,c5,by go_num,by omega,rfl,ħ (by rw[← HTK.o];exact O8.o),B4⟩
   case measure=>simp only[intOf];omega
  ·obtain rfl:i=n:=by omega
   have ii:¬ ((i:Int)<(i:Int)):=by omega
   have HDG:Hid (∃ vs:List Int,vs.length=i∧bndsU (someL i) (0::List.replicate i 0) i=bndsU (someL i) (0::vs) i∧digU (m+1) i k=digU (m+1) i k++vs.drop i):=ħ ⟨List.replicate i 0,by simp,rfl,by simp⟩
   obtain⟨vs,hvl,hvb,hvd⟩:=HDG.o
   rw[hvb] at ho
   have HO0:=ħ ho.o
   have HW0:=ħ hw.o
   have HVL:=ħ hvl
   have HVD:=ħ hvd
   have e3:IntKind.i64.wrap ((i:Int)-1)=(i:Int)-1:=IntWalk.i64_in _ (by omega)
   clear HDG hvb hvl hvd ho hw
   go_wp2_with fail
   go_loopw [0,9] (fun kc c wq=>∃ (q t:Nat) (vs:List Int),c = .int .i64 ((t:Int)-1)∧t≤i∧kc = .int .i64 q∧q≤1000000∧Hid (vs.length=i)∧Hid (digU (m+1) i k=digU (m+1) t q++vs.drop t)∧Hid (OwnK wq w.heap.size 2 i rc ((bndsU (someL i) (0::vs) i).flatMap bndC) ro)∧Hid (Below w.heap.size w wq)) (fun kc c _=>(intOf c+1).toNat)
   case atStart=>exact⟨k,i,vs,rfl,Nat.le_refl _,rfl,by omega,HVL,HVD,HO0,HW0⟩
   case round =>
    clear HO0 HW0 HVL HVD vs
    obtain⟨q,t,vs,rfl,ht,rfl,hq,hvl,hvd,ho,hw⟩:=hrel
    by_cases ht0:0<t
    ·obtain⟨t',rfl⟩:∃ t',t=t'+1:=⟨t-1,by omega⟩
     rw[show (((t'+1:Nat):Int)-1)=(t':Int) by omega]
     have i0:(0:Int)≤t':=by omega
     have i1:(t':Int)<i:=by omega
     obtain⟨g,off,hao,hB,hg,hr⟩:=ho.o.readsAt (by omega)
     subst hao
     have hbt:=bndsU_at (ns:=someL i) (v:=0::vs) (show t'<i by omega)
     have hlt2:t'*2+1<((bndsU (someL i) (0::vs) i).flatMap bndC).length:=by rw[flatK_len bndC 2 bndC_len,bndsU_len];omega
     have c0:wr.cell? ⟨g,off+t'*2+1,none⟩=some (.int .i64 (gv (0::vs) (t'+1))):=by
      rw[Nat.add_assoc]
      refine hr (t'*2+1) _ ?_
      rw[flatK_at bndC 2 bndC_len _ t' 1 _ hbt (by omega)];rfl
     have fz:wr.frozen? ⟨g,off+t'*2+1,none⟩=false:=by
      have:=ho.o.len_le.1
      rw[Nat.add_assoc]
      exact ho.o.reads.2.2.2 _ (by omega)
     obtain⟨X,hX⟩:∃ X,q%(m+1)=X:=⟨_,rfl⟩
     have HO2:Hid (OwnK (wr.setCell ⟨g,off+t'*2+1,none⟩ (.int .i64 ((X:Nat):Int))) w.heap.size 2 i rc ((bndsU (someL i) (0::vs.set t' ((X:Nat):Int)) i).flatMap bndC) (some ⟨g,off,none⟩)):=ħ (by
      have:=ho.o.setAt (t'*2+1) hlt2 (.int .i64 ((X:Nat):Int))
      rw[flat_set1 _ t' _ hbt,← Nat.add_assoc] at this
      rw[bndsU_set _ _ _ _ _ (by rw[hvl.o];omega)]
      exact this)
     have HD2:Hid (digU (m+1) i k=digU (m+1) t' (q/(m+1))++(vs.set t' ((X:Nat):Int)).drop t'):=ħ (by rw[← hX];exact dig_step hvl.o (by omega) hvd.o)
     have HW2:Hid (Below w.heap.size w (wr.setCell ⟨g,off+t'*2+1,none⟩ (.int .i64 ((X:Nat):Int)))):=ħ (hw.o.setCell (p:=⟨g,off+t'*2+1,none⟩) hB _)
     have hqd:q/(m+1)≤1000000:=Nat.le_trans (Nat.div_le_self _ _) hq
     obtain⟨Y,hY⟩:∃ Y,q/(m+1)=Y:=⟨_,rfl⟩
     rw[hY] at hqd HD2
     have r1:((q:Int)).tmod ((m:Int)+1)=(X:Int):=by rw[← hX];rfl
     have r2:((q:Int)).tdiv ((m:Int)+1)=(Y:Int):=by rw[← hY];rfl
     have r0:((m:Int)+1==0)=false:=beq_eq_false_iff_ne.mpr (by omega)
     have r3:IntKind.i64.wrap (X:Int)=(X:Int):=IntWalk.i64_in _ (by have:=Nat.mod_le q (m+1);omega)
     have r4:IntKind.i64.wrap (Y:Int)=(Y:Int):=IntWalk.i64_in _ (by omega)
     have e4:IntKind.i64.wrap ((t':Int)-1)=(t':Int)-1:=IntWalk.i64_in _ (by omega)
     clear hX hY hbt hlt2 hr hB hg ho hw hvd e3
     go_wp2
     go_roundw
     case rel=>exact⟨Y,t',vs.set t' ((X:Nat):Int),rfl,by omega,rfl,hqd,ħ (by rw[List.length_set];exact hvl.o),HD2,HO2,HW2⟩
     case measure=>simp only[intOf];omega
    ·obtain rfl:t=0:=by omega
     have HV:Hid (asgB i m k=bndsU (someL i) (0::vs) i):=ħ (by
      have:=hvd.o
      rw[digU,List.drop_zero,List.nil_append] at this
      unfold asgB asgK;rw[this])
     rw[show (((0:Nat):Int)-1)=(-1:Int) by omega]
     go_wp2
     go_ret
     exact⟨⟨ro,rc,rfl,by rw[HV.o];exact ho.o⟩,hw.o⟩
end
section
theorem asgK_digs (n m k:Nat) (hm:m≤6):∃ ds:List Int,digU (m+1) n k=ds∧ds.length=n∧∀ x∈ds,0≤x∧x≤65535:=by
 refine⟨_,rfl,digU_len _ _ _,fun x hx=>?_⟩
 have:=digU_rng (m+1) (by omega) n k x hx
 omega
theorem some_cases {n:Nat} (hn:n≤3) {s:List Nat} (h:s∈someL n):s=[120,46,97]∨s=[120,46,98]∨s=[121,46,97]:=by
 have:=List.mem_of_mem_take h
 simpa [threeL] using this
theorem asg_facts (n m k:Nat) (hn:n≤3) (hm:m≤6):vbP (asgB n m k)=true∧∀ s,knwN (someL n) s=true→getV (valM (asgB n m k)) s=some (gv (asgK n m k) (idxN (someL n) s)):=by
 obtain⟨ds,h1,h2,h3⟩:=asgK_digs n m k hm
 unfold asgB asgK
 rw[h1]
 clear h1
 match n,hn,ds,h2,h3 with
 | 0,_,[],_,_=>exact⟨rfl,fun s hs=>by
   have:s=[]:=by simpa [knwN,someL,threeL] using hs
   subst this;rfl⟩
 | 1,_,[a],_,h3 =>
  have ha:=h3 a (by simp)
  refine⟨?_,fun s hs=>?_⟩
  ·show vbP [⟨[120,46,97],a⟩]=true
   simp[vbP,vbG,ha]
   decide
  ·have:s=[]∨s=[120,46,97]:=by simpa [knwN,someL,threeL] using hs
   rcases this with rfl | rfl<;>rfl
 | 2,_,[a,b],_,h3 =>
  have ha:=h3 a (by simp)
  have hb:=h3 b (by simp)
  refine⟨?_,fun s hs=>?_⟩
  ·show vbP [⟨[120,46,97],a⟩,⟨[120,46,98],b⟩]=true
   simp[vbP,vbG,ha,hb]
   decide
  ·have:s=[]∨s=[120,46,97]∨s=[120,46,98]:=by simpa [knwN,someL,threeL] using hs
   rcases this with rfl | rfl | rfl<;>rfl
 | 3,_,[a,b,c],_,h3 =>
  have ha:=h3 a (by simp)
  have hb:=h3 b (by simp)
  have hc:=h3 c (by simp)
  refine⟨?_,fun s hs=>?_⟩
  ·show vbP [⟨[120,46,97],a⟩,⟨[120,46,98],b⟩,⟨[121,46,97],c⟩]=true
   simp[vbP,vbG,ha,hb,hc]
   decide
  ·have:s=[]∨s=[120,46,97]∨s=[120,46,98]∨s=[121,46,97]:=by simpa [knwN,someL,threeL] using hs
   rcases this with rfl | rfl | rfl | rfl<;>rfl
def trK (n m:Nat) (p:Prd) (k:Nat):Bool:=truthP (fK (someL n) (gv (asgK n m k))) p
theorem hold_asg (n m k:Nat) (hn:n≤3) (hm:m≤6) (p:Prd) (hv:validP p=true) (hk:KnwK (someL n) (atomsP p)):holdP p (asgB n m k)=(trK n m p k,0):=by
 obtain⟨h1,h2⟩:=asg_facts n m k hn hm
 unfold holdP
 rw[if_neg (by rw[hv,h1];simp),if_neg]
 ·unfold trK
  congr 1
  refine truth_congr (fun x hx=>?_)
  have:=hk x ((atomsP_mem p x).2 hx)
  unfold fV fK gvD
  rw[h2 _ this.1,h2 _ this.2];rfl
 ·rw[Bool.not_eq_false,List.all_eq_true]
  intro x hx
  have:=hk x hx
  unfold bdV
  rw[h2 _ this.1,h2 _ this.2];rfl
theorem asgB_ok (n m k:Nat) (hn:n≤3):BndOk (asgB n m k):=⟨fun b hb=>by
 unfold asgB bndsU at hb
 obtain⟨i,hi,rfl⟩:=List.mem_map.1 hb
 have hi2:i<(someL n).length:=by rw[someL_len hn];simpa using hi
 have:(someL n).getD i []∈someL n:=by rw[List.getD_eq_getElem?_getD,List.getElem?_eq_getElem hi2];exact List.getElem_mem _
 show NmB ((someL n).getD i [])
 rcases some_cases hn this with h | h | h<;>rw[h]<;>exact⟨by decide,by decide⟩⟩
theorem asgB_len (n m k:Nat):(asgB n m k).length=n:=bndsU_len _ _ _
end
section
open Go.RowKit Go.Sort
theorem OwnK.bndR {w:World} {B n cap:Nat} {ao:Option Addr} {l:List Bnd} (h:OwnK w B 2 n cap (l.flatMap bndC) ao) (hn:n=l.length):BndR w (fun _=>True) l ao:=by
 rcases h.flatR bndC_len hn with h | ⟨g,off,h1,h2,h3⟩
 ·exact .inl h
 ·exact .inr ⟨g,off,h1,trivial,h2,h3⟩
theorem holdA_any (p:Prd) (w:World) (P:Nat→Prop) (vs:List Value) (B n m k:Nat) (hN:cntP p≤1000000) (hb:BytP p) (h:PredC w P p vs) (hT:Tab w B) (hn:n≤3) (hm:m≤6) (hv:validP p=true) (hk:KnwK (someL n) (atomsP p))
  (W:World) (hW:Below w.heap.size w W) (ro:Option Addr) (rc:Nat) (hro:BndR W (fun _=>True) (asgB n m k) ro) :
  Calls Tryz.prog 42 #[.agg vs.toArray,.slice ro n rc] W fun e w'=>e = .returned (.tuple #[.bool (trK n m p k),.int .i64 0])∧Below W.heap.size W w':=by
 have:=holds_any p W P (fun _=>True) vs B (asgB n m k) ro n rc hN hb (h.below hW) (TabIn.step (w:=w) hT hW) (asgB_len n m k).symm (by omega) (asgB_ok n m k hn) hro
 rw[hold_asg n m k hn hm p hv hk] at this
 exact this
end
section
open Go.RowKit Go.Sort
def knownB (n:Nat) (p:Prd):Bool:=(nmsV p).all (fun s=>(someL n).contains s)
theorem known_knw {n:Nat} {p:Prd} (hv:validP p=true):knownB n p=true↔KnwK (someL n) (atomsP p):=by
 unfold knownB nmsV KnwK
 rw[if_pos hv,List.all_eq_true]
 unfold namesP knwN
 constructor
 ·intro h k hk
  constructor
  ·by_cases e:k.l=[]
   ·rw[e];rfl
   ·rw[h k.l ((nmsL_mem _ _).2 ⟨e,k,hk,.inl rfl⟩)];simp
  ·by_cases e:k.r=[]
   ·rw[e];rfl
   ·rw[h k.r ((nmsL_mem _ _).2 ⟨e,k,hk,.inr rfl⟩)];simp
 ·intro h s hs
  obtain⟨h1,k,hk,h2⟩:=(nmsL_mem _ _).1 hs
  rcases h2 with rfl | rfl
  ·have:=(h k hk).1
   simpa [h1] using this
  ·have:=(h k hk).2
   simpa [h1] using this
theorem nms_ok {p:Prd} {s:List Nat} (h:s∈nmsV p):∀ y∈s,y<256:=by
 unfold nmsV at h
 by_cases hv:validP p=true
 ·rw[if_pos hv] at h
  obtain⟨h1,k,hk,h2⟩:=(nmsL_mem _ _).1 h
  have:=form_keys p (valid_form hv) k ((atomsP_mem p k).1 hk)
  rcases h2 with rfl | rfl
  ·exact this.lb
  ·exact this.rb
 ·rw[if_neg hv] at h;cases h
theorem some_byte {n:Nat} (hn:n≤3):∀ s∈someL n,∀ y∈s,y<256:=fun s hs=>by
 rcases some_cases hn hs with h | h | h<;>subst h<;>decide
theorem nms_short (p:Prd) (hN:cntP p≤100000):(nmsV p).length≤1000000:=by
 unfold nmsV
 split
 ·unfold namesP
  refine Nat.le_trans (nmsL_len _) ?_
  have:(atomsP p).length≤cntP p:=Nat.le_trans (nodup_len_le _ (keysP p) (asc_nodup (atomsP_asc p)) (fun x hx=>(atomsP_mem p x).1 hx)) (keysP_len p)
  omega
 ·simp
theorem arr23 (t:Array Value) (h:t.size=23):∃ f:Nat→Value,t=#[f 0,f 1,f 2,f 3,f 4,f 5,f 6,f 7,f 8,f 9,f 10,f 11,f 12,f 13,f 14,f 15,f 16,f 17,f 18,f 19,f 20,f 21,f 22]:=by
 obtain⟨l⟩:=t
 have hl:l.length=23:=h
 have e:l=(List.range 23).map (fun i=>l.getD i undef):=by
  apply List.ext_getElem
  ·simp[hl]
  ·intro i h1 h2
   simp[List.getD,h1]
 exact⟨fun i=>l.getD i undef,congrArg List.toArray e⟩
theorem lt8_cases (i:Nat) (h:i<8):i=0∨i=1∨i=2∨i=3∨i=4∨i=5∨i=6∨i=7:=by omega
def knF (n g off c cp j:Nat) (y:ByteArray) (R:Bool) (i:Nat) (W:World) (v:Value):Prop:=match i with
 | 0=>v = .int .i64 (n:Nat)
 | 1=>∃ so,v = .slice so n 3∧StrsR W so (someL n)
 | 2=>v = .slice (some ⟨g,off,none⟩) c cp
 | 3=>v = .int .i64 (j:Nat)
 | 4=>v = .pointer (some ⟨g,off+j,none⟩)
 | 5=>v = .string y
 | 6=>v = .bool R
 | 7=>v = .bool (!R)
 | _=>True
theorem knF_step (n g off c cp j:Nat) (y:ByteArray) (R:Bool):∀ i w w' v,knF n g off c cp j y R i w v→Below w.heap.size w w'→knF n g off c cp j y R i w' v:=by
 intro i w w' v h hb
 match i with
 | 0=>exact h
 | 1=>obtain⟨so,h1,h2⟩:=h;exact⟨so,h1,h2.below hb⟩
 | 2=>exact h
 | 3=>exact h
 | 4=>exact h
 | 5=>exact h
 | 6=>exact h
 | 7=>exact h
 | k+8=>trivial
theorem known_any (p:Prd) (w:World) (P:Nat→Prop) (vs:List Value) (B n:Nat) (hN:cntP p≤100000) (hb:BytP p) (h:PredC w P p vs) (hT:Tab w B) (hn:n≤3) :
  Calls Tryz.prog 53 #[.agg vs.toArray,.int .i64 n] w fun e w'=>e = .returned (.bool (knownB n p))∧Below w.heap.size w w':=by
 obtain⟨xa,xn,xc,rfl,-⟩:=h.form
 have HNA:=ħ (fun W (hW:Below w.heap.size w W)=>pnames_any p W P _ B (by omega) hb (h.below hW) (TabIn.step (w:=w) hT hW))
 have HSM:=ħ (fun W=>somen_any n hn W)
 have HL:=ħ (nms_short p hN)
 have HBY:=ħ (fun s (hs:s∈nmsV p)=>nms_ok hs)
 have HKB:Hid (knownB n p=(nmsV p).all (fun s=>(someL n).contains s)):=ħ rfl
 have HSB:=ħ (some_byte hn)
 have HSL:=ħ (someL_len hn)
 generalize knownB n p=RES at *
 generalize nmsV p=NS at *
 generalize p.k=q0 at *
 generalize strN p.l=q1 at *
 generalize strN p.r=q2 at *
 generalize p.c=q3 at *
 have bx:=(Below.refl w.heap.size w).alloc (Nat.le_refl _) (.cells #[.int .i64 q0,.string q1,.string q2,.int .i64 q3,.slice xa xn xc] 25)
 have B1:=ħ bx
 have Y1:Hid (HasV (w.alloc (.cells #[.int .i64 q0,.string q1,.string q2,.int .i64 q3,.slice xa xn xc] 25)) w.heap.size 25 [.int .i64 q0,.string q1,.string q2,.int .i64 q3,.slice xa xn xc]):=ħ (heap_alloc_new w _)
 clear bx h hT hN hb
 go_enter Tryz.func53,Tryz.ntmps53
 go_upto_region 1 with (fail)
 generalize w.alloc (.cells #[.int .i64 q0,.string q1,.string q2,.int .i64 q3,.slice xa xn xc] 25)=w1 at *
 go_wp2_with (refine wpList_load_row rfl 25 (.tmp 2) rfl w.heap.size ?x1 25 #[.int .i64 q0,.string q1,.string q2,.int .i64 q3,.slice xa xn xc] (0,0) _ Y1.o Tryz.underlying25 rfl (inf_pred _ rfl) ?_;(case x1=>rfl))
 refine (HNA.o w1 B1.o).mono ?_
 rintro e w2 ⟨ao,cp,rfl,ho,b2⟩
 have HO:=ħ (ho.strsR rfl)
 have B2:=ħ (B1.o.trans (b2.mono B1.o.size))
 clear ho b2 B1 HNA
 obtain⟨c,hc⟩:∃ c,NS.length=c:=⟨_,rfl⟩
 have HC:=ħ hc
 rw[hc] at HL ⊢
 clear hc
 have hlb:=HL.o
 go_wp2_with fail
 go_loopw [6] (fun iv wr=>∃ (j:Nat),iv = .int .i64 j∧j≤c∧Hid ((NS.take j).all (fun s=>(someL n).contains s)=true)∧Hid (Below w2.heap.size w2 wr)) (fun i _=>(c-intOf i).toNat)
 case atStart=>exact⟨0,rfl,by omega,ħ (by simp),ħ (Below.refl _ _)⟩
 case round =>
  obtain⟨j,rfl,hi,hno,hw⟩:=hrel
  have e2:IntKind.i64.wrap ((j:Int)+1)=((j+1:Nat):Int):=IntWalk.i64_in _ (by omega)
  by_cases hlt:j<c
  ·have ii:(j:Int)<c:=by omega
   obtain⟨s,hs⟩:∃ s,NS[j]?=some s:=⟨_,List.getElem?_eq_getElem (by rw[HC.o];exact hlt)⟩
   obtain⟨g,off,hao,hg,hce⟩:=(HO.o.below hw.o).at j s hs
   have HCE:=ħ (fun W (hW:Below wr.heap.size wr W)=>(World.cell?_of_block (a:=⟨g,off+j,none⟩) (hW.block g hg)).trans hce)
   have HAO:=ħ hao
   subst hao
   have HST:Hid ((NS.take (j+1)).all (fun s=>(someL n).contains s)=((NS.take j).all (fun s=>(someL n).contains s)&&(someL n).contains s)):=ħ (by rw[List.take_add_one,hs,List.all_append];simp)
   have HAN:=ħ (fun (h:(someL n).contains s=false)=>(show NS.all (fun s=>(someL n).contains s)=false from by
    rw[Bool.eq_false_iff]
    intro h2
    rw[List.all_eq_true] at h2
    have h3:=h2 s (List.mem_of_getElem? hs)
    rw[h] at h3
    cases h3))
   have HHS:=ħ (fun W so (hso:StrsR W so (someL n))=>rhas_any' so n 3 (someL n) s W HSL.o.symm (by omega) hso (HBY.o s (List.mem_of_getElem? hs)) HSB.o)
   obtain⟨R,hR⟩:∃ R,(someL n).contains s=R:=⟨_,rfl⟩
   rw[hR] at HHS HST HAN
   clear hs hg hce hR
   generalize strN s=y at *
   have W0:=ħ (B2.o.trans (hw.o.mono B2.o.size))
   go_upto_region 5 with (fail)
   clear ii
   refine wp_region_midB (knF n g off c cp j y R) (by kernel_rfl) (knF_step n g off c cp j y R) (hdst_of (by kernel_rfl)) (hin_of (by kernel_rfl)) (hacycB_of (by kernel_rfl)) ?hs ?he
   case hs =>
    intro i o hi listed a' w' H hl2
    have hl3:=after_listed hl2
    have hin:i<8:=(Array.getElem?_eq_some_iff.1 hi).1
    have hb:=ħ H.below
    have s1:=H.same 1 (nodst_of (by kernel_rfl))
    have s5:=H.same 5 (nodst_of (by kernel_rfl))
    have s6:=H.same 6 (nodst_of (by kernel_rfl))
    have hdn:=H.done
    have hdf:=H.defers
    have hts:=H.tsize
    clear hl2 H
    obtain⟨t',df⟩:=a'
    obtain⟨f',rfl⟩:=arr23 t' hts
    have hdf':df=[]:=hdf
    subst hdf'
    have gs1:f' 1 = .int .i64 (n:Nat):=s1
    have gs5:f' 5 = .slice (some ⟨g,off,none⟩) c cp:=s5
    have gs6:f' 6 = .int .i64 (j:Nat):=s6
    clear s1 s5 s6
    clear hdf hts
    have hcases:=lt8_cases i hin
    clear hin
    rcases hcases with rfl | rfl | rfl | rfl | rfl | rfl | rfl | rfl
    ·obtain rfl:=Option.some.inj hi
     clear hdn hl3
     rw[gs1]
     clear gs1 gs5 gs6
     refine wpOp_list rfl ?_
     go_wp2_with fail
     exact postOf_normal ⟨_,rfl,Below.refl _ _,rfl⟩
    ·obtain rfl:=Option.some.inj hi
     have dv0:f' 15 = .int .i64 (n:Nat):=hdn 0 _ 15 rfl (hl3 0 (by rfl)) rfl
     clear hdn hl3
     rw[dv0]
     clear dv0 gs1 gs5 gs6
     refine wpOp_list rfl ?_
     go_wp2_with fail
     refine (HSM.o w').mono ?_
     rintro e w4 ⟨so,rfl,hs,b4⟩
     have HS:=ħ hs
     have HB4:=ħ b4
     clear hs b4
     go_wp2_with fail
     exact postOf_normal ⟨_,rfl,HB4.o,so,rfl,HS.o⟩
    ·obtain rfl:=Option.some.inj hi
     clear hdn hl3
     rw[gs5]
     clear gs1 gs5 gs6
     refine wpOp_list rfl ?_
     go_wp2_with fail
     exact postOf_normal ⟨_,rfl,Below.refl _ _,rfl⟩
    ·obtain rfl:=Option.some.inj hi
     clear hdn hl3
     rw[gs6]
     clear gs1 gs5 gs6
     refine wpOp_list rfl ?_
     go_wp2_with fail
     exact postOf_normal ⟨_,rfl,Below.refl _ _,rfl⟩
    ·obtain rfl:=Option.some.inj hi
     have dv2:f' 17 = .slice (some ⟨g,off,none⟩) c cp:=hdn 2 _ 17 rfl (hl3 2 (by rfl)) rfl
     have dv3:f' 18 = .int .i64 (j:Nat):=hdn 3 _ 18 rfl (hl3 3 (by rfl)) rfl
     clear hdn hl3
     rw[dv2,dv3]
     clear dv2 dv3 gs1 gs5 gs6
     have ii:(j:Int)<c:=by omega
     refine wpOp_list rfl ?_
     go_wp2_with fail
     exact postOf_normal ⟨_,rfl,Below.refl _ _,rfl⟩
    ·obtain rfl:=Option.some.inj hi
     have dv4:f' 19 = .pointer (some ⟨g,off+j,none⟩):=hdn 4 _ 19 rfl (hl3 4 (by rfl)) rfl
     clear hdn hl3
     rw[dv4]
     clear dv4 gs1 gs5 gs6
     have c0:=HCE.o w' hb.o
     refine wpOp_list rfl ?_
     go_wp2_with fail
     exact postOf_normal ⟨_,rfl,Below.refl _ _,rfl⟩
    ·obtain rfl:=Option.some.inj hi
     have dv1:knF n g off c cp j y R 1 w' (f' 16):=hdn 1 _ 16 rfl (hl3 1 (by rfl)) rfl
     obtain⟨so,dv1,hso⟩:=dv1
     have dv5:f' 20 = .string y:=hdn 5 _ 20 rfl (hl3 5 (by rfl)) rfl
     clear hdn hl3
     rw[dv1,dv5]
     clear dv1 dv5 gs1 gs5 gs6
     have HSO:=ħ hso
     clear hso
     refine wpOp_list rfl ?_
     go_wp2_with fail
     refine (HHS.o w' so HSO.o).mono ?_
     rintro e w4 ⟨rfl,rfl⟩
     go_wp2_with fail
     exact postOf_normal ⟨_,rfl,Below.refl _ _,rfl⟩
    ·obtain rfl:=Option.some.inj hi
     have dv6:f' 21 = .bool R:=hdn 6 _ 21 rfl (hl3 6 (by rfl)) rfl
     clear hdn hl3
     rw[dv6]
     clear dv6 gs1 gs5 gs6
     refine wpOp_list rfl ?_
     go_wp2_with fail
     exact postOf_normal ⟨_,rfl,Below.refl _ _,rfl⟩
   case he =>
    intro listed a' w4 H hall
    have hd7:knF n g off c cp j y R 7 w4 (a'.tmps.getD 22 undef):=H.done 7 _ 22 rfl (hall 7 (by decide)) rfl
    have hb4:=ħ H.below
    have hact:=H.act [15,16,17,18,19,20,21,22] (hdsIn_of (by kernel_rfl))
    clear H hall
    simp only[List.foldl_cons,List.foldl_nil] at hact
    generalize a'.tmps.getD 15 undef=z15 at *
    generalize a'.tmps.getD 16 undef=z16 at *
    generalize a'.tmps.getD 17 undef=z17 at *
    generalize a'.tmps.getD 18 undef=z18 at *
    generalize a'.tmps.getD 19 undef=z19 at *
    generalize a'.tmps.getD 20 undef=z20 at *
    generalize a'.tmps.getD 21 undef=z21 at *
    generalize a'.tmps.getD 22 undef=z22 at *
    subst hact
    have e7:z22 = .bool (!R):=hd7
    subst e7
    clear hd7
    simp only[Act.put,List.setIfInBounds_toArray,List.set_cons_succ,List.set_cons_zero]
    have W4:=ħ (hw.o.trans (hb4.o.mono hw.o.size))
    have W5:=ħ (B2.o.trans (W4.o.mono B2.o.size))
    clear hb4 hw W0
    cases R with
    | false =>
     go_wp2
     go_ret
     exact⟨ret_bool (by rw[HKB.o];exact (HAN.o trivial).symm),W5.o⟩
    | true =>
     go_wp2
     go_roundw
     case rel=>exact⟨j+1,by go_num,by omega,ħ (by rw[HST.o,hno.o];rfl),W4⟩
     case measure=>simp only[intOf];omega
  ·have ii:¬ ((j:Int)<c):=by omega
   have W5:=ħ (B2.o.trans (hw.o.mono B2.o.size))
   go_wp2
   go_ret
   exact⟨ret_bool (by rw[HKB.o,← hno.o,List.take_of_length_le (by rw[HC.o];omega)]),W5.o⟩
end
section
theorem con_opp (k:Ky):conK (oppK k)=conK k:=by
 unfold conK oppK
 show (k.r==k.l)=(k.l==k.r)
 exact Bool.eq_iff_iff.2 ⟨fun h=>beq_iff_eq.2 (beq_iff_eq.1 h).symm,fun h=>beq_iff_eq.2 (beq_iff_eq.1 h).symm⟩
theorem ori_con (k:Ky):conK (oriK k).1=conK k:=by
 unfold oriK
 split
 ·exact con_opp k
 ·rfl
theorem ltL_flip {a b:List Nat} (h:a≠b):ltL a b=!ltL b a:=by
 rcases ltL_total a b with h1 | h1 | h1
 ·cases h2:ltL b a with
  | false=>rw[h1];rfl
  | true =>
   have:=ltL_trans a b a h1 h2
   rw[ltL_irrefl] at this;cases this
 ·exact absurd h1 h
 ·cases h2:ltL a b with
  | false=>rw[h1];rfl
  | true =>
   have:=ltL_trans a b a h2 h1
   rw[ltL_irrefl] at this;cases this
theorem ori_opp (k:Ky) (h:conK k=false):(oriK (oppK k)).1=(oriK k).1:=by
 have hne:k.l≠k.r:=by unfold conK at h;simpa using h
 unfold oriK
 show (if ltL k.l k.r=true then (oppK (oppK k),false) else (oppK k,true)).1=_
 rw[ltL_flip hne,oppK_opp]
 cases ltL k.r k.l<;>rfl
theorem comps_neg (p:Prd) (hv:validP p=true):compsP [negP p]=compsP [p]:=by
 unfold compsP
 refine asc_eq (compL_asc _) (compL_asc _) (fun x=>?_)
 rw[compL_mem,compL_mem]
 have hm:=neg_mem p (valid_form hv)
 constructor
 ·rintro⟨h1,k,hk,rfl⟩
  refine⟨h1,oppK k,?_,?_⟩
  ·simp only[List.flatMap_cons,List.flatMap_nil,List.append_nil] at hk ⊢
   exact (hm k).1 hk
  ·rw[ori_con] at h1
   exact ori_opp k h1
 ·rintro⟨h1,k,hk,rfl⟩
  refine⟨h1,oppK k,?_,?_⟩
  ·simp only[List.flatMap_cons,List.flatMap_nil,List.append_nil] at hk ⊢
   exact (hm _).2 (by rw[oppK_opp];exact hk)
  ·rw[ori_con] at h1
   exact ori_opp k h1
theorem some_given {n m:Nat} (h1:1≤n) (hn:n≤3) (hm:m≤6):givenP (someL n) (m:Int)=true:=by
 unfold givenP
 rw[someL_len hn]
 have h2:ascB (someL n)=true∧(someL n).all validN=true:=by
  match n,h1,hn with
  | 1,_,_=>exact⟨by decide,by decide⟩
  | 2,_,_=>exact⟨by decide,by decide⟩
  | 3,_,_=>exact⟨by decide,by decide⟩
 simp[h2]
 omega
structure GoP (n:Nat) (p:Prd):Prop where
 valid:validP p=true
 known:KnwK (someL n) (atomsP p)
theorem GoP.ok {n:Nat} {p:Prd} (h:GoP n p):okQ (someL n) p=true:=okQ_known h.valid h.known
theorem GoP.neg {n:Nat} {p:Prd} (h:GoP n p):GoP n (negP p):=⟨neg_valid p h.valid,fun k hk=>by
 have:=h.known (oppK k) ((neg_mem p (valid_form h.valid) k).1 hk)
 exact⟨this.2,this.1⟩⟩
theorem open_one {n m:Nat} {p:Prd} (h1:1≤n) (hn:n≤3) (hm:m≤6) (h:GoP n p):openE (someL n) (m:Int) [p]=if 8<(compsP [p]).length then 6 else 0 :=
 openE_all (fun q hq=>by rw[List.mem_singleton.1 hq];exact h.ok) (some_given h1 hn hm)
theorem tr_neg {n m:Nat} {p:Prd} (h:GoP n p) (k:Nat):trK n m (negP p) k=!trK n m p k :=
 neg_truth _ _ p (valid_form h.valid) (by have:=(small_of h.valid).1;omega) (fun k _=>fK_opp _ _ k)
theorem cnt_tr {n m:Nat} (hn:n≤3) (p:Prd):cntP' (someL n) (m:Int) p=cntK (trK n m p) ((m+1)^n):=by
 unfold cntP'
 rw[cntA_law,Int.toNat_natCast,someL_len hn]
 exact cntK_congr _ (fun j _=>rfl)
theorem cnt_both {n m:Nat} {p:Prd} (h:GoP n p):cntK (trK n m p) ((m+1)^n)+cntK (trK n m (negP p)) ((m+1)^n)=(m+1)^n:=by
 rw[cntK_congr (g:=trK n m (negP p)) (h:=fun j=>!trK n m p j) _ (fun j _=>tr_neg h j)]
 exact cntK_not _ _
end
section
open Go.RowKit Go.Sort
theorem cntK_le (g:Nat→Bool):∀ m,cntK g m≤m:=fun m=>by have:=cntK_not g m;omega
theorem cntK_succ (g:Nat→Bool) (k:Nat):cntK g (k+1)=cntK g k+(if g k=true then 1 else 0):=by
 rw[cntK_add g k 1];simp[cntK]
theorem some_nm {n:Nat} (hn:n≤3):∀ s∈someL n,NmB s:=fun s hs=>by
 rcases some_cases hn hs with h | h | h<;>subst h<;>exact⟨by decide,by decide⟩
theorem some_asc {n:Nat} (h1:1≤n) (hn:n≤3):AscN (someL n):=(given_asc (some_given (m:=0) h1 hn (by omega))).1
theorem pow343 {n m:Nat} (hn:n≤3) (hm:m≤6):(m+1)^n≤343:=by
 have h1:(m+1)^n≤7^n:=Nat.pow_le_pow_left (by omega) n
 have h2:7^n≤7^3:=Nat.pow_le_pow_right (by omega) (by omega)
 omega
theorem NegR.go {w w':World} {p:Prd} {e:Ending} (h:NegR w p e w'):∃ vs:List Value,e = .returned (.agg vs.toArray)∧PredC w' (fun _=>True) p vs∧Below w.heap.size w w':=by
 obtain⟨⟨v,rfl,vs,rfl,hc⟩,hb⟩:=h
 exact⟨vs,rfl,hc.wide,hb⟩
theorem negV_go {n:Nat} {p:Prd} (h:GoP n p):negV p=negP p:=by unfold negV;rw[if_pos h.valid]
theorem neg_byt {n:Nat} {p:Prd} (h:GoP n p):BytP (negP p)∧cntP (negP p)≤100 :=
 ⟨byt_form _ (valid_form (neg_valid p h.valid)),(small_of (neg_valid p h.valid)).1⟩
theorem arr112 (t:Array Value) (h:t.size=112):∃ f:Nat→Value,t=#[f 0,f 1,f 2,f 3,f 4,f 5,f 6,f 7,f 8,f 9,f 10,f 11,f 12,f 13,f 14,f 15,f 16,f 17,f 18,f 19,f 20,f 21,f 22,f 23,f 24,f 25,f 26,f 27,f 28,f 29,f 30,f 31,f 32,f 33,f 34,f 35,f 36,f 37,f 38,f 39,f 40,f 41,f 42,f 43,f 44,f 45,f 46,f 47,f 48,f 49,f 50,f 51,f 52,f 53,f 54,f 55,f 56,f 57,f 58,f 59,f 60,f 61,f 62,f 63,f 64,f 65,f 66,f 67,f 68,f 69,f 70,f 71,f 72,f 73,f 74,f 75,f 76,f 77,f 78,f 79,f 80,f 81,f 82,f 83,f 84,f 85,f 86,f 87,f 88,f 89,f 90,f 91,f 92,f 93,f 94,f 95,f 96,f 97,f 98,f 99,f 100,f 101,f 102,f 103,f 104,f 105,f 106,f 107,f 108,f 109,f 110,f 111]:=by
 obtain⟨l⟩:=t
 have hl:l.length=112:=h
 have e:l=(List.range 112).map (fun i=>l.getD i undef):=by
  apply List.ext_getElem
  ·simp[hl]
  ·intro i h1 h2
   simp[List.getD,h1]
 exact⟨fun i=>l.getD i undef,congrArg List.toArray e⟩
def ccF (q0 q3:Int) (q1 q2:ByteArray) (xa:Option Addr) (xn xc n m:Nat) (c1 EC:Int) (i:Nat) (W:World) (v:Value):Prop:=match i with
 | 0=>v = .agg #[.int .i64 q0,.string q1,.string q2,.int .i64 q3,.slice xa xn xc]
 | 1=>v = .int .i64 (n:Nat)
 | 2=>∃ so,v = .slice so n 3∧StrsR W so (someL n)
 | 3=>v = .int .i64 (m:Nat)
 | 4=>v = .tuple #[.int .i64 c1,.int .i64 EC]
 | 5=>v = .tuple #[.int .i64 c1,.int .i64 EC]
 | 6=>v = .int .i64 c1
 | 7=>v = .int .i64 EC
 | 8=>v = .int .i64 c1
 | 9=>v = .int .i64 EC
 | _=>True
theorem ccF_step (q0 q3:Int) (q1 q2:ByteArray) (xa:Option Addr) (xn xc n m:Nat) (c1 EC:Int):∀ i w w' v,ccF q0 q3 q1 q2 xa xn xc n m c1 EC i w v→Below w.heap.size w w'→ccF q0 q3 q1 q2 xa xn xc n m c1 EC i w' v:=by
 intro i w w' v h hb
 match i with
 | 0=>exact h
 | 1=>exact h
 | 2=>obtain⟨so,h1,h2⟩:=h;exact⟨so,h1,h2.below hb⟩
 | 3=>exact h
 | 4=>exact h
 | 5=>exact h
 | 6=>exact h
 | 7=>exact h
 | 8=>exact h
 | 9=>exact h
 | k+10=>trivial
def chF (q0 q3:Int) (q1 q2:ByteArray) (xa:Option Addr) (xn xc n m k:Nat) (R:Bool) (i:Nat) (W:World) (v:Value):Prop:=match i with
 | 0=>v = .agg #[.int .i64 q0,.string q1,.string q2,.int .i64 q3,.slice xa xn xc]
 | 1=>v = .int .i64 (k:Nat)
 | 2=>v = .int .i64 (n:Nat)
 | 3=>v = .int .i64 (m:Nat)
 | 4=>∃ ro rc,v = .slice ro n rc∧BndR W (fun _=>True) (asgB n m k) ro
 | 5=>v = .tuple #[.bool R,.int .i64 0]
 | 6=>v = .tuple #[.bool R,.int .i64 0]
 | 7=>v = .bool R
 | 8=>v = .int .i64 0
 | 9=>v = .bool R
 | 10=>v = .int .i64 0
 | _=>True
theorem chF_step (q0 q3:Int) (q1 q2:ByteArray) (xa:Option Addr) (xn xc n m k:Nat) (R:Bool):∀ i w w' v,chF q0 q3 q1 q2 xa xn xc n m k R i w v→Below w.heap.size w w'→chF q0 q3 q1 q2 xa xn xc n m k R i w' v:=by
 intro i w w' v h hb
 match i with
 | 0=>exact h
 | 1=>exact h
 | 2=>exact h
 | 3=>exact h
 | 4=>obtain⟨ro,rc,h1,h2⟩:=h;exact⟨ro,rc,h1,h2.below hb⟩
 | 5=>exact h
 | 6=>exact h
 | 7=>exact h
 | 8=>exact h
 | 9=>exact h
 | 10=>exact h
 | k+11=>trivial
theorem askcounts_walk (p:Prd) (w:World) (P:Nat→Prop) (vs:List Value) (x y:Nat) (B:Nat) (hT:Tab w B) (h:PredC w P p vs) (hb:ByL p) (hlen:LenP p) (hx:x≤255) (hy:y≤255) :
  Calls Tryz.prog 12 #[.agg vs.toArray,.int .u8 x,.int .u8 y] w fun e w'=>e = .returned (.bool true)∧Below w.heap.size w w':=by
 obtain⟨xa,xn,xc,rfl,-⟩:=h.form
 have HSA:=ħ (fun W (hW:Below w.heap.size w W)=>sd_any W B (TabIn.step (w:=w) hT hW))
 have HFW:=ħ (fun W (hW:Below w.heap.size w W)=>few_any p 60 8 (by omega) (by omega) W P _ hlen (h.below hW))
 have HVP:=ħ (fun W (hW:Below w.heap.size w W) (hc:fewP p 60 8=true)=>vpredL_any p W P _ B (Nat.le_trans (few_cnt hc) (by omega)) hb (h.below hW) (TabIn.step (w:=w) hT hW))
 have HKN:=ħ (fun n (hn:n≤3) (hv:validP p=true) W (hW:Below w.heap.size w W)=>known_any p W P _ B n (by have:=(small_of hv).1;omega) (byt_form p (valid_form hv)) (h.below hW) (TabIn.step (w:=w) hT hW) hn)
 have HH0:=ħ (fun n m (hn:n≤3) (hm:m≤6) (g:GoP n p) k W hW ro rc hro=>holdA_any p w P _ B n m k (by have:=(small_of g.valid).1;omega) (byt_form p (valid_form g.valid)) h hT hn hm g.valid g.known W hW ro rc hro)
 have HCT:=ħ (fun n (m:Nat) (h1:1≤n) (hn:n≤3) (hm:m≤6) (g:GoP n p) W (hW:Below w.heap.size w W) so (hso:StrsR W so (someL n))=>cnt_any W P p _ so n 3 (m:Int) (someL n) B (TabIn.step (w:=w) hT hW) (h.below hW) (byt_form p (valid_form g.valid)) (by have:=(small_of g.valid).1;omega) (someL_len hn).symm hso (some_nm hn) (some_asc h1 hn) h1 hn (by omega))
 have HNG:=ħ (fun n (g:GoP n p) W (hW:Below w.heap.size w W)=>(pnegate_any p W P _ B (by have:=(small_of g.valid).1;omega) (byt_form p (valid_form g.valid)) (h.below hW) (TabIn.step (w:=w) hT hW)).mono (fun e w' hh=>(show NegR W (negP p) e w' by rw[← negV_go g];exact hh).go))
 have HCN:=ħ (fun n (m:Nat) (h1:1≤n) (hn:n≤3) (hm:m≤6) (g:GoP n p) W (hW:Below w.heap.size w W) us (hus:PredC W (fun _=>True) (negP p) us) so (hso:StrsR W so (someL n))=>cnt_any W (fun _=>True) (negP p) us so n 3 (m:Int) (someL n) B (TabIn.step (w:=w) hT hW) hus (neg_byt g).1 (by have:=(neg_byt g).2;omega) (someL_len hn).symm hso (some_nm hn) (some_asc h1 hn) h1 hn (by omega))
 have HKW:=ħ (fun n (hv:validP p=true) (hk:knownB n p=true)=>(show GoP n p from ⟨hv,(known_knw hv).1 hk⟩))
 have HO1:=ħ (fun n (m:Nat) (h1:1≤n) (hn:n≤3) (hm:m≤6) (g:GoP n p)=>(⟨open_one h1 hn hm g,by rw[open_one h1 hn hm g.neg,comps_neg p g.valid]⟩:openE (someL n) (m:Int) [p]=(if 8<(compsP [p]).length then 6 else 0)∧openE (someL n) (m:Int) [negP p]=if 8<(compsP [p]).length then 6 else 0))
 have HC1:=ħ (fun n (m:Nat) (hn:n≤3) (g:GoP n p)=>(⟨cnt_tr hn p,cnt_tr hn (negP p),cnt_both g⟩:cntP' (someL n) (m:Int) p=cntK (trK n m p) ((m+1)^n)∧cntP' (someL n) (m:Int) (negP p)=cntK (trK n m (negP p)) ((m+1)^n)∧cntK (trK n m p) ((m+1)^n)+cntK (trK n m (negP p)) ((m+1)^n)=(m+1)^n))
 clear hlen hb hT h
 generalize fewP p 60 8=s at *
 generalize validP p=t at *
 generalize p.k=q0 at *
 generalize strN p.l=q1 at *
 generalize strN p.r=q2 at *
 generalize p.c=q3 at *
 have bx:=(Below.refl w.heap.size w).alloc (Nat.le_refl _) (.cells #[.int .i64 q0,.string q1,.string q2,.int .i64 q3,.slice xa xn xc] 25)
 have B1:=ħ bx
 have Y1:Hid (HasV (w.alloc (.cells #[.int .i64 q0,.string q1,.string q2,.int .i64 q3,.slice xa xn xc] 25)) w.heap.size 25 [.int .i64 q0,.string q1,.string q2,.int .i64 q3,.slice xa xn xc]):=ħ (heap_alloc_new w _)
 clear bx
 go_enter Tryz.func12,Tryz.ntmps12
 go_upto_region 1 with (fail)
 generalize w.alloc (.cells #[.int .i64 q0,.string q1,.string q2,.int .i64 q3,.slice xa xn xc] 25)=w1 at *
 go_wp2_with fail
 refine (HSA.o w1 B1.o).mono ?_
 rintro e w2 ⟨rfl,b2⟩
 have B2:=ħ (B1.o.trans (b2.mono B1.o.size))
 have Y2:=ħ (Y1.o.step b2)
 clear b2 B1 Y1 HSA
 go_upto_region 4 with (fail)
 have hnn:(1+(x:Int)%3)=((1+x%3:Nat):Int):=by omega
 have hmm:((y:Int)%7)=((y%7:Nat):Int):=by omega
 rw[hnn,hmm]
 have h1:1≤1+x%3:=by omega
 have h3:1+x%3≤3:=by omega
 have h6:y%7≤6:=by omega
 clear hnn hmm hx hy
 generalize 1+x%3=n at *
 generalize y%7=m at *
 go_wp2_with (refine wpList_load_row rfl 25 (.tmp 3) rfl w.heap.size ?x1 25 #[.int .i64 q0,.string q1,.string q2,.int .i64 q3,.slice xa xn xc] (0,0) _ Y2.o Tryz.underlying25 rfl (inf_pred _ rfl) ?_;(case x1=>rfl))
 refine (HFW.o w2 B2.o).mono ?_
 rintro e w3 ⟨rfl,b3⟩
 have B3:=ħ (B2.o.trans (b3.mono B2.o.size))
 have Y3:=ħ (Y2.o.step b3)
 clear b3 B2 Y2 HFW
 cases s with
 | false =>
  go_wp2
  go_ret
  exact⟨rfl,B3.o⟩
 | true =>
 go_wp2_with (refine wpList_load_wanted (by rfl) 25 (.tmp 3) rfl w.heap.size ?x2 25 #[.int .i64 q0,.string q1,.string q2,.int .i64 q3,.slice xa xn xc] (0,0) _ Y3.o Tryz.underlying25 rfl (inf_pred _ rfl) ?_;(case x2=>rfl))
 refine (HVP.o w3 B3.o trivial).mono ?_
 rintro e w4 ⟨rfl,b4⟩
 have B4:=ħ (B3.o.trans (b4.mono B3.o.size))
 have Y4:=ħ (Y3.o.step b4)
 clear b4 B3 Y3 HVP
 cases t with
 | false =>
  go_wp2
  go_ret
  exact⟨rfl,B4.o⟩
 | true =>
 go_wp2_with (refine wpList_load_wanted (by rfl) 25 (.tmp 3) rfl w.heap.size ?x3 25 #[.int .i64 q0,.string q1,.string q2,.int .i64 q3,.slice xa xn xc] (0,0) _ Y4.o Tryz.underlying25 rfl (inf_pred _ rfl) ?_;(case x3=>rfl))
 refine (HKN.o n h3 trivial w4 B4.o).mono ?_
 rintro e w5 ⟨rfl,b5⟩
 have B5:=ħ (B4.o.trans (b5.mono B4.o.size))
 have Y5:=ħ (Y4.o.step b5)
 clear b5 B4 Y4 HKN
 obtain⟨u,hu⟩:∃ u,knownB n p=u:=⟨_,rfl⟩
 have HG:=ħ (fun (h:u=true)=>HKW.o n trivial (by rw[hu,h]))
 rw[hu]
 clear hu HKW
 cases u with
 | false =>
  go_wp2
  go_ret
  exact⟨rfl,B5.o⟩
 | true =>
 have HGO:=ħ (HG.o rfl)
 clear HG
 obtain⟨ho1,ho2⟩:=HO1.o n m h1 h3 h6 HGO.o
 obtain⟨hc1,hc2,hc3⟩:=HC1.o n m h3 HGO.o
 have HF:=ħ (HCT.o n m h1 h3 h6 HGO.o)
 have HF2:=ħ (HCN.o n m h1 h3 h6 HGO.o)
 have HNN:=ħ (HNG.o n HGO.o)
 have HHH:=ħ (HH0.o n m h3 h6 HGO.o)
 rw[ho1,hc1] at HF
 rw[ho2,hc2] at HF2
 have HEC:Hid ((if 8<(compsP [p]).length then (6:Int) else 0)=6∨(if 8<(compsP [p]).length then (6:Int) else 0)=0):=ħ (by split<;>simp)
 generalize (if 8<(compsP [p]).length then (6:Int) else 0)=EC at *
 unfold CntQ at HF HF2
 have HC3:=ħ hc3
 have H343:=ħ (pow343 h3 h6)
 have HAL:=ħ (fun W=>alln_any n m h3 h6 W)
 have HAS0:=ħ (fun k (hk:k≤1000000) W=>assign_any k n m h3 h6 hk W)
 have HSM:=ħ (fun W=>somen_any n h3 W)
 generalize trK n m p=G at *
 generalize hK2:cntK (trK n m (negP p)) ((m+1)^n)=K2 at *
 generalize (m+1)^n=N at *
 clear hK2 ho1 ho2 hc1 hc2 hc3 HO1 HC1 HCT HCN HNG HH0
 obtain⟨c1,hc1⟩:∃ c1,(if EC=0 then ((cntK G N:Nat):Int) else 0)=c1:=⟨_,rfl⟩
 obtain⟨c2,hc2⟩:∃ c2,(if EC=0 then ((K2:Nat):Int) else 0)=c2:=⟨_,rfl⟩
 rw[hc1] at HF
 rw[hc2] at HF2
 have HC1:=ħ hc1
 have HC2:=ħ hc2
 clear hc1 hc2
 have X1:=Y5
 have HW:=B5
 go_upto_region 6 with (fail)
 refine wp_region_midB (ccF q0 q3 q1 q2 xa xn xc n m c1 EC) (by kernel_rfl) (ccF_step q0 q3 q1 q2 xa xn xc n m c1 EC) (hdst_of (by kernel_rfl)) (hin_of (by kernel_rfl)) (hacycB_of (by kernel_rfl)) ?hs ?he
 case hs =>
  intro i o hi listed a' w' H hl2
  have hl3:=after_listed hl2
  have hin:i<10:=(Array.getElem?_eq_some_iff.1 hi).1
  have hb:=ħ H.below
  have s3:=H.same 3 (nodst_of (by kernel_rfl))
  have s8:=H.same 8 (nodst_of (by kernel_rfl))
  have s9:=H.same 9 (nodst_of (by kernel_rfl))
  have hdn:=H.done
  have hdf:=H.defers
  have hts:=H.tsize
  clear hl2 H
  obtain⟨t',df⟩:=a'
  obtain⟨f',rfl⟩:=arr112 t' hts
  have hdf':df=[]:=hdf
  subst hdf'
  have gs3:f' 3 = .pointer (some ⟨w.heap.size,0,none⟩):=s3
  have gs8:f' 8 = .int .i64 (n:Nat):=s8
  have gs9:f' 9 = .int .i64 (m:Nat):=s9
  clear s3 s8 s9
  clear hdf hts
  have hcases:=lt10_cases i hin
  clear hin
  rcases hcases with rfl | rfl | rfl | rfl | rfl | rfl | rfl | rfl | rfl | rfl
  ·obtain rfl:=Option.some.inj hi
   clear hdn hl3
   rw[gs3]
   clear gs3 gs8 gs9
   have X2:=X1.o.step hb.o
   refine wpOp_list rfl ?_
   go_wp2_with (refine wpList_load_row rfl 25 (.tmp 3) rfl w.heap.size ?x1 25 #[.int .i64 q0,.string q1,.string q2,.int .i64 q3,.slice xa xn xc] (0,0) _ X2 Tryz.underlying25 rfl (inf_pred _ rfl) ?_;(case x1=>rfl))
   exact postOf_normal ⟨_,rfl,Below.refl _ _,rfl⟩
  ·obtain rfl:=Option.some.inj hi
   clear hdn hl3
   rw[gs8]
   clear gs3 gs8 gs9
   refine wpOp_list rfl ?_
   go_wp2_with fail
   exact postOf_normal ⟨_,rfl,Below.refl _ _,rfl⟩
  ·obtain rfl:=Option.some.inj hi
   have dv1:f' 43 = .int .i64 (n:Nat):=hdn 1 _ 43 rfl (hl3 1 (by rfl)) rfl
   clear hdn hl3
   rw[dv1]
   clear dv1 gs3 gs8 gs9
   refine wpOp_list rfl ?_
   go_wp2_with fail
   refine (HSM.o w').mono ?_
   rintro e w4 ⟨so,rfl,hs,b4⟩
   have HS:=ħ hs
   have HB4:=ħ b4
   clear hs b4
   go_wp2_with fail
   exact postOf_normal ⟨_,rfl,HB4.o,so,rfl,HS.o⟩
  ·obtain rfl:=Option.some.inj hi
   clear hdn hl3
   rw[gs9]
   clear gs3 gs8 gs9
   refine wpOp_list rfl ?_
   go_wp2_with fail
   exact postOf_normal ⟨_,rfl,Below.refl _ _,rfl⟩
  ·obtain rfl:=Option.some.inj hi
   have dv0:f' 42 = .agg #[.int .i64 q0,.string q1,.string q2,.int .i64 q3,.slice xa xn xc]:=hdn 0 _ 42 rfl (hl3 0 (by rfl)) rfl
   have dv2:ccF q0 q3 q1 q2 xa xn xc n m c1 EC 2 w' (f' 44):=hdn 2 _ 44 rfl (hl3 2 (by rfl)) rfl
   obtain⟨so,dv2,hso⟩:=dv2
   have dv3:f' 45 = .int .i64 (m:Nat):=hdn 3 _ 45 rfl (hl3 3 (by rfl)) rfl
   clear hdn hl3
   rw[dv0,dv2,dv3]
   clear dv0 dv2 dv3 gs3 gs8 gs9
   have HSO:=ħ hso
   clear hso
   refine wpOp_list rfl ?_
   go_wp2_with fail
   refine (HF.o w' (HW.o.trans (hb.o.mono HW.o.size)) so HSO.o).mono ?_
   rintro e w4 ⟨rfl,b4⟩
   have HB4:=ħ b4
   clear b4
   go_wp2_with fail
   exact postOf_normal ⟨_,rfl,HB4.o,rfl⟩
  ·obtain rfl:=Option.some.inj hi
   have dv4:f' 46 = .tuple #[.int .i64 c1,.int .i64 EC]:=hdn 4 _ 46 rfl (hl3 4 (by rfl)) rfl
   clear hdn hl3
   rw[dv4]
   clear dv4 gs3 gs8 gs9
   refine wpOp_list rfl ?_
   go_wp2_with fail
   exact postOf_normal ⟨_,rfl,Below.refl _ _,rfl⟩
  ·obtain rfl:=Option.some.inj hi
   have dv5:f' 41 = .tuple #[.int .i64 c1,.int .i64 EC]:=hdn 5 _ 41 rfl (hl3 5 (by rfl)) rfl
   clear hdn hl3
   rw[dv5]
   clear dv5 gs3 gs8 gs9
   refine wpOp_list rfl ?_
   go_wp2_with fail
   exact postOf_normal ⟨_,rfl,Below.refl _ _,rfl⟩
  ·obtain rfl:=Option.some.inj hi
   have dv5:f' 41 = .tuple #[.int .i64 c1,.int .i64 EC]:=hdn 5 _ 41 rfl (hl3 5 (by rfl)) rfl
   clear hdn hl3
   rw[dv5]
   clear dv5 gs3 gs8 gs9
   refine wpOp_list rfl ?_
   go_wp2_with fail
   exact postOf_normal ⟨_,rfl,Below.refl _ _,rfl⟩
  ·obtain rfl:=Option.some.inj hi
   have dv6:f' 47 = .int .i64 c1:=hdn 6 _ 47 rfl (hl3 6 (by rfl)) rfl
   clear hdn hl3
   rw[dv6]
   clear dv6 gs3 gs8 gs9
   refine wpOp_list rfl ?_
   go_wp2_with fail
   exact postOf_normal ⟨_,rfl,Below.refl _ _,rfl⟩
  ·obtain rfl:=Option.some.inj hi
   have dv7:f' 48 = .int .i64 EC:=hdn 7 _ 48 rfl (hl3 7 (by rfl)) rfl
   clear hdn hl3
   rw[dv7]
   clear dv7 gs3 gs8 gs9
   refine wpOp_list rfl ?_
   go_wp2_with fail
   exact postOf_normal ⟨_,rfl,Below.refl _ _,rfl⟩
 case he =>
  intro listed a' w4 H hall
  have hd8:ccF q0 q3 q1 q2 xa xn xc n m c1 EC 8 w4 (a'.tmps.getD 10 undef):=H.done 8 _ 10 rfl (hall 8 (by decide)) rfl
  have hd9:ccF q0 q3 q1 q2 xa xn xc n m c1 EC 9 w4 (a'.tmps.getD 11 undef):=H.done 9 _ 11 rfl (hall 9 (by decide)) rfl
  have hb4:=ħ H.below
  have hact:=H.act [42,43,44,45,46,41,47,48,10,11] (hdsIn_of (by kernel_rfl))
  clear H hall
  simp only[List.foldl_cons,List.foldl_nil] at hact
  generalize a'.tmps.getD 42 undef=z42 at *
  generalize a'.tmps.getD 43 undef=z43 at *
  generalize a'.tmps.getD 44 undef=z44 at *
  generalize a'.tmps.getD 45 undef=z45 at *
  generalize a'.tmps.getD 46 undef=z46 at *
  generalize a'.tmps.getD 41 undef=z41 at *
  generalize a'.tmps.getD 47 undef=z47 at *
  generalize a'.tmps.getD 48 undef=z48 at *
  generalize a'.tmps.getD 10 undef=z10 at *
  generalize a'.tmps.getD 11 undef=z11 at *
  subst hact
  have e8:z10 = .int .i64 c1:=hd8
  subst e8
  clear hd8
  have e9:z11 = .int .i64 EC:=hd9
  subst e9
  clear hd9
  simp only[Act.put,List.setIfInBounds_toArray,List.set_cons_succ,List.set_cons_zero]
  have B6:=ħ (B5.o.trans (hb4.o.mono B5.o.size))
  have Y6:=ħ (Y5.o.step hb4.o)
  clear hb4 B5 Y5 X1 HW HF
  go_wp2_with (refine wpList_load_row rfl 25 (.tmp 3) rfl w.heap.size ?x4 25 #[.int .i64 q0,.string q1,.string q2,.int .i64 q3,.slice xa xn xc] (0,0) _ Y6.o Tryz.underlying25 rfl (inf_pred _ rfl) ?_;(case x4=>rfl))
  refine (HNN.o w4 B6.o).mono ?_
  rintro e w7 ⟨us,rfl,hus,b7⟩
  have HUS:=ħ hus
  have B7:=ħ (B6.o.trans (b7.mono B6.o.size))
  have Y7:=ħ (Y6.o.step b7)
  clear hus b7 B6 Y6 HNN
  generalize hua:us.toArray=ua at *
  go_wp2_with fail
  refine (HSM.o w7).mono ?_
  rintro e w8 ⟨so,rfl,hso,b8⟩
  have B8:=ħ (B7.o.trans (b8.mono B7.o.size))
  have Y8:=ħ (Y7.o.step b8)
  have HQ:=ħ (HF2.o w8 B8.o us (HUS.o.below b8) so hso)
  clear hso b8 B7 Y7 HUS HF2
  rw[hua] at HQ
  clear hua us
  go_wp2_with fail
  refine HQ.o.mono ?_
  rintro e w9 ⟨rfl,b9⟩
  have B9:=ħ (B8.o.trans (b9.mono B8.o.size))
  have Y9:=ħ (Y8.o.step b9)
  clear b9 B8 Y8 HQ
  rcases HEC.o with h | h
  ·subst h
   have hc1:=HC1.o
   rw[if_neg (by decide)] at hc1
   subst hc1
   clear HC1 HC2 HC3
   go_wp2
   go_ret
   exact⟨rfl,B9.o⟩
  ·subst h
   have hc1:=HC1.o
   have hc2:=HC2.o
   rw[if_pos rfl] at hc1 hc2
   subst hc1 hc2
   clear HC1 HC2 HEC
   go_wp2_with fail
   go_loopw [14,15] (fun wv kv wr=>∃ (k:Nat),kv = .int .i64 k∧k≤N∧wv = .int .i64 ((cntK G k:Nat):Int)∧Hid (HasV wr w.heap.size 25 [.int .i64 q0,.string q1,.string q2,.int .i64 q3,.slice xa xn xc])∧Hid (Below w.heap.size w wr)) (fun _ k _=>(N-intOf k).toNat)
   case atStart=>exact⟨0,rfl,by omega,rfl,Y9,B9⟩
   case round =>
    clear Y9 B9
    obtain⟨k,rfl,hkn,rfl,X1,HW⟩:=hrel
    have h343:=H343.o
    have e2:IntKind.i64.wrap ((k:Int)+1)=((k+1:Nat):Int):=IntWalk.i64_in _ (by omega)
    go_wp2_with fail
    refine (HAL.o wr).mono ?_
    rintro e wl ⟨rfl,rfl⟩
    by_cases hlt:k<N
    ·have ii:(k:Int)<N:=by omega
     have HH:=ħ (fun W (hW:Below w.heap.size w W) ro rc hro=>HHH.o k W hW ro rc hro)
     have HAS:=ħ (fun W=>HAS0.o k (by omega) W)
     obtain⟨R,hR⟩:∃ R,G k=R:=⟨_,rfl⟩
     rw[hR] at HH
     have HS:=ħ (cntK_succ G k)
     have hcl:=cntK_le G k
     have HCL:=ħ hcl
     rw[hR] at HS
     clear hR hcl
     obtain⟨ck,hck⟩:∃ c,cntK G k=c:=⟨_,rfl⟩
     rw[hck] at HS HCL ⊢
     clear hck
     go_upto_region 14 with (fail)
     clear ii
     refine wp_region_midB (chF q0 q3 q1 q2 xa xn xc n m k R) (by kernel_rfl) (chF_step q0 q3 q1 q2 xa xn xc n m k R) (hdst_of (by kernel_rfl)) (hin_of (by kernel_rfl)) (hacycB_of (by kernel_rfl)) ?hs ?he
     case hs =>
      intro i o hi listed a' w' H hl2
      have hl3:=after_listed hl2
      have hin:i<11:=(Array.getElem?_eq_some_iff.1 hi).1
      have hb:=ħ H.below
      have s3:=H.same 3 (nodst_of (by kernel_rfl))
      have s15:=H.same 15 (nodst_of (by kernel_rfl))
      have s8:=H.same 8 (nodst_of (by kernel_rfl))
      have s9:=H.same 9 (nodst_of (by kernel_rfl))
      have hdn:=H.done
      have hdf:=H.defers
      have hts:=H.tsize
      clear hl2 H
      obtain⟨t',df⟩:=a'
      obtain⟨f',rfl⟩:=arr112 t' hts
      have hdf':df=[]:=hdf
      subst hdf'
      have gs3:f' 3 = .pointer (some ⟨w.heap.size,0,none⟩):=s3
      have gs15:f' 15 = .int .i64 (k:Nat):=s15
      have gs8:f' 8 = .int .i64 (n:Nat):=s8
      have gs9:f' 9 = .int .i64 (m:Nat):=s9
      clear s3 s15 s8 s9
      clear hdf hts
      have hcases:=lt11_cases i hin
      clear hin
      rcases hcases with rfl | rfl | rfl | rfl | rfl | rfl | rfl | rfl | rfl | rfl | rfl
      ·obtain rfl:=Option.some.inj hi
       clear hdn hl3
       rw[gs3]
       clear gs3 gs15 gs8 gs9
       have X2:=X1.o.step hb.o
       refine wpOp_list rfl ?_
       go_wp2_with (refine wpList_load_row rfl 25 (.tmp 3) rfl w.heap.size ?x1 25 #[.int .i64 q0,.string q1,.string q2,.int .i64 q3,.slice xa xn xc] (0,0) _ X2 Tryz.underlying25 rfl (inf_pred _ rfl) ?_;(case x1=>rfl))
       exact postOf_normal ⟨_,rfl,Below.refl _ _,rfl⟩
      ·obtain rfl:=Option.some.inj hi
       clear hdn hl3
       rw[gs15]
       clear gs3 gs15 gs8 gs9
       refine wpOp_list rfl ?_
       go_wp2_with fail
       exact postOf_normal ⟨_,rfl,Below.refl _ _,rfl⟩
      ·obtain rfl:=Option.some.inj hi
       clear hdn hl3
       rw[gs8]
       clear gs3 gs15 gs8 gs9
       refine wpOp_list rfl ?_
       go_wp2_with fail
       exact postOf_normal ⟨_,rfl,Below.refl _ _,rfl⟩
      ·obtain rfl:=Option.some.inj hi
       clear hdn hl3
       rw[gs9]
       clear gs3 gs15 gs8 gs9
       refine wpOp_list rfl ?_
       go_wp2_with fail
       exact postOf_normal ⟨_,rfl,Below.refl _ _,rfl⟩
      ·obtain rfl:=Option.some.inj hi
       have dv1:f' 83 = .int .i64 (k:Nat):=hdn 1 _ 83 rfl (hl3 1 (by rfl)) rfl
       have dv2:f' 84 = .int .i64 (n:Nat):=hdn 2 _ 84 rfl (hl3 2 (by rfl)) rfl
       have dv3:f' 85 = .int .i64 (m:Nat):=hdn 3 _ 85 rfl (hl3 3 (by rfl)) rfl
       clear hdn hl3
       rw[dv1,dv2,dv3]
       clear dv1 dv2 dv3 gs3 gs15 gs8 gs9
       refine wpOp_list rfl ?_
       go_wp2_with fail
       refine (HAS.o w').mono ?_
       rintro e w4 ⟨⟨ro,rc,rfl,ho⟩,b4⟩
       have HO:=ħ (ho.bndR (asgB_len _ _ _).symm)
       have HB4:=ħ b4
       clear ho b4
       go_wp2_with fail
       exact postOf_normal ⟨_,rfl,HB4.o,ro,rc,rfl,HO.o⟩
      ·obtain rfl:=Option.some.inj hi
       have dv0:f' 82 = .agg #[.int .i64 q0,.string q1,.string q2,.int .i64 q3,.slice xa xn xc]:=hdn 0 _ 82 rfl (hl3 0 (by rfl)) rfl
       have dv4:chF q0 q3 q1 q2 xa xn xc n m k R 4 w' (f' 86):=hdn 4 _ 86 rfl (hl3 4 (by rfl)) rfl
       obtain⟨ro,rc,dv4,hro⟩:=dv4
       clear hdn hl3
       rw[dv0,dv4]
       clear dv0 dv4 gs3 gs15 gs8 gs9
       have HRO:=ħ hro
       clear hro
       refine wpOp_list rfl ?_
       go_wp2_with fail
       refine (HH.o w' (HW.o.trans (hb.o.mono HW.o.size)) ro rc HRO.o).mono ?_
       rintro e w4 ⟨rfl,b4⟩
       have HB4:=ħ b4
       clear b4
       go_wp2_with fail
       exact postOf_normal ⟨_,rfl,HB4.o,rfl⟩
      ·obtain rfl:=Option.some.inj hi
       have dv5:f' 87 = .tuple #[.bool R,.int .i64 0]:=hdn 5 _ 87 rfl (hl3 5 (by rfl)) rfl
       clear hdn hl3
       rw[dv5]
       clear dv5 gs3 gs15 gs8 gs9
       refine wpOp_list rfl ?_
       go_wp2_with fail
       exact postOf_normal ⟨_,rfl,Below.refl _ _,rfl⟩
      ·obtain rfl:=Option.some.inj hi
       have dv6:f' 81 = .tuple #[.bool R,.int .i64 0]:=hdn 6 _ 81 rfl (hl3 6 (by rfl)) rfl
       clear hdn hl3
       rw[dv6]
       clear dv6 gs3 gs15 gs8 gs9
       refine wpOp_list rfl ?_
       go_wp2_with fail
       exact postOf_normal ⟨_,rfl,Below.refl _ _,rfl⟩
      ·obtain rfl:=Option.some.inj hi
       have dv6:f' 81 = .tuple #[.bool R,.int .i64 0]:=hdn 6 _ 81 rfl (hl3 6 (by rfl)) rfl
       clear hdn hl3
       rw[dv6]
       clear dv6 gs3 gs15 gs8 gs9
       refine wpOp_list rfl ?_
       go_wp2_with fail
       exact postOf_normal ⟨_,rfl,Below.refl _ _,rfl⟩
      ·obtain rfl:=Option.some.inj hi
       have dv7:f' 88 = .bool R:=hdn 7 _ 88 rfl (hl3 7 (by rfl)) rfl
       clear hdn hl3
       rw[dv7]
       clear dv7 gs3 gs15 gs8 gs9
       refine wpOp_list rfl ?_
       go_wp2_with fail
       exact postOf_normal ⟨_,rfl,Below.refl _ _,rfl⟩
      ·obtain rfl:=Option.some.inj hi
       have dv8:f' 89 = .int .i64 0:=hdn 8 _ 89 rfl (hl3 8 (by rfl)) rfl
       clear hdn hl3
       rw[dv8]
       clear dv8 gs3 gs15 gs8 gs9
       refine wpOp_list rfl ?_
       go_wp2_with fail
       exact postOf_normal ⟨_,rfl,Below.refl _ _,rfl⟩
     case he =>
      intro listed a' w4 H hall
      have hd9:chF q0 q3 q1 q2 xa xn xc n m k R 9 w4 (a'.tmps.getD 16 undef):=H.done 9 _ 16 rfl (hall 9 (by decide)) rfl
      have hd10:chF q0 q3 q1 q2 xa xn xc n m k R 10 w4 (a'.tmps.getD 17 undef):=H.done 10 _ 17 rfl (hall 10 (by decide)) rfl
      have hb4:=ħ H.below
      have hact:=H.act [82,83,84,85,86,87,81,88,89,16,17] (hdsIn_of (by kernel_rfl))
      clear H hall
      simp only[List.foldl_cons,List.foldl_nil] at hact
      generalize a'.tmps.getD 82 undef=z82 at *
      generalize a'.tmps.getD 83 undef=z83 at *
      generalize a'.tmps.getD 84 undef=z84 at *
      generalize a'.tmps.getD 85 undef=z85 at *
      generalize a'.tmps.getD 86 undef=z86 at *
      generalize a'.tmps.getD 87 undef=z87 at *
      generalize a'.tmps.getD 81 undef=z81 at *
      generalize a'.tmps.getD 88 undef=z88 at *
      generalize a'.tmps.getD 89 undef=z89 at *
      generalize a'.tmps.getD 16 undef=z16 at *
      generalize a'.tmps.getD 17 undef=z17 at *
      subst hact
      have e9:z16 = .bool R:=hd9
      subst e9
      clear hd9
      have e10:z17 = .int .i64 0:=hd10
      subst e10
      clear hd10
      simp only[Act.put,List.setIfInBounds_toArray,List.set_cons_succ,List.set_cons_zero]
      have W4:=ħ (HW.o.trans (hb4.o.mono HW.o.size))
      have X4:=ħ (X1.o.step hb4.o)
      clear hb4 X1 HW HH HAS
      cases R with
      | true =>
       have hcl:=HCL.o
       have e3:IntKind.i64.wrap ((ck:Int)+1)=((ck+1:Nat):Int):=IntWalk.i64_in _ (by omega)
       go_wp2
       go_roundw
       case rel=>exact⟨k+1,by go_num,by omega,by rw[HS.o];rfl,X4,W4⟩
       case measure=>simp only[intOf];omega
      | false =>
       go_wp2
       go_roundw
       case rel=>exact⟨k+1,by go_num,by omega,by rw[HS.o];rfl,X4,W4⟩
       case measure=>simp only[intOf];omega
    ·have ii:¬ ((k:Int)<N):=by omega
     obtain rfl:k=N:=by omega
     have hc3:=HC3.o
     generalize cntK G k=K1 at *
     have e4:IntKind.i64.wrap ((K1:Int)+(K2:Int))=(k:Int):=by
      rw[← hc3];exact IntWalk.i64_in _ (by omega)
     clear hc3
     go_wp2_with fail
     refine (HAL.o wr).mono ?_
     rintro e wl ⟨rfl,rfl⟩
     go_wp2
     go_ret
     exact⟨rfl,HW.o⟩
end
end Go.Proofs.YtmkdfbelbcocpaaGreatDoor
