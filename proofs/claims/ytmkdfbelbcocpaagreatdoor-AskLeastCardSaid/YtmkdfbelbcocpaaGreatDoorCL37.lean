import Derived.Test.YtmkdfbelbcocpaaGreatDoorCL36
import Derived.Test.YtmkdfbelbcocpaaGreatDoorCL26
import Derived.Test.YtmkdfbelbcocpaaGreatDoorCL23
import Derived.Test.YtmkdfbelbcocpaaGreatDoorCL20
import Derived.Test.YtmkdfbelbcocpaaGreatDoorCL22
import Derived.Test.YtmkdfbelbcocpaaGreatDoorCL10
set_option linter.unusedVariables false
set_option linter.unusedSimpArgs false
set_option maxHeartbeats 16000000
set_option maxRecDepth 100000
namespace Go.Proofs.YtmkdfbelbcocpaaGreatDoor
section
open Go.RowKit Go.Sort
def Zl1:List (List Nat):=[[120,46,97],[120,46,98],[121,46,97]]
def Zat (n:Nat):List (List Nat):=Zl1.take n
theorem Zbz {n:Nat} (h:n≤3):(Zat n).length=n:=by unfold Zat;rw[List.length_take];exact Nat.min_eq_left h
theorem Zl2 (n:Nat) (hn:n≤3) (w:World) :
  Calls Tryz.prog 55 #[.int .i64 n] w fun e w'=>∃ ao,e = .returned (.slice ao n 3)∧Zcd w' ao (Zat n)∧Below w.heap.size w w':=by
 have bx:=(Below.refl w.heap.size w).alloc (Nat.le_refl _) (.cells #[.string ⟨#[120,46,97]⟩,.string ⟨#[120,46,98]⟩,.string ⟨#[121,46,97]⟩] 9)
 have X1:Hid (Zah (w.alloc (.cells #[.string ⟨#[120,46,97]⟩,.string ⟨#[120,46,98]⟩,.string ⟨#[121,46,97]⟩] 9)) w.heap.size 9 [.string ⟨#[120,46,97]⟩,.string ⟨#[120,46,98]⟩,.string ⟨#[121,46,97]⟩]):=ħ (heap_alloc_new w _)
 have B1:=ħ bx
 clear bx
 have i0:(0:Int)≤n:=by omega
 have i3:(n:Int)≤3:=by omega
 go_enter Tryz.func55,Tryz.ntmps55
 go_wp2
 go_ret
 refine⟨_,rfl,.inr ⟨_,0,rfl,X1.o.lt,fun j u hj=>?_⟩,B1.o⟩
 have h3:(Zl1.map Z24)[j]?=some u:=by
  unfold Zat at hj
  rw[List.map_take,List.getElem?_take] at hj
  by_cases h:j<n
  ·rwa [if_pos h] at hj
  ·rw[if_neg h] at hj;cases hj
 exact X1.o.readsR j u h3
theorem Z35 (n m:Nat) (hn:n≤3) (hm:m≤6) (w:World) :
  Calls Tryz.prog 57 #[.int .i64 n,.int .i64 m] w fun e w'=>e = .returned (.int .i64 (((m+1)^n:Nat):Int))∧w=w':=by
 have HP:Hid (∀ i,i≤n→(m+1)^i≤343):=ħ (fun i hi=>by
  have h1:(m+1)^i≤7^i:=Nat.pow_le_pow_left (by omega) i
  have h2:7^i≤7^3:=Nat.pow_le_pow_right (by omega) (by omega)
  omega)
 have e1:IntKind.i64.wrap ((m:Int)+1)=((m+1:Nat):Int):=IntWalk.i64_in _ (by omega)
 go_enter Tryz.func57,Tryz.ntmps57
 go_wp2_with fail
 go_loop [5,6] (fun o c=>∃ i:Nat,c = .int .i64 i∧i≤n∧o = .int .i64 (((m+1)^i:Nat):Int)) (fun o c=>(n-intOf c).toNat)
 case atStart=>exact⟨0,rfl,by omega,rfl⟩
 case round =>
  obtain⟨i,rfl,hi,rfl⟩:=hrel
  have e2:IntKind.i64.wrap ((i:Int)+1)=((i+1:Nat):Int):=IntWalk.i64_in _ (by omega)
  by_cases hlt:i<n
  ·have ii:(i:Int)<n:=by omega
   obtain⟨q,hq⟩:∃ q,(m+1)^i=q:=⟨_,rfl⟩
   obtain⟨r,hr⟩:∃ r,(m+1)^(i+1)=r:=⟨_,rfl⟩
   have HR:=ħ hr
   have hb:=HP.o (i+1) hlt
   rw[Nat.pow_succ] at hr
   rw[hq] at hr
   have e3:IntKind.i64.wrap ((q:Int)*((m:Int)+1))=(r:Int):=(by
    rw[show (q:Int)*((m:Int)+1)=((q*(m+1):Nat):Int) by simp,hr]
    exact IntWalk.i64_in _ (by rw[HR.o] at hb;omega))
   rw[hq]
   clear hq hr hb
   go_wp2
   go_round
   case rel=>exact⟨i+1,by go_num,by omega,by rw[HR.o]⟩
   case measure=>simp only[intOf];omega
  ·have ii:¬ ((i:Int)<n):=by omega
   obtain rfl:i=n:=by omega
   go_wp2
   go_ret
   exact⟨rfl,rfl⟩
end
section
open Go.RowKit Go.Sort
def Zmj (n most k:Nat):List Bnd:=Zc1 (Zat n) (Zfe n most k) n
theorem Z0c {n:Nat} (h:n≤3) (most k:Nat):Zmj n most k=Zfa (Zat n) (Zfe n most k):=by unfold Zmj Zfa;rw[Zbz h]
theorem Zku {ns:List (List Nat)} {v:List Int} {j i:Nat} (h:i<j):(Zc1 ns v j)[i]?=some ⟨ns.getD i [],gv v (i+1)⟩:=by
 unfold Zc1
 rw[List.getElem?_map,List.getElem?_range h];rfl
theorem Z0d (ns:List (List Nat)) (vs:List Int) (j i:Nat) (x:Int) (h:i<vs.length):Zc1 ns (0::vs.set i x) j=(Zc1 ns (0::vs) j).set i ⟨ns.getD i [],x⟩:=by
 apply List.ext_getElem?
 intro t
 by_cases ht:t<j
 ·rw[Zku ht,List.getElem?_set]
  by_cases e:i=t
  ·subst e
   rw[if_pos rfl,if_pos (by rw[Zhc];exact ht)]
   rw[show (0::vs.set i x)=(0::vs).set (i+1) x from rfl,Zgt _ _ _ _ (by simp;omega),if_pos rfl]
  ·rw[if_neg e,Zku ht]
   rw[show (0::vs.set i x)=(0::vs).set (i+1) x from rfl,Zgt _ _ _ _ (by simp;omega),if_neg (by omega)]
 ·rw[List.getElem?_eq_none (by rw[Zhc];omega),List.getElem?_eq_none (by rw[List.length_set,Zhc];omega)]
theorem Z36 {b i k k0 n:Nat} {vs:List Int} (hv:vs.length=n) (hi:i<n) (h:Zji b n k0=Zji b (i+1) k++vs.drop (i+1)):Zji b n k0=Zji b i (k/b)++(vs.set i ((k%b:Nat):Int)).drop i:=by
 rw[h]
 have:(vs.set i ((k%b:Nat):Int)).drop i=((k%b:Nat):Int)::vs.drop (i+1):=by
  rw[List.drop_eq_getElem_cons (by rw[List.length_set];omega),List.getElem_set_self,List.drop_set_of_lt (by omega)]
 rw[this,Zji,List.append_assoc];rfl
theorem OwnK.setAt {w:World} {B k n cap g off:Nat} {xs:List Value} (h:OwnK w B k n cap xs (some ⟨g,off,none⟩)) (i:Nat) (hi:i<xs.length) (v:Value) :
  OwnK (w.setCell ⟨g,off+i,none⟩ v) B k n cap (xs.set i v) (some ⟨g,off,none⟩):=by
 cases h with
 | «at» g off h h1 h2 h3 =>
  have hth:=h.cells i xs[i] (List.getElem?_eq_getElem hi)
  have hsame:=World.cell?_setCell_same w ⟨g,off+i,none⟩ v hth
  have hoth:∀ j,i≠j→(w.setCell ⟨g,off+i,none⟩ v).cell? ⟨g,off+j,none⟩=w.cell? ⟨g,off+j,none⟩:=fun j hj=>World.cell?_setCell_other w _ _ v (fun e=>hj (by have:=congrArg Addr.off e;simp at this;exact this))
  refine .at g off ⟨h.own,by rw[World.size_setCell];exact h.lt,by rw[List.length_set];exact h.le,fun j u hj=>?_,fun j hj=>?_,fun j hj=>?_⟩ (by rw[List.length_set];exact h1) h2 h3
  ·rw[List.getElem?_set] at hj
   by_cases e:i=j
   ·subst e
    rw[if_pos rfl,if_pos hi] at hj
    cases hj
    exact hsame
   ·rw[if_neg e] at hj
    rw[hoth j e];exact h.cells j u hj
  ·by_cases e:i=j
   ·subst e;rw[hsame];rfl
   ·rw[hoth j e];exact h.room j hj
  ·show (w.setCells g (off+i) [v]).frozen? _=_
   rw[World.frozen?_setCells];exact h.warm j hj
theorem Z0e (l:List Bnd) (i:Nat) (b:Bnd) (hb:l[i]?=some b) (x:Int):(l.flatMap Zep).set (i*2+1) (.int .i64 x)=(l.set i ⟨b.n,x⟩).flatMap Zep:=by
 have hi:=(List.getElem?_eq_some_iff.1 hb).1
 apply List.ext_getElem?
 intro j
 rw[Zuf Zep 2 Zc9 l i hi,List.getElem?_set]
 by_cases e:i*2+1=j
 ·subst e
  rw[if_pos rfl,if_pos (by rw[Zbc Zep 2 Zc9];omega),if_pos (by omega),show i*2+1-i*2=1 by omega];rfl
 ·rw[if_neg e]
  by_cases e2:i*2≤j∧j<i*2+2
  ·obtain rfl:j=i*2:=by omega
   rw[if_pos e2,Nat.sub_self]
   have:=Zbv Zep 2 Zc9 l i 0 b hb (by omega)
   rw[Nat.add_zero] at this
   rw[this];rfl
  ·rw[if_neg e2]
theorem Zwo (k n m:Nat) (hn:n≤3) (hm:m≤6) (hk:k≤1000000) (w:World) :
  Calls Tryz.prog 58 #[.int .i64 k,.int .i64 n,.int .i64 m] w fun e w'=>(∃ ro rc,e = .returned (.slice ro n rc)∧OwnK w' w.heap.size 2 n rc ((Zmj n m k).flatMap Zep) ro)∧Below w.heap.size w w':=by
 have HS:=ħ (fun W=>Zl2 n hn W)
 have HL:=ħ (Zbz hn)
 have bx:=(Below.refl w.heap.size w).alloc (Nat.le_refl _) (.cells #[] 87)
 have B0:=ħ bx
 have O0:Hid (OwnK (w.alloc (.cells #[] 87)) w.heap.size 2 0 0 ((Zc1 (Zat n) (0::List.replicate n 0) 0).flatMap Zep) (some ⟨w.heap.size,0,none⟩)):=ħ (by have:=OwnK.made w 87 2;simpa [Zc1] using this)
 clear bx
 have e1:IntKind.i64.wrap ((m:Int)+1)=(m:Int)+1:=IntWalk.i64_in _ (by omega)
 go_enter Tryz.func58,Tryz.ntmps58
 go_wp2_with fail
 go_loopw [7,8] (fun o c wr=>∃ (i:Nat) (ro:Option Addr) (rc:Nat),c = .int .i64 i∧i≤n∧o = .slice ro i rc∧Hid (OwnK wr w.heap.size 2 i rc ((Zc1 (Zat n) (0::List.replicate n 0) i).flatMap Zep) ro)∧Hid (Below w.heap.size w wr)) (fun o c _=>(n-intOf c).toNat)
 case atStart=>exact⟨0,_,0,rfl,by omega,rfl,O0,B0⟩
 case round =>
  clear O0 B0
  obtain⟨i,ro,rc,rfl,hi,rfl,ho,hw⟩:=hrel
  have e2:IntKind.i64.wrap ((i:Int)+1)=((i+1:Nat):Int):=IntWalk.i64_in _ (by omega)
  by_cases hlt:i<n
  ·have ii:(i:Int)<n:=by omega
   obtain⟨s,hs⟩:∃ s,(Zat n)[i]?=some s:=⟨_,List.getElem?_eq_getElem (by rw[HL.o];exact hlt)⟩
   have HTK:Hid ((Zc1 (Zat n) (0::List.replicate n 0) i).flatMap Zep++[.string (Zad s),.int .i64 0]=(Zc1 (Zat n) (0::List.replicate n 0) (i+1)).flatMap Zep):=ħ (by
    rw[Znc hs,← Zhb]
    have:gv (0::List.replicate n 0) (i+1)=0:=Zg1 (n+1) (i+1)
    rw[this];rfl)
   go_wp2_with fail
   refine (HS.o wr).mono ?_
   rintro e w2 ⟨sa,rfl,hsr,b2⟩
   have HW2:=ħ (hw.o.trans (b2.mono hw.o.size))
   have HO2:=ħ (ho.o.below b2)
   obtain⟨g,off,hao,hg,hc⟩:=hsr.at i s hs
   subst hao
   clear b2 hsr hs ho hw
   generalize Zad s=y at *
   go_wp2_with (at_builtin;refine Zfg 49 87 Z8g 2 24 Tryz.underlying49 Zu1 rfl (by omega) (by omega) w2 w.heap.size rfl (.tmp 16) (.tmp 23) rfl ro rc i ((Zc1 (Zat n) (0::List.replicate n 0) i).flatMap Zep) ?q1 HO2.o HW2.o.size 1 1 #[.string y,.int .i64 0] 87 ?q2 rfl (by omega) ?q3 ?q4 ?_;(case q1=>rfl);(case q2=>rfl);(case q3=>simp[Value.oneCell']);(case q4=>omega);intro g5 off5 c5 wa o8 gr8 b8 or8;have O8:=ħ o8;have B8:=ħ b8;clear o8 gr8 b8 or8)
   have B4:=ħ (HW2.o.trans B8.o)
   clear HO2 HW2 hg hc B8
   go_roundw
   case rel=>exact⟨i+1,some ⟨g5,off5,none⟩,c5,by go_num,by omega,rfl,ħ (by rw[← HTK.o];exact O8.o),B4⟩
   case measure=>simp only[intOf];omega
  ·obtain rfl:i=n:=by omega
   have ii:¬ ((i:Int)<(i:Int)):=by omega
   have HDG:Hid (∃ vs:List Int,vs.length=i∧Zc1 (Zat i) (0::List.replicate i 0) i=Zc1 (Zat i) (0::vs) i∧Zji (m+1) i k=Zji (m+1) i k++vs.drop i):=ħ ⟨List.replicate i 0,by simp,rfl,by simp⟩
   obtain⟨vs,hvl,hvb,hvd⟩:=HDG.o
   rw[hvb] at ho
   have HO0:=ħ ho.o
   have HW0:=ħ hw.o
   have HVL:=ħ hvl
   have HVD:=ħ hvd
   have e3:IntKind.i64.wrap ((i:Int)-1)=(i:Int)-1:=IntWalk.i64_in _ (by omega)
   clear HDG hvb hvl hvd ho hw
   go_wp2_with fail
   go_loopw [0,9] (fun kc c wq=>∃ (q t:Nat) (vs:List Int),c = .int .i64 ((t:Int)-1)∧t≤i∧kc = .int .i64 q∧q≤1000000∧Hid (vs.length=i)∧Hid (Zji (m+1) i k=Zji (m+1) t q++vs.drop t)∧Hid (OwnK wq w.heap.size 2 i rc ((Zc1 (Zat i) (0::vs) i).flatMap Zep) ro)∧Hid (Below w.heap.size w wq)) (fun kc c _=>(intOf c+1).toNat)
   case atStart=>exact⟨k,i,vs,rfl,Nat.le_refl _,rfl,by omega,HVL,HVD,HO0,HW0⟩
   case round =>
    clear HO0 HW0 HVL HVD vs
    obtain⟨q,t,vs,rfl,ht,rfl,hq,hvl,hvd,ho,hw⟩:=hrel
    by_cases ht0:0<t
    ·obtain⟨t',rfl⟩:∃ t',t=t'+1:=⟨t-1,by omega⟩
     rw[show (((t'+1:Nat):Int)-1)=(t':Int) by omega]
     have i0:(0:Int)≤t':=by omega
     have i1:(t':Int)<i:=by omega
     obtain⟨g,off,hao,hB,hg,hr⟩:=ho.o.readsAt (by omega)
     subst hao
     have hbt:=Zku (ns:=Zat i) (v:=0::vs) (show t'<i by omega)
     have hlt2:t'*2+1<((Zc1 (Zat i) (0::vs) i).flatMap Zep).length:=by rw[Zbc Zep 2 Zc9,Zhc];omega
     have c0:wr.cell? ⟨g,off+t'*2+1,none⟩=some (.int .i64 (gv (0::vs) (t'+1))):=by
      rw[Nat.add_assoc]
      refine hr (t'*2+1) _ ?_
      rw[Zbv Zep 2 Zc9 _ t' 1 _ hbt (by omega)];rfl
     have fz:wr.frozen? ⟨g,off+t'*2+1,none⟩=false:=by
      have:=ho.o.len_le.1
      rw[Nat.add_assoc]
      exact ho.o.reads.2.2.2 _ (by omega)
     obtain⟨X,hX⟩:∃ X,q%(m+1)=X:=⟨_,rfl⟩
     have HO2:Hid (OwnK (wr.setCell ⟨g,off+t'*2+1,none⟩ (.int .i64 ((X:Nat):Int))) w.heap.size 2 i rc ((Zc1 (Zat i) (0::vs.set t' ((X:Nat):Int)) i).flatMap Zep) (some ⟨g,off,none⟩)):=ħ (by
      have:=ho.o.setAt (t'*2+1) hlt2 (.int .i64 ((X:Nat):Int))
      rw[Z0e _ t' _ hbt,← Nat.add_assoc] at this
      rw[Z0d _ _ _ _ _ (by rw[hvl.o];omega)]
      exact this)
     have HD2:Hid (Zji (m+1) i k=Zji (m+1) t' (q/(m+1))++(vs.set t' ((X:Nat):Int)).drop t'):=ħ (by rw[← hX];exact Z36 hvl.o (by omega) hvd.o)
     have HW2:Hid (Below w.heap.size w (wr.setCell ⟨g,off+t'*2+1,none⟩ (.int .i64 ((X:Nat):Int)))):=ħ (hw.o.setCell (p:=⟨g,off+t'*2+1,none⟩) hB _)
     have hqd:q/(m+1)≤1000000:=Nat.le_trans (Nat.div_le_self _ _) hq
     obtain⟨Y,hY⟩:∃ Y,q/(m+1)=Y:=⟨_,rfl⟩
     rw[hY] at hqd HD2
     have r1:((q:Int)).tmod ((m:Int)+1)=(X:Int):=by rw[← hX];rfl
     have r2:((q:Int)).tdiv ((m:Int)+1)=(Y:Int):=by rw[← hY];rfl
     have r0:((m:Int)+1==0)=false:=beq_eq_false_iff_ne.mpr (by omega)
     have r3:IntKind.i64.wrap (X:Int)=(X:Int):=IntWalk.i64_in _ (by have:=Nat.mod_le q (m+1);omega)
     have r4:IntKind.i64.wrap (Y:Int)=(Y:Int):=IntWalk.i64_in _ (by omega)
     have e4:IntKind.i64.wrap ((t':Int)-1)=(t':Int)-1:=IntWalk.i64_in _ (by omega)
     clear hX hY hbt hlt2 hr hB hg ho hw hvd e3
     go_wp2
     go_roundw
     case rel=>exact⟨Y,t',vs.set t' ((X:Nat):Int),rfl,by omega,rfl,hqd,ħ (by rw[List.length_set];exact hvl.o),HD2,HO2,HW2⟩
     case measure=>simp only[intOf];omega
    ·obtain rfl:t=0:=by omega
     have HV:Hid (Zmj i m k=Zc1 (Zat i) (0::vs) i):=ħ (by
      have:=hvd.o
      rw[Zji,List.drop_zero,List.nil_append] at this
      unfold Zmj Zfe;rw[this])
     rw[show (((0:Nat):Int)-1)=(-1:Int) by omega]
     go_wp2
     go_ret
     exact⟨⟨ro,rc,rfl,by rw[HV.o];exact ho.o⟩,hw.o⟩
end
section
theorem Z0f (n m k:Nat) (hm:m≤6):∃ ds:List Int,Zji (m+1) n k=ds∧ds.length=n∧∀ x∈ds,0≤x∧x≤65535:=by
 refine⟨_,rfl,Zfk _ _ _,fun x hx=>?_⟩
 have:=Zod (m+1) (by omega) n k x hx
 omega
theorem Zju {n:Nat} (hn:n≤3) {s:List Nat} (h:s∈Zat n):s=[120,46,97]∨s=[120,46,98]∨s=[121,46,97]:=by
 have:=List.mem_of_mem_take h
 simpa [Zl1] using this
theorem Z0g (n m k:Nat) (hn:n≤3) (hm:m≤6):vbP (Zmj n m k)=true∧∀ s,Zek (Zat n) s=true→Ziz (Zof (Zmj n m k)) s=some (gv (Zfe n m k) (Zcq (Zat n) s)):=by
 obtain⟨ds,h1,h2,h3⟩:=Z0f n m k hm
 unfold Zmj Zfe
 rw[h1]
 clear h1
 match n,hn,ds,h2,h3 with
 | 0,_,[],_,_=>exact⟨rfl,fun s hs=>by
   have:s=[]:=by simpa [Zek,Zat,Zl1] using hs
   subst this;rfl⟩
 | 1,_,[a],_,h3 =>
  have ha:=h3 a (by simp)
  refine⟨?_,fun s hs=>?_⟩
  ·show vbP [⟨[120,46,97],a⟩]=true
   simp[vbP,vbG,ha]
   decide
  ·have:s=[]∨s=[120,46,97]:=by simpa [Zek,Zat,Zl1] using hs
   rcases this with rfl | rfl<;>rfl
 | 2,_,[a,b],_,h3 =>
  have ha:=h3 a (by simp)
  have hb:=h3 b (by simp)
  refine⟨?_,fun s hs=>?_⟩
  ·show vbP [⟨[120,46,97],a⟩,⟨[120,46,98],b⟩]=true
   simp[vbP,vbG,ha,hb]
   decide
  ·have:s=[]∨s=[120,46,97]∨s=[120,46,98]:=by simpa [Zek,Zat,Zl1] using hs
   rcases this with rfl | rfl | rfl<;>rfl
 | 3,_,[a,b,c],_,h3 =>
  have ha:=h3 a (by simp)
  have hb:=h3 b (by simp)
  have hc:=h3 c (by simp)
  refine⟨?_,fun s hs=>?_⟩
  ·show vbP [⟨[120,46,97],a⟩,⟨[120,46,98],b⟩,⟨[121,46,97],c⟩]=true
   simp[vbP,vbG,ha,hb,hc]
   decide
  ·have:s=[]∨s=[120,46,97]∨s=[120,46,98]∨s=[121,46,97]:=by simpa [Zek,Zat,Zl1] using hs
   rcases this with rfl | rfl | rfl | rfl<;>rfl
def trK (n m:Nat) (p:Prd) (k:Nat):Bool:=Zas (fK (Zat n) (gv (Zfe n m k))) p
theorem Z37 (n m k:Nat) (hn:n≤3) (hm:m≤6) (p:Prd) (hv:Zav p=true) (hk:Zir (Zat n) (Zam p)):Zp6 p (Zmj n m k)=(trK n m p k,0):=by
 obtain⟨h1,h2⟩:=Z0g n m k hn hm
 unfold Zp6
 rw[if_neg (by rw[hv,h1];simp),if_neg]
 ·unfold trK
  congr 1
  refine Zli (fun x hx=>?_)
  have:=hk x ((Zbg p x).2 hx)
  unfold fV fK gvD
  rw[h2 _ this.1,h2 _ this.2];rfl
 ·rw[Bool.not_eq_false,List.all_eq_true]
  intro x hx
  have:=hk x hx
  unfold bdV
  rw[h2 _ this.1,h2 _ this.2];rfl
theorem Z0h (n m k:Nat) (hn:n≤3):BndOk (Zmj n m k):=⟨fun b hb=>by
 unfold Zmj Zc1 at hb
 obtain⟨i,hi,rfl⟩:=List.mem_map.1 hb
 have hi2:i<(Zat n).length:=by rw[Zbz hn];simpa using hi
 have:(Zat n).getD i []∈Zat n:=by rw[List.getD_eq_getElem?_getD,List.getElem?_eq_getElem hi2];exact List.getElem_mem _
 show NmB ((Zat n).getD i [])
 rcases Zju hn this with h | h | h<;>rw[h]<;>exact⟨by decide,by decide⟩⟩
theorem Zd5 (n m k:Nat):(Zmj n m k).length=n:=Zhc _ _ _
end
section
open Go.RowKit Go.Sort
theorem OwnK.bndR {w:World} {B n cap:Nat} {ao:Option Addr} {l:List Bnd} (h:OwnK w B 2 n cap (l.flatMap Zep) ao) (hn:n=l.length):Z2w w (fun _=>True) l ao:=by
 rcases h.flatR Zc9 hn with h | ⟨g,off,h1,h2,h3⟩
 ·exact .inl h
 ·exact .inr ⟨g,off,h1,trivial,h2,h3⟩
theorem Z0i (p:Prd) (w:World) (P:Nat→Prop) (vs:List Value) (B n m k:Nat) (hN:Zba p≤1000000) (hb:Zh8 p) (h:Zaj w P p vs) (hT:Tab w B) (hn:n≤3) (hm:m≤6) (hv:Zav p=true) (hk:Zir (Zat n) (Zam p))
  (W:World) (hW:Below w.heap.size w W) (ro:Option Addr) (rc:Nat) (hro:Z2w W (fun _=>True) (Zmj n m k) ro) :
  Calls Tryz.prog 42 #[.agg vs.toArray,.slice ro n rc] W fun e w'=>e = .returned (.tuple #[.bool (trK n m p k),.int .i64 0])∧Below W.heap.size W w':=by
 have:=Zp7 p W P (fun _=>True) vs B (Zmj n m k) ro n rc hN hb (h.below hW) (Zdg.step (w:=w) hT hW) (Zd5 n m k).symm (by omega) (Z0h n m k hn) hro
 rw[Z37 n m k hn hm p hv hk] at this
 exact this
theorem Zqv {g:Nat→Bool} {m k:Nat} (h:Zcg g m=some k):k<m∧g k=true∧∀ j,j<k→g j=false:=by
 unfold Zcg at h
 have h1:=List.find?_some h
 have h2:=List.mem_of_find?_eq_some h
 rw[List.mem_range] at h2
 refine⟨h2,h1,fun j hj=>?_⟩
 rw[List.find?_range_eq_some] at h
 have:=h.2.2 j hj
 simpa using this
end
section
open Go.RowKit Go.Sort
def Zj8 (n:Nat) (p:Prd):Bool:=(Zuw p).all (fun s=>(Zat n).contains s)
theorem Z0j {n:Nat} {p:Prd} (hv:Zav p=true):Zj8 n p=true↔Zir (Zat n) (Zam p):=by
 unfold Zj8 Zuw Zir
 rw[if_pos hv,List.all_eq_true]
 unfold Zj2 Zek
 constructor
 ·intro h k hk
  constructor
  ·by_cases e:k.l=[]
   ·rw[e];rfl
   ·rw[h k.l ((Zgk _ _).2 ⟨e,k,hk,.inl rfl⟩)];simp
  ·by_cases e:k.r=[]
   ·rw[e];rfl
   ·rw[h k.r ((Zgk _ _).2 ⟨e,k,hk,.inr rfl⟩)];simp
 ·intro h s hs
  obtain⟨h1,k,hk,h2⟩:=(Zgk _ _).1 hs
  rcases h2 with rfl | rfl
  ·have:=(h k hk).1
   simpa [h1] using this
  ·have:=(h k hk).2
   simpa [h1] using this
theorem Z7u {p:Prd} {s:List Nat} (h:s∈Zuw p):∀ y∈s,y<256:=by
 unfold Zuw at h
 by_cases hv:Zav p=true
 ·rw[if_pos hv] at h
  obtain⟨h1,k,hk,h2⟩:=(Zgk _ _).1 h
  have:=Zea p (Zf7 hv) k ((Zbg p k).1 hk)
  rcases h2 with rfl | rfl
  ·exact this.lb
  ·exact this.rb
 ·rw[if_neg hv] at h;cases h
theorem Z0k {n:Nat} (hn:n≤3):∀ s∈Zat n,∀ y∈s,y<256:=fun s hs=>by
 rcases Zju hn hs with h | h | h<;>subst h<;>decide
theorem Z0l (p:Prd) (hN:Zba p≤100000):(Zuw p).length≤1000000:=by
 unfold Zuw
 split
 ·unfold Zj2
  refine Nat.le_trans (Zvc _) ?_
  have:(Zam p).length≤Zba p:=Nat.le_trans (Zfn _ (Zb9 p) (Zln (Zf6 p)) (fun x hx=>(Zbg p x).1 hx)) (Zf5 p)
  omega
 ·simp
theorem Z8l (t:Array Value) (h:t.size=23):∃ f:Nat→Value,t=#[f 0,f 1,f 2,f 3,f 4,f 5,f 6,f 7,f 8,f 9,f 10,f 11,f 12,f 13,f 14,f 15,f 16,f 17,f 18,f 19,f 20,f 21,f 22]:=by
 obtain⟨l⟩:=t
 have hl:l.length=23:=h
 have e:l=(List.range 23).map (fun i=>l.getD i undef):=by
  apply List.ext_getElem
  ·simp[hl]
  ·intro i h1 h2
   simp[List.getD,h1]
 exact⟨fun i=>l.getD i undef,congrArg List.toArray e⟩
theorem Z0m (i:Nat) (h:i<8):i=0∨i=1∨i=2∨i=3∨i=4∨i=5∨i=6∨i=7:=by omega
def knF (n g off c cp j:Nat) (y:ByteArray) (R:Bool) (i:Nat) (W:World) (v:Value):Prop:=match i with
 | 0=>v = .int .i64 (n:Nat)
 | 1=>∃ so,v = .slice so n 3∧Zcd W so (Zat n)
 | 2=>v = .slice (some ⟨g,off,none⟩) c cp
 | 3=>v = .int .i64 (j:Nat)
 | 4=>v = .pointer (some ⟨g,off+j,none⟩)
 | 5=>v = .string y
 | 6=>v = .bool R
 | 7=>v = .bool (!R)
 | _=>True
theorem Z38 (n g off c cp j:Nat) (y:ByteArray) (R:Bool):∀ i w w' v,knF n g off c cp j y R i w v→Below w.heap.size w w'→knF n g off c cp j y R i w' v:=by
 intro i w w' v h hb
 match i with
 | 0=>exact h
 | 1=>obtain⟨so,h1,h2⟩:=h;exact⟨so,h1,h2.below hb⟩
 | 2=>exact h
 | 3=>exact h
 | 4=>exact h
 | 5=>exact h
 | 6=>exact h
 | 7=>exact h
 | k+8=>trivial
theorem Z0n (p:Prd) (w:World) (P:Nat→Prop) (vs:List Value) (B n:Nat) (hN:Zba p≤100000) (hb:Zh8 p) (h:Zaj w P p vs) (hT:Tab w B) (hn:n≤3) :
  Calls Tryz.prog 53 #[.agg vs.toArray,.int .i64 n] w fun e w'=>e = .returned (.bool (Zj8 n p))∧Below w.heap.size w w':=by
 obtain⟨xa,xn,xc,rfl,-⟩:=h.form
 have HNA:=ħ (fun W (hW:Below w.heap.size w W)=>Zv9 p W P _ B (by omega) hb (h.below hW) (Zdg.step (w:=w) hT hW))
 have HSM:=ħ (fun W=>Zl2 n hn W)
 have HL:=ħ (Z0l p hN)
 have HBY:=ħ (fun s (hs:s∈Zuw p)=>Z7u hs)
 have HKB:Hid (Zj8 n p=(Zuw p).all (fun s=>(Zat n).contains s)):=ħ rfl
 have HSB:=ħ (Z0k hn)
 have HSL:=ħ (Zbz hn)
 generalize Zj8 n p=RES at *
 generalize Zuw p=NS at *
 generalize p.k=q0 at *
 generalize Zad p.l=q1 at *
 generalize Zad p.r=q2 at *
 generalize p.c=q3 at *
 have bx:=(Below.refl w.heap.size w).alloc (Nat.le_refl _) (.cells #[.int .i64 q0,.string q1,.string q2,.int .i64 q3,.slice xa xn xc] 25)
 have B1:=ħ bx
 have Y1:Hid (Zah (w.alloc (.cells #[.int .i64 q0,.string q1,.string q2,.int .i64 q3,.slice xa xn xc] 25)) w.heap.size 25 [.int .i64 q0,.string q1,.string q2,.int .i64 q3,.slice xa xn xc]):=ħ (heap_alloc_new w _)
 clear bx h hT hN hb
 go_enter Tryz.func53,Tryz.ntmps53
 go_upto_region 1 with (fail)
 generalize w.alloc (.cells #[.int .i64 q0,.string q1,.string q2,.int .i64 q3,.slice xa xn xc] 25)=w1 at *
 go_wp2_with (refine wpList_load_row rfl 25 (.tmp 2) rfl w.heap.size ?x1 25 #[.int .i64 q0,.string q1,.string q2,.int .i64 q3,.slice xa xn xc] (0,0) _ Y1.o Tryz.underlying25 rfl (Zae _ rfl) ?_;(case x1=>rfl))
 refine (HNA.o w1 B1.o).mono ?_
 rintro e w2 ⟨ao,cp,rfl,ho,b2⟩
 have HO:=ħ (ho.strsR rfl)
 have B2:=ħ (B1.o.trans (b2.mono B1.o.size))
 clear ho b2 B1 HNA
 obtain⟨c,hc⟩:∃ c,NS.length=c:=⟨_,rfl⟩
 have HC:=ħ hc
 rw[hc] at HL ⊢
 clear hc
 have hlb:=HL.o
 go_wp2_with fail
 go_loopw [6] (fun iv wr=>∃ (j:Nat),iv = .int .i64 j∧j≤c∧Hid ((NS.take j).all (fun s=>(Zat n).contains s)=true)∧Hid (Below w2.heap.size w2 wr)) (fun i _=>(c-intOf i).toNat)
 case atStart=>exact⟨0,rfl,by omega,ħ (by simp),ħ (Below.refl _ _)⟩
 case round =>
  obtain⟨j,rfl,hi,hno,hw⟩:=hrel
  have e2:IntKind.i64.wrap ((j:Int)+1)=((j+1:Nat):Int):=IntWalk.i64_in _ (by omega)
  by_cases hlt:j<c
  ·have ii:(j:Int)<c:=by omega
   obtain⟨s,hs⟩:∃ s,NS[j]?=some s:=⟨_,List.getElem?_eq_getElem (by rw[HC.o];exact hlt)⟩
   obtain⟨g,off,hao,hg,hce⟩:=(HO.o.below hw.o).at j s hs
   have HCE:=ħ (fun W (hW:Below wr.heap.size wr W)=>(World.cell?_of_block (a:=⟨g,off+j,none⟩) (hW.block g hg)).trans hce)
   have HAO:=ħ hao
   subst hao
   have HST:Hid ((NS.take (j+1)).all (fun s=>(Zat n).contains s)=((NS.take j).all (fun s=>(Zat n).contains s)&&(Zat n).contains s)):=ħ (by rw[List.take_add_one,hs,List.all_append];simp)
   have HAN:=ħ (fun (h:(Zat n).contains s=false)=>(show NS.all (fun s=>(Zat n).contains s)=false from by
    rw[Bool.eq_false_iff]
    intro h2
    rw[List.all_eq_true] at h2
    have h3:=h2 s (List.mem_of_getElem? hs)
    rw[h] at h3
    cases h3))
   have HHS:=ħ (fun W so (hso:Zcd W so (Zat n))=>rhas_any' so n 3 (Zat n) s W HSL.o.symm (by omega) hso (HBY.o s (List.mem_of_getElem? hs)) HSB.o)
   obtain⟨R,hR⟩:∃ R,(Zat n).contains s=R:=⟨_,rfl⟩
   rw[hR] at HHS HST HAN
   clear hs hg hce hR
   generalize Zad s=y at *
   have W0:=ħ (B2.o.trans (hw.o.mono B2.o.size))
   go_upto_region 5 with (fail)
   clear ii
   refine Zfu (knF n g off c cp j y R) (by kernel_rfl) (Z38 n g off c cp j y R) (Ze4 (by kernel_rfl)) (Zty (by kernel_rfl)) (Zdl (by kernel_rfl)) ?hs ?he
   case hs =>
    intro i o hi listed a' w' H hl2
    have hl3:=Za8 hl2
    have hin:i<8:=(Array.getElem?_eq_some_iff.1 hi).1
    have hb:=ħ H.below
    have s1:=H.same 1 (Zan (by kernel_rfl))
    have s5:=H.same 5 (Zan (by kernel_rfl))
    have s6:=H.same 6 (Zan (by kernel_rfl))
    have hdn:=H.done
    have hdf:=H.defers
    have hts:=H.tsize
    clear hl2 H
    obtain⟨t',df⟩:=a'
    obtain⟨f',rfl⟩:=Z8l t' hts
    have hdf':df=[]:=hdf
    subst hdf'
    have gs1:f' 1 = .int .i64 (n:Nat):=s1
    have gs5:f' 5 = .slice (some ⟨g,off,none⟩) c cp:=s5
    have gs6:f' 6 = .int .i64 (j:Nat):=s6
    clear s1 s5 s6
    clear hdf hts
    have hcases:=Z0m i hin
    clear hin
    rcases hcases with rfl | rfl | rfl | rfl | rfl | rfl | rfl | rfl
    ·obtain rfl:=Option.some.inj hi
     clear hdn hl3
     rw[gs1]
     clear gs1 gs5 gs6
     refine Zac rfl ?_
     go_wp2_with fail
     exact Zaa ⟨_,rfl,Below.refl _ _,rfl⟩
    ·obtain rfl:=Option.some.inj hi
     have dv0:f' 15 = .int .i64 (n:Nat):=hdn 0 _ 15 rfl (hl3 0 (by rfl)) rfl
     clear hdn hl3
     rw[dv0]
     clear dv0 gs1 gs5 gs6
     refine Zac rfl ?_
     go_wp2_with fail
     refine (HSM.o w').mono ?_
     rintro e w4 ⟨so,rfl,hs,b4⟩
     have HS:=ħ hs
     have HB4:=ħ b4
     clear hs b4
     go_wp2_with fail
     exact Zaa ⟨_,rfl,HB4.o,so,rfl,HS.o⟩
    ·obtain rfl:=Option.some.inj hi
     clear hdn hl3
     rw[gs5]
     clear gs1 gs5 gs6
     refine Zac rfl ?_
     go_wp2_with fail
     exact Zaa ⟨_,rfl,Below.refl _ _,rfl⟩
    ·obtain rfl:=Option.some.inj hi
     clear hdn hl3
     rw[gs6]
     clear gs1 gs5 gs6
     refine Zac rfl ?_
     go_wp2_with fail
     exact Zaa ⟨_,rfl,Below.refl _ _,rfl⟩
    ·obtain rfl:=Option.some.inj hi
     have dv2:f' 17 = .slice (some ⟨g,off,none⟩) c cp:=hdn 2 _ 17 rfl (hl3 2 (by rfl)) rfl
     have dv3:f' 18 = .int .i64 (j:Nat):=hdn 3 _ 18 rfl (hl3 3 (by rfl)) rfl
     clear hdn hl3
     rw[dv2,dv3]
     clear dv2 dv3 gs1 gs5 gs6
     have ii:(j:Int)<c:=by omega
     refine Zac rfl ?_
     go_wp2_with fail
     exact Zaa ⟨_,rfl,Below.refl _ _,rfl⟩
    ·obtain rfl:=Option.some.inj hi
     have dv4:f' 19 = .pointer (some ⟨g,off+j,none⟩):=hdn 4 _ 19 rfl (hl3 4 (by rfl)) rfl
     clear hdn hl3
     rw[dv4]
     clear dv4 gs1 gs5 gs6
     have c0:=HCE.o w' hb.o
     refine Zac rfl ?_
     go_wp2_with fail
     exact Zaa ⟨_,rfl,Below.refl _ _,rfl⟩
    ·obtain rfl:=Option.some.inj hi
     have dv1:knF n g off c cp j y R 1 w' (f' 16):=hdn 1 _ 16 rfl (hl3 1 (by rfl)) rfl
     obtain⟨so,dv1,hso⟩:=dv1
     have dv5:f' 20 = .string y:=hdn 5 _ 20 rfl (hl3 5 (by rfl)) rfl
     clear hdn hl3
     rw[dv1,dv5]
     clear dv1 dv5 gs1 gs5 gs6
     have HSO:=ħ hso
     clear hso
     refine Zac rfl ?_
     go_wp2_with fail
     refine (HHS.o w' so HSO.o).mono ?_
     rintro e w4 ⟨rfl,rfl⟩
     go_wp2_with fail
     exact Zaa ⟨_,rfl,Below.refl _ _,rfl⟩
    ·obtain rfl:=Option.some.inj hi
     have dv6:f' 21 = .bool R:=hdn 6 _ 21 rfl (hl3 6 (by rfl)) rfl
     clear hdn hl3
     rw[dv6]
     clear dv6 gs1 gs5 gs6
     refine Zac rfl ?_
     go_wp2_with fail
     exact Zaa ⟨_,rfl,Below.refl _ _,rfl⟩
   case he =>
    intro listed a' w4 H hall
    have hd7:knF n g off c cp j y R 7 w4 (a'.tmps.getD 22 undef):=H.done 7 _ 22 rfl (hall 7 (by decide)) rfl
    have hb4:=ħ H.below
    have hact:=H.act [15,16,17,18,19,20,21,22] (Zt1 (by kernel_rfl))
    clear H hall
    simp only[List.foldl_cons,List.foldl_nil] at hact
    generalize a'.tmps.getD 15 undef=z15 at *
    generalize a'.tmps.getD 16 undef=z16 at *
    generalize a'.tmps.getD 17 undef=z17 at *
    generalize a'.tmps.getD 18 undef=z18 at *
    generalize a'.tmps.getD 19 undef=z19 at *
    generalize a'.tmps.getD 20 undef=z20 at *
    generalize a'.tmps.getD 21 undef=z21 at *
    generalize a'.tmps.getD 22 undef=z22 at *
    subst hact
    have e7:z22 = .bool (!R):=hd7
    subst e7
    clear hd7
    simp only[Act.put,List.setIfInBounds_toArray,List.set_cons_succ,List.set_cons_zero]
    have W4:=ħ (hw.o.trans (hb4.o.mono hw.o.size))
    have W5:=ħ (B2.o.trans (W4.o.mono B2.o.size))
    clear hb4 hw W0
    cases R with
    | false =>
     go_wp2
     go_ret
     exact⟨Zaf (by rw[HKB.o];exact (HAN.o trivial).symm),W5.o⟩
    | true =>
     go_wp2
     go_roundw
     case rel=>exact⟨j+1,by go_num,by omega,ħ (by rw[HST.o,hno.o];rfl),W4⟩
     case measure=>simp only[intOf];omega
  ·have ii:¬ ((j:Int)<c):=by omega
   have W5:=ħ (B2.o.trans (hw.o.mono B2.o.size))
   go_wp2
   go_ret
   exact⟨Zaf (by rw[HKB.o,← hno.o,List.take_of_length_le (by rw[HC.o];omega)]),W5.o⟩
end
section
theorem Zjv {n m:Nat} (h1:1≤n) (hn:n≤3) (hm:m≤6):Zc0 (Zat n) (m:Int)=true:=by
 unfold Zc0
 rw[Zbz hn]
 have h2:Zwa (Zat n)=true∧(Zat n).all Zbj=true:=by
  match n,h1,hn with
  | 1,_,_=>exact⟨by decide,by decide⟩
  | 2,_,_=>exact⟨by decide,by decide⟩
  | 3,_,_=>exact⟨by decide,by decide⟩
 simp[h2]
 omega
structure GoP (n:Nat) (p:Prd):Prop where
 valid:Zav p=true
 known:Zir (Zat n) (Zam p)
theorem GoP.ok {n:Nat} {p:Prd} (h:GoP n p):okQ (Zat n) p=true:=Zlt h.valid h.known
theorem Z39 {n m:Nat} {p:Prd} (h1:1≤n) (hn:n≤3) (hm:m≤6) (h:GoP n p):Zby (Zat n) (m:Int) [p]=if 8<(Zak [p]).length then 6 else 0 :=
 Zls (fun q hq=>by rw[List.mem_singleton.1 hq];exact h.ok) (Zjv h1 hn hm)
end
section
open Go.RowKit Go.Sort
theorem Z0o {n:Nat} (hn:n≤3):∀ s∈Zat n,NmB s:=fun s hs=>by
 rcases Zju hn hs with h | h | h<;>subst h<;>exact⟨by decide,by decide⟩
theorem Z4a {n:Nat} (h1:1≤n) (hn:n≤3):Zkf (Zat n):=(Zec (Zjv (m:=0) h1 hn (by omega))).1
theorem Z5n {n m:Nat} (hn:n≤3) (hm:m≤6):(m+1)^n≤343:=by
 have h1:(m+1)^n≤7^n:=Nat.pow_le_pow_left (by omega) n
 have h2:7^n≤7^3:=Nat.pow_le_pow_right (by omega) (by omega)
 omega
end
section
open Go.RowKit Go.Sort
theorem Zl3 {g:Nat→Bool} {m:Nat} (h:Zcg g m=none):∀ j,j<m→g j=false:=fun j hj=>by
 unfold Zcg at h
 have:=List.find?_eq_none.1 h j (List.mem_range.2 hj)
 simpa using this
theorem Zqw {g:Nat→Bool} {m k:Nat} (hk:k<m) (h:g k=true) (hj:∀ j,j<k→g j=false):Zcg g m=some k:=by
 unfold Zcg
 exact (List.find?_range_eq_some (p:=g) (i:=k) (n:=m)).2 ⟨h,List.mem_range.2 hk,fun j h1=>by rw[hj j h1];rfl⟩
theorem Zqx {g:Nat→Bool} {m:Nat} (h:∀ j,j<m→g j=false):Zcg g m=none:=by
 unfold Zcg
 exact List.find?_eq_none.2 (fun x hx=>by rw[h x (List.mem_range.1 hx)];simp)
theorem Zwp {n m:Nat} (hn:n≤3) {ps:List Prd} (hk:Zir (Zat n) (Zak ps)) (f:List Bool→Bool) (g:Nat→Bool) (hg:∀ k,f (trU (Zat n) ps (gv (Zfe n m k)))=g k) :
  Zff (Zat n) (m:Int) (Zak ps) ps f=(Zcg g ((m+1)^n)).map (Zfe n m):=by
 obtain⟨h1,h2⟩:=Z2t (most:=(m:Int)) hk f
 unfold Zff
 rw[Zbz hn] at h1 h2
 cases hf:(Zbm (Zat n) (m:Int) (Zak ps) ps).find? (fun c=>f c.2) with
 | none =>
  have h3:=h2 hf
  rw[Zqx (fun j hj=>by
   rw[← hg j]
   exact h3 _ ((Ziu n m _).2 ⟨j,hj,rfl⟩))];rfl
 | some c =>
  obtain⟨a1,a2,a3,a4⟩:=h1 c hf
  obtain⟨k,hk,he,b1,b2⟩:=Zyr (fun v=>f (trU (Zat n) ps (gv v))) a1 a3 a4
  rw[Zqw hk (by rw[← hg k];exact b1) (fun j hj=>by rw[← hg j];exact b2 j hj)]
  show some c.1=some (Zfe n m k)
  rw[he]
theorem GoP.comps {n:Nat} {ps:List Prd} (h:∀ p∈ps,GoP n p):Zir (Zat n) (Zak ps):=Zym (fun k hk=>by
 obtain⟨p,hp,hk⟩:=List.mem_flatMap.1 hk
 exact (h p hp).known k hk)
theorem Z4b {n m:Nat} (hn:n≤3) {p:Prd} (h:GoP n p):Zff (Zat n) (m:Int) (Zak [p]) [p] (fun l=>l.getD 0 false)=(Zcg (trK n m p) ((m+1)^n)).map (Zfe n m) :=
 Zwp hn (GoP.comps (fun q hq=>by rw[List.mem_singleton.1 hq];exact h)) _ _ (fun k=>rfl)
def Zw9 (n m:Nat) (c:Int) (r:Option Nat):List Bnd:=if c=0 then (match r with | some k=>Zmj n m k | none=>[]) else []
theorem Zlw.asg {n m:Nat} (hn:n≤3) {w w':World} {c:Int} {r:Option Nat} {b:Bool} {e:Ending} (h:Zlw w (Zat n) c (r.map (Zfe n m)) b e w') :
  ∃ ro rc,e = .returned (.tuple #[.slice ro (Zw9 n m c r).length rc,.bool (decide (c=0)&&b),.int .i64 c])∧Za1 Zep w' ro (Zw9 n m c r)∧Below w.heap.size w w':=by
 obtain⟨h1,h2⟩:=h
 unfold Zw9
 by_cases hc:c=0
 ·rw[if_pos hc] at h1 ⊢
  obtain⟨v,rfl,hv⟩:=h1
  subst hc
  cases r with
  | none =>
   have hv:v = .slice none 0 0:=hv
   subst hv
   exact⟨none,0,by simp,.inl rfl,h2⟩
  | some k =>
   obtain⟨ro,rc,rfl,ho⟩:=hv
   rw[← Z0c hn,Zbz hn] at ho
   exact⟨ro,rc,by simp[Zd5,Zbz hn],ho.flatR Zc9 (Zd5 n m k).symm,h2⟩
 ·rw[if_neg hc] at h1 ⊢
  subst h1
  exact⟨none,0,by simp[hc],.inl rfl,h2⟩
end
section
open Go.RowKit Go.Sort
theorem Zlw.one {n m:Nat} (h1:1≤n) (hn:n≤3) (hm:m≤6) {p:Prd} (g:GoP n p) {w w':World} {e:Ending} (h:Zlw w (Zat n) (Zby (Zat n) (m:Int) [p]) (Zff (Zat n) (m:Int) (Zak [p]) [p] (fun l=>l.getD 0 false)) (Zff (Zat n) (m:Int) (Zak [p]) [p] (fun l=>l.getD 0 false)).isSome e w') :
  ∃ ro rc,e = .returned (.tuple #[.slice ro (Zw9 n m (if 8<(Zak [p]).length then (6:Int) else 0) (Zcg (trK n m p) ((m+1)^n))).length rc,.bool (decide ((if 8<(Zak [p]).length then (6:Int) else 0)=0)&&(Zcg (trK n m p) ((m+1)^n)).isSome),.int .i64 (if 8<(Zak [p]).length then (6:Int) else 0)])∧Za1 Zep w' ro (Zw9 n m (if 8<(Zak [p]).length then (6:Int) else 0) (Zcg (trK n m p) ((m+1)^n)))∧Below w.heap.size w w':=by
 rw[Z4b hn g,Z39 h1 hn hm g] at h
 have:=Zlw.asg hn h
 rwa [Option.isSome_map] at this
theorem Z0p {n:Nat} (hn:n≤3) (m k:Nat):∀ b∈Zmj n m k,NmB b.n:=(Z0h n m k hn).nm
theorem Z0q (k n m:Nat) (hn:n≤3) (W:World) (lo ro:Option Addr) (lc rc:Nat) (hl:Za1 Zep W lo (Zmj n m k)) (hr:Za1 Zep W ro (Zmj n m k)) :
  Calls Tryz.prog 59 #[.slice lo n lc,.slice ro n rc] W fun e w'=>e = .returned (.bool true)∧Below W.heap.size W w' :=
 (Zd2 W lo ro n n lc rc _ _ (Zd5 n m k).symm (Zd5 n m k).symm hl hr (Z0p hn m k) (Z0p hn m k) (by omega) (by omega)).mono (fun e w' h=>by
  rw[decide_eq_true rfl] at h
  exact h)
theorem Zwq (i:Nat) (h:i<12):i=0∨i=1∨i=2∨i=3∨i=4∨i=5∨i=6∨i=7∨i=8∨i=9∨i=10∨i=11:=by omega
end
section
def Zcm (ps:List Prd):Prd:=.mk 1 [] [] 0 ps
structure AtomOk (n:Nat) (q:Prd):Prop where
 atom:Zfy q.k q.l q.r q.c q.ks.length=true
 known:Zj8 n q=true
theorem AtomOk.parts {n:Nat} {q:Prd} (h:AtomOk n q):q = .mk 0 q.l q.r q.c []:=by
 have:=h.atom
 unfold Zfy at this
 simp only[Bool.and_eq_true,beq_iff_eq] at this
 cases q with
 | mk k l r c ks =>
  obtain⟨h1,h2,-⟩:=this
  have h1:k=0:=h1
  have h2:ks.length=0:=h2
  rw[h1,List.eq_nil_of_length_eq_zero h2];rfl
theorem AtomOk.form {n:Nat} {q:Prd} (h:AtomOk n q):Zct q=true:=by
 have h2:=h.atom
 have h3:=h.parts
 rw[h3,Zix,if_pos rfl]
 rw[h3] at h2
 exact h2
theorem Zvg {l r:List Nat} {c:Int}:Zba (.mk 0 l r c [])=1∧Zms (.mk 0 l r c [])=1:=⟨by simp[Zba,Zb8],by simp[Zms,Zw5]⟩
theorem AtomOk.valid {n:Nat} {q:Prd} (h:AtomOk n q):Zav q=true:=by
 unfold Zav Zei
 have h3:=h.parts
 have h4:Zba q=1∧Zms q=1:=by rw[h3];exact Zvg
 rw[h.form,h4.1,h4.2];rfl
theorem AtomOk.knw {n:Nat} {q:Prd} (h:AtomOk n q):Zek (Zat n) q.l=true∧Zek (Zat n) q.r=true:=by
 have:=(Z0j h.valid).1 h.known (Zj0 q) ((Zbg q _).2 (by
  rw[h.parts];simp[Zb9,Zbx,Zj0,Prd.l,Prd.r,Prd.c]))
 exact this
theorem AtomOk.okk {n:Nat} {q:Prd} (h:AtomOk n q):okA (Zat n) q=true:=by
 unfold okA
 rw[h.atom,h.knw.1,h.knw.2];rfl
theorem Znn {n:Nat}:∀ ps:List Prd,(∀ q∈ps,AtomOk n q)→Zb8 ps=ps.length∧Zw5 ps≤1∧Zh7 ps=true
 | [],_=>⟨by simp[Zb8],by simp[Zw5],by simp[Zh7]⟩
 | p::ps,h=>by
  have hp:=h p (List.mem_cons_self ..)
  obtain⟨a,b,c⟩:=Znn ps (fun q hq=>h q (List.mem_cons_of_mem _ hq))
  have h4:Zba p=1∧Zms p=1:=by rw[hp.parts];exact Zvg
  refine⟨?_,?_,?_⟩
  ·simp[Zb8,a,h4.1];omega
  ·simp[Zw5,h4.2];omega
  ·simp[Zh7,hp.form,c]
theorem Z7v {n:Nat} {ps:List Prd} (h2:2≤ps.length) (h8:ps.length≤8) (h:∀ q∈ps,AtomOk n q):GoP n (Zcm ps):=by
 obtain⟨a,b,c⟩:=Znn ps h
 have hf:Zct (Zcm ps)=true:=by
  unfold Zcm
  rw[Zix,if_neg (by decide)]
  have hn:(ps.any fun q=>!Zct q)=false:=by
   rw[List.any_eq_false]
   intro q hq
   rw[(h q hq).form];decide
  have hB:Zsc 1 ps.length 0=true:=by
   unfold Zsc
   rw[decide_eq_true h2];rfl
  rw[hn,hB];rfl
 refine⟨?_,fun k hk=>?_⟩
 ·unfold Zav Zei
  rw[hf]
  simp[Zcm,Zba,Zms,a]
  omega
 ·have hk:=(Zbg _ _).1 hk
  unfold Zcm Zb9 at hk
  rw[if_neg (by decide),List.nil_append] at hk
  have key:∀ qs:List Prd,(∀ q∈qs,AtomOk n q)→∀ k∈Zbx qs,Zek (Zat n) k.l=true∧Zek (Zat n) k.r=true:=fun qs=>by
   induction qs with
   | nil=>intro _ k hk;simp[Zbx] at hk
   | cons q qs ih =>
    intro hq k hk
    unfold Zbx at hk
    rcases List.mem_append.1 hk with hk | hk
    ·have:=hq q (List.mem_cons_self ..)
     rw[this.parts] at hk
     simp[Zb9,Zbx] at hk
     subst hk
     exact this.knw
    ·exact ih (fun x hx=>hq x (List.mem_cons_of_mem _ hx)) k hk
  exact key ps h k hk
theorem Zqy (f:Ky→Bool):∀ ps:List Prd,Zjh f ps=ps.length↔∀ q∈ps,Zas f q=true
 | []=>by simp[Zjh]
 | p::ps=>by
  have ih:=Zqy f ps
  have hle:=Zsg f ps
  unfold Zjh
  rw[List.length_cons]
  constructor
  ·intro h q hq
   by_cases hp:Zas f p=true
   ·rw[if_pos hp] at h
    rcases List.mem_cons.1 hq with rfl | hq
    ·exact hp
    ·exact ih.1 (by omega) q hq
   ·rw[if_neg hp] at h;omega
  ·intro h
   rw[if_pos (h p (List.mem_cons_self ..)),ih.2 (fun q hq=>h q (List.mem_cons_of_mem _ hq))];omega
theorem Z7w {n m k:Nat} {ps:List Prd} (h:∀ q∈ps,AtomOk n q):trK n m (Zcm ps) k=true↔∀ x∈ps.map Zj0,fK (Zat n) (gv (Zfe n m k)) x=true:=by
 unfold trK Zcm Zas
 rw[if_neg (by decide),if_pos rfl,beq_iff_eq,Zqy]
 have key:∀ q∈ps,Zas (fK (Zat n) (gv (Zfe n m k))) q=fK (Zat n) (gv (Zfe n m k)) (Zj0 q):=fun q hq=>by
  have:=(h q hq).parts
  rw[this,Zas,if_pos rfl];rfl
 constructor
 ·intro h2 x hx
  obtain⟨q,hq,rfl⟩:=List.mem_map.1 hx
  rw[← key q hq];exact h2 q hq
 ·intro h2 q hq
  rw[key q hq];exact h2 _ (List.mem_map.2 ⟨q,hq,rfl⟩)
theorem Zs7 {n m:Nat} (h1:1≤n) (hn:n≤3) (hm:m≤6) {ps:List Prd} (h:∀ q∈ps,AtomOk n q) :
  Zgo (Zat n) (m:Int) ps=(Zcg (trK n m (Zcm ps)) ((m+1)^n)).map (Zfe n m) ∧
  ∀ k0,Zcg (trK n m (Zcm ps)) ((m+1)^n)=some k0→∀ k,k<(m+1)^n→trK n m (Zcm ps) k=true→∀ i,i<n→gv (Zfe n m k0) (i+1)≤gv (Zfe n m k) (i+1):=by
 have hl:=Zbz hn
 have hr:Zgn (Zat n) (m:Int) ps=some (Zcc (Zat n) (m:Int) (ps.map Zj0)):=Zqd (Zjv h1 hn hm) (fun p hp=>(h p hp).okk)
 have hK:Zir (Zat n) (ps.map Zj0):=fun k hk=>by
  obtain⟨q,hq,rfl⟩:=List.mem_map.1 hk
  exact (h q hq).knw
 have hI:=Zeo hK (m:Int)
 have hs:∀ k,k<(m+1)^n→(SolC ((Zat n).length+1) (Zcc (Zat n) (m:Int) (ps.map Zj0)) (gv (Zfe n m k))↔trK n m (Zcm ps) k=true):=fun k hk=>by
  rw[Zg8,Z7w h]
  have:=((Ziu n m _).2 ⟨k,hk,rfl⟩).asg
  rw[← hl] at this
  exact⟨fun x=>x.2,fun x=>⟨by rw[hl] at this ⊢;exact this,x⟩⟩
 unfold Zgo
 rw[hr]
 show Zdk (Zat n).length _=_∧_
 cases hv:Zdk (Zat n).length (Zcc (Zat n) (m:Int) (ps.map Zj0)) with
 | none =>
  have hno:=Zk6 hI hv
  have hf:Zcg (trK n m (Zcm ps)) ((m+1)^n)=none:=Zqx (fun j hj=>by
   cases ht:trK n m (Zcm ps) j with
   | false=>rfl
   | true=>exact absurd ((hs j hj).2 ht) (hno _))
  rw[hf]
  exact⟨rfl,fun k0 h0=>by cases h0⟩
 | some v =>
  obtain⟨a1,a2,a3⟩:=Zcn hI hv
  have hA:AsgL n (m:Int) v:=⟨by rw[a1,hl],by have:=(Zg8.1 a2).1;rw[hl] at this;exact this⟩
  obtain⟨k0,hk0,rfl⟩:=(Ziu n m v).1 hA
  have ht0:=(hs k0 hk0).1 a2
  have hmin:∀ k,k<(m+1)^n→trK n m (Zcm ps) k=true→∀ i,i<n+1→gv (Zfe n m k0) i≤gv (Zfe n m k) i:=fun k hk ht i hi=>a3 _ ((hs k hk).2 ht) i (by rw[hl];exact hi)
  have hf:Zcg (trK n m (Zcm ps)) ((m+1)^n)=some k0:=Zqw hk0 ht0 (fun j hj=>by
   cases ht:trK n m (Zcm ps) j with
   | false=>rfl
   | true =>
    have h5:=hmin j (by omega) ht
    have h6:Zex (Zfe n m k0) (Zfe n m j)≤0:=Zst _ _ (by simp[Zfe,Zfk]) (fun i=>by
     by_cases hi:i<n+1
     ·exact h5 i hi
     ·unfold gv
      rw[List.getD_eq_getElem?_getD,List.getElem?_eq_none (by simp[Zfe,Zfk];omega),List.getD_eq_getElem?_getD,List.getElem?_eq_none (by simp[Zfe,Zfk];omega)]
      exact Int.le_refl _)
    have h7:=Zyq n m j k0 hj hk0
    have h8:=Zc7 (Zfe n m j) (Zfe n m k0)
    omega)
  rw[hf]
  exact⟨rfl,fun k1 h1' k hk ht i hi=>by cases h1';exact hmin k hk ht (i+1) (by omega)⟩
end
end Go.Proofs.YtmkdfbelbcocpaaGreatDoor
