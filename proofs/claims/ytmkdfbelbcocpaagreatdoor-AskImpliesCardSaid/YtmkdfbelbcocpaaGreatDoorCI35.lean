import Derived.Test.YtmkdfbelbcocpaaGreatDoorCI34
import Derived.Test.YtmkdfbelbcocpaaGreatDoorCI25
import Derived.Test.YtmkdfbelbcocpaaGreatDoorCI23
import Derived.Test.YtmkdfbelbcocpaaGreatDoorCI20
import Derived.Test.YtmkdfbelbcocpaaGreatDoorCI22
import Derived.Test.YtmkdfbelbcocpaaGreatDoorCI10
set_option linter.unusedVariables false
set_option linter.unusedSimpArgs false
set_option maxHeartbeats 16000000
set_option maxRecDepth 100000
namespace Go.Proofs.YtmkdfbelbcocpaaGreatDoor
section
open Go.RowKit Go.Sort
def Zly:List (List Nat):=[[120,46,97],[120,46,98],[121,46,97]]
def Za0 (n:Nat):List (List Nat):=Zly.take n
theorem Zdn {n:Nat} (h:n≤3):(Za0 n).length=n:=by unfold Za0;rw[List.length_take];exact Nat.min_eq_left h
theorem Zlz (n:Nat) (hn:n≤3) (w:World) :
  Calls Tryz.prog 55 #[.int .i64 n] w fun e w'=>∃ ao,e = .returned (.slice ao n 3)∧Zcq w' ao (Za0 n)∧Below w.heap.size w w':=by
 have bx:=(Below.refl w.heap.size w).alloc (Nat.le_refl _) (.cells #[.string ⟨#[120,46,97]⟩,.string ⟨#[120,46,98]⟩,.string ⟨#[121,46,97]⟩] 9)
 have X1:Hid (Zah (w.alloc (.cells #[.string ⟨#[120,46,97]⟩,.string ⟨#[120,46,98]⟩,.string ⟨#[121,46,97]⟩] 9)) w.heap.size 9 [.string ⟨#[120,46,97]⟩,.string ⟨#[120,46,98]⟩,.string ⟨#[121,46,97]⟩]):=ħ (heap_alloc_new w _)
 have B1:=ħ bx
 clear bx
 have i0:(0:Int)≤n:=by omega
 have i3:(n:Int)≤3:=by omega
 go_enter Tryz.func55,Tryz.ntmps55
 go_wp2
 go_ret
 refine⟨_,rfl,.inr ⟨_,0,rfl,X1.o.lt,fun j u hj=>?_⟩,B1.o⟩
 have h3:(Zly.map Z3e)[j]?=some u:=by
  unfold Za0 at hj
  rw[List.map_take,List.getElem?_take] at hj
  by_cases h:j<n
  ·rwa [if_pos h] at hj
  ·rw[if_neg h] at hj;cases hj
 exact X1.o.readsR j u h3
theorem Z4f (n m:Nat) (hn:n≤3) (hm:m≤6) (w:World) :
  Calls Tryz.prog 57 #[.int .i64 n,.int .i64 m] w fun e w'=>e = .returned (.int .i64 (((m+1)^n:Nat):Int))∧w=w':=by
 have HP:Hid (∀ i,i≤n→(m+1)^i≤343):=ħ (fun i hi=>by
  have h1:(m+1)^i≤7^i:=Nat.pow_le_pow_left (by omega) i
  have h2:7^i≤7^3:=Nat.pow_le_pow_right (by omega) (by omega)
  omega)
 have e1:IntKind.i64.wrap ((m:Int)+1)=((m+1:Nat):Int):=IntWalk.i64_in _ (by omega)
 go_enter Tryz.func57,Tryz.ntmps57
 go_wp2_with fail
 go_loop [5,6] (fun o c=>∃ i:Nat,c = .int .i64 i∧i≤n∧o = .int .i64 (((m+1)^i:Nat):Int)) (fun o c=>(n-intOf c).toNat)
 case atStart=>exact⟨0,rfl,by omega,rfl⟩
 case round =>
  obtain⟨i,rfl,hi,rfl⟩:=hrel
  have e2:IntKind.i64.wrap ((i:Int)+1)=((i+1:Nat):Int):=IntWalk.i64_in _ (by omega)
  by_cases hlt:i<n
  ·have ii:(i:Int)<n:=by omega
   obtain⟨q,hq⟩:∃ q,(m+1)^i=q:=⟨_,rfl⟩
   obtain⟨r,hr⟩:∃ r,(m+1)^(i+1)=r:=⟨_,rfl⟩
   have HR:=ħ hr
   have hb:=HP.o (i+1) hlt
   rw[Nat.pow_succ] at hr
   rw[hq] at hr
   have e3:IntKind.i64.wrap ((q:Int)*((m:Int)+1))=(r:Int):=(by
    rw[show (q:Int)*((m:Int)+1)=((q*(m+1):Nat):Int) by simp,hr]
    exact IntWalk.i64_in _ (by rw[HR.o] at hb;omega))
   rw[hq]
   clear hq hr hb
   go_wp2
   go_round
   case rel=>exact⟨i+1,by go_num,by omega,by rw[HR.o]⟩
   case measure=>simp only[intOf];omega
  ·have ii:¬ ((i:Int)<n):=by omega
   obtain rfl:i=n:=by omega
   go_wp2
   go_ret
   exact⟨rfl,rfl⟩
end
section
open Go.RowKit Go.Sort
def Zkq (n most k:Nat):List Bnd:=Zc0 (Za0 n) (Zkc n most k) n
theorem Z66 {n:Nat} (h:n≤3) (most k:Nat):Zkq n most k=Zfb (Za0 n) (Zkc n most k):=by unfold Zkq Zfb;rw[Zdn h]
theorem Zpf {ns:List (List Nat)} {v:List Int} {j i:Nat} (h:i<j):(Zc0 ns v j)[i]?=some ⟨ns.getD i [],gv v (i+1)⟩:=by
 unfold Zc0
 rw[List.getElem?_map,List.getElem?_range h];rfl
theorem Z0g (ns:List (List Nat)) (vs:List Int) (j i:Nat) (x:Int) (h:i<vs.length):Zc0 ns (0::vs.set i x) j=(Zc0 ns (0::vs) j).set i ⟨ns.getD i [],x⟩:=by
 apply List.ext_getElem?
 intro t
 by_cases ht:t<j
 ·rw[Zpf ht,List.getElem?_set]
  by_cases e:i=t
  ·subst e
   rw[if_pos rfl,if_pos (by rw[Zg5];exact ht)]
   rw[show (0::vs.set i x)=(0::vs).set (i+1) x from rfl,Zgn _ _ _ _ (by simp;omega),if_pos rfl]
  ·rw[if_neg e,Zpf ht]
   rw[show (0::vs.set i x)=(0::vs).set (i+1) x from rfl,Zgn _ _ _ _ (by simp;omega),if_neg (by omega)]
 ·rw[List.getElem?_eq_none (by rw[Zg5];omega),List.getElem?_eq_none (by rw[List.length_set,Zg5];omega)]
theorem Z4g {b i k k0 n:Nat} {vs:List Int} (hv:vs.length=n) (hi:i<n) (h:Zja b n k0=Zja b (i+1) k++vs.drop (i+1)):Zja b n k0=Zja b i (k/b)++(vs.set i ((k%b:Nat):Int)).drop i:=by
 rw[h]
 have:(vs.set i ((k%b:Nat):Int)).drop i=((k%b:Nat):Int)::vs.drop (i+1):=by
  rw[List.drop_eq_getElem_cons (by rw[List.length_set];omega),List.getElem_set_self,List.drop_set_of_lt (by omega)]
 rw[this,Zja,List.append_assoc];rfl
theorem OwnK.setAt {w:World} {B k n cap g off:Nat} {xs:List Value} (h:OwnK w B k n cap xs (some ⟨g,off,none⟩)) (i:Nat) (hi:i<xs.length) (v:Value) :
  OwnK (w.setCell ⟨g,off+i,none⟩ v) B k n cap (xs.set i v) (some ⟨g,off,none⟩):=by
 cases h with
 | «at» g off h h1 h2 h3 =>
  have hth:=h.cells i xs[i] (List.getElem?_eq_getElem hi)
  have hsame:=World.cell?_setCell_same w ⟨g,off+i,none⟩ v hth
  have hoth:∀ j,i≠j→(w.setCell ⟨g,off+i,none⟩ v).cell? ⟨g,off+j,none⟩=w.cell? ⟨g,off+j,none⟩:=fun j hj=>World.cell?_setCell_other w _ _ v (fun e=>hj (by have:=congrArg Addr.off e;simp at this;exact this))
  refine .at g off ⟨h.own,by rw[World.size_setCell];exact h.lt,by rw[List.length_set];exact h.le,fun j u hj=>?_,fun j hj=>?_,fun j hj=>?_⟩ (by rw[List.length_set];exact h1) h2 h3
  ·rw[List.getElem?_set] at hj
   by_cases e:i=j
   ·subst e
    rw[if_pos rfl,if_pos hi] at hj
    cases hj
    exact hsame
   ·rw[if_neg e] at hj
    rw[hoth j e];exact h.cells j u hj
  ·by_cases e:i=j
   ·subst e;rw[hsame];rfl
   ·rw[hoth j e];exact h.room j hj
  ·show (w.setCells g (off+i) [v]).frozen? _=_
   rw[World.frozen?_setCells];exact h.warm j hj
theorem Z0h (l:List Bnd) (i:Nat) (b:Bnd) (hb:l[i]?=some b) (x:Int):(l.flatMap Zfv).set (i*2+1) (.int .i64 x)=(l.set i ⟨b.n,x⟩).flatMap Zfv:=by
 have hi:=(List.getElem?_eq_some_iff.1 hb).1
 apply List.ext_getElem?
 intro j
 rw[Zud Zfv 2 Zeq l i hi,List.getElem?_set]
 by_cases e:i*2+1=j
 ·subst e
  rw[if_pos rfl,if_pos (by rw[Zbd Zfv 2 Zeq];omega),if_pos (by omega),show i*2+1-i*2=1 by omega];rfl
 ·rw[if_neg e]
  by_cases e2:i*2≤j∧j<i*2+2
  ·obtain rfl:j=i*2:=by omega
   rw[if_pos e2,Nat.sub_self]
   have:=Zby Zfv 2 Zeq l i 0 b hb (by omega)
   rw[Nat.add_zero] at this
   rw[this];rfl
  ·rw[if_neg e2]
theorem Zn9 (k n m:Nat) (hn:n≤3) (hm:m≤6) (hk:k≤1000000) (w:World) :
  Calls Tryz.prog 58 #[.int .i64 k,.int .i64 n,.int .i64 m] w fun e w'=>(∃ ro rc,e = .returned (.slice ro n rc)∧OwnK w' w.heap.size 2 n rc ((Zkq n m k).flatMap Zfv) ro)∧Below w.heap.size w w':=by
 have HS:=ħ (fun W=>Zlz n hn W)
 have HL:=ħ (Zdn hn)
 have bx:=(Below.refl w.heap.size w).alloc (Nat.le_refl _) (.cells #[] 87)
 have B0:=ħ bx
 have O0:Hid (OwnK (w.alloc (.cells #[] 87)) w.heap.size 2 0 0 ((Zc0 (Za0 n) (0::List.replicate n 0) 0).flatMap Zfv) (some ⟨w.heap.size,0,none⟩)):=ħ (by have:=OwnK.made w 87 2;simpa [Zc0] using this)
 clear bx
 have e1:IntKind.i64.wrap ((m:Int)+1)=(m:Int)+1:=IntWalk.i64_in _ (by omega)
 go_enter Tryz.func58,Tryz.ntmps58
 go_wp2_with fail
 go_loopw [7,8] (fun o c wr=>∃ (i:Nat) (ro:Option Addr) (rc:Nat),c = .int .i64 i∧i≤n∧o = .slice ro i rc∧Hid (OwnK wr w.heap.size 2 i rc ((Zc0 (Za0 n) (0::List.replicate n 0) i).flatMap Zfv) ro)∧Hid (Below w.heap.size w wr)) (fun o c _=>(n-intOf c).toNat)
 case atStart=>exact⟨0,_,0,rfl,by omega,rfl,O0,B0⟩
 case round =>
  clear O0 B0
  obtain⟨i,ro,rc,rfl,hi,rfl,ho,hw⟩:=hrel
  have e2:IntKind.i64.wrap ((i:Int)+1)=((i+1:Nat):Int):=IntWalk.i64_in _ (by omega)
  by_cases hlt:i<n
  ·have ii:(i:Int)<n:=by omega
   obtain⟨s,hs⟩:∃ s,(Za0 n)[i]?=some s:=⟨_,List.getElem?_eq_getElem (by rw[HL.o];exact hlt)⟩
   have HTK:Hid ((Zc0 (Za0 n) (0::List.replicate n 0) i).flatMap Zfv++[.string (Zad s),.int .i64 0]=(Zc0 (Za0 n) (0::List.replicate n 0) (i+1)).flatMap Zfv):=ħ (by
    rw[Zny hs,← Zg4]
    have:gv (0::List.replicate n 0) (i+1)=0:=Zgu (n+1) (i+1)
    rw[this];rfl)
   go_wp2_with fail
   refine (HS.o wr).mono ?_
   rintro e w2 ⟨sa,rfl,hsr,b2⟩
   have HW2:=ħ (hw.o.trans (b2.mono hw.o.size))
   have HO2:=ħ (ho.o.below b2)
   obtain⟨g,off,hao,hg,hc⟩:=hsr.at i s hs
   subst hao
   clear b2 hsr hs ho hw
   generalize Zad s=y at *
   go_wp2_with (at_builtin;refine Zfg 49 87 Z8t 2 24 Tryz.underlying49 Zux rfl (by omega) (by omega) w2 w.heap.size rfl (.tmp 16) (.tmp 23) rfl ro rc i ((Zc0 (Za0 n) (0::List.replicate n 0) i).flatMap Zfv) ?q1 HO2.o HW2.o.size 1 1 #[.string y,.int .i64 0] 87 ?q2 rfl (by omega) ?q3 ?q4 ?_;(case q1=>rfl);(case q2=>rfl);(case q3=>simp[Value.oneCell']);(case q4=>omega);intro g5 off5 c5 wa o8 gr8 b8 or8;have O8:=ħ o8;have B8:=ħ b8;clear o8 gr8 b8 or8)
   have B4:=ħ (HW2.o.trans B8.o)
   clear HO2 HW2 hg hc B8
   go_roundw
   case rel=>exact⟨i+1,some ⟨g5,off5,none⟩,c5,by go_num,by omega,rfl,ħ (by rw[← HTK.o];exact O8.o),B4⟩
   case measure=>simp only[intOf];omega
  ·obtain rfl:i=n:=by omega
   have ii:¬ ((i:Int)<(i:Int)):=by omega
   have HDG:Hid (∃ vs:List Int,vs.length=i∧Zc0 (Za0 i) (0::List.replicate i 0) i=Zc0 (Za0 i) (0::vs) i∧Zja (m+1) i k=Zja (m+1) i k++vs.drop i):=ħ ⟨List.replicate i 0,by simp,rfl,by simp⟩
   obtain⟨vs,hvl,hvb,hvd⟩:=HDG.o
   rw[hvb] at ho
   have HO0:=ħ ho.o
   have HW0:=ħ hw.o
   have HVL:=ħ hvl
   have HVD:=ħ hvd
   have e3:IntKind.i64.wrap ((i:Int)-1)=(i:Int)-1:=IntWalk.i64_in _ (by omega)
   clear HDG hvb hvl hvd ho hw
   go_wp2_with fail
   go_loopw [0,9] (fun kc c wq=>∃ (q t:Nat) (vs:List Int),c = .int .i64 ((t:Int)-1)∧t≤i∧kc = .int .i64 q∧q≤1000000∧Hid (vs.length=i)∧Hid (Zja (m+1) i k=Zja (m+1) t q++vs.drop t)∧Hid (OwnK wq w.heap.size 2 i rc ((Zc0 (Za0 i) (0::vs) i).flatMap Zfv) ro)∧Hid (Below w.heap.size w wq)) (fun kc c _=>(intOf c+1).toNat)
   case atStart=>exact⟨k,i,vs,rfl,Nat.le_refl _,rfl,by omega,HVL,HVD,HO0,HW0⟩
   case round =>
    clear HO0 HW0 HVL HVD vs
    obtain⟨q,t,vs,rfl,ht,rfl,hq,hvl,hvd,ho,hw⟩:=hrel
    by_cases ht0:0<t
    ·obtain⟨t',rfl⟩:∃ t',t=t'+1:=⟨t-1,by omega⟩
     rw[show (((t'+1:Nat):Int)-1)=(t':Int) by omega]
     have i0:(0:Int)≤t':=by omega
     have i1:(t':Int)<i:=by omega
     obtain⟨g,off,hao,hB,hg,hr⟩:=ho.o.readsAt (by omega)
     subst hao
     have hbt:=Zpf (ns:=Za0 i) (v:=0::vs) (show t'<i by omega)
     have hlt2:t'*2+1<((Zc0 (Za0 i) (0::vs) i).flatMap Zfv).length:=by rw[Zbd Zfv 2 Zeq,Zg5];omega
     have c0:wr.cell? ⟨g,off+t'*2+1,none⟩=some (.int .i64 (gv (0::vs) (t'+1))):=by
      rw[Nat.add_assoc]
      refine hr (t'*2+1) _ ?_
      rw[Zby Zfv 2 Zeq _ t' 1 _ hbt (by omega)];rfl
     have fz:wr.frozen? ⟨g,off+t'*2+1,none⟩=false:=by
      have:=ho.o.len_le.1
      rw[Nat.add_assoc]
      exact ho.o.reads.2.2.2 _ (by omega)
     obtain⟨X,hX⟩:∃ X,q%(m+1)=X:=⟨_,rfl⟩
     have HO2:Hid (OwnK (wr.setCell ⟨g,off+t'*2+1,none⟩ (.int .i64 ((X:Nat):Int))) w.heap.size 2 i rc ((Zc0 (Za0 i) (0::vs.set t' ((X:Nat):Int)) i).flatMap Zfv) (some ⟨g,off,none⟩)):=ħ (by
      have:=ho.o.setAt (t'*2+1) hlt2 (.int .i64 ((X:Nat):Int))
      rw[Z0h _ t' _ hbt,← Nat.add_assoc] at this
      rw[Z0g _ _ _ _ _ (by rw[hvl.o];omega)]
      exact this)
     have HD2:Hid (Zja (m+1) i k=Zja (m+1) t' (q/(m+1))++(vs.set t' ((X:Nat):Int)).drop t'):=ħ (by rw[← hX];exact Z4g hvl.o (by omega) hvd.o)
     have HW2:Hid (Below w.heap.size w (wr.setCell ⟨g,off+t'*2+1,none⟩ (.int .i64 ((X:Nat):Int)))):=ħ (hw.o.setCell (p:=⟨g,off+t'*2+1,none⟩) hB _)
     have hqd:q/(m+1)≤1000000:=Nat.le_trans (Nat.div_le_self _ _) hq
     obtain⟨Y,hY⟩:∃ Y,q/(m+1)=Y:=⟨_,rfl⟩
     rw[hY] at hqd HD2
     have r1:((q:Int)).tmod ((m:Int)+1)=(X:Int):=by rw[← hX];rfl
     have r2:((q:Int)).tdiv ((m:Int)+1)=(Y:Int):=by rw[← hY];rfl
     have r0:((m:Int)+1==0)=false:=beq_eq_false_iff_ne.mpr (by omega)
     have r3:IntKind.i64.wrap (X:Int)=(X:Int):=IntWalk.i64_in _ (by have:=Nat.mod_le q (m+1);omega)
     have r4:IntKind.i64.wrap (Y:Int)=(Y:Int):=IntWalk.i64_in _ (by omega)
     have e4:IntKind.i64.wrap ((t':Int)-1)=(t':Int)-1:=IntWalk.i64_in _ (by omega)
     clear hX hY hbt hlt2 hr hB hg ho hw hvd e3
     go_wp2
     go_roundw
     case rel=>exact⟨Y,t',vs.set t' ((X:Nat):Int),rfl,by omega,rfl,hqd,ħ (by rw[List.length_set];exact hvl.o),HD2,HO2,HW2⟩
     case measure=>simp only[intOf];omega
    ·obtain rfl:t=0:=by omega
     have HV:Hid (Zkq i m k=Zc0 (Za0 i) (0::vs) i):=ħ (by
      have:=hvd.o
      rw[Zja,List.drop_zero,List.nil_append] at this
      unfold Zkq Zkc;rw[this])
     rw[show (((0:Nat):Int)-1)=(-1:Int) by omega]
     go_wp2
     go_ret
     exact⟨⟨ro,rc,rfl,by rw[HV.o];exact ho.o⟩,hw.o⟩
end
section
theorem Z0i (n m k:Nat) (hm:m≤6):∃ ds:List Int,Zja (m+1) n k=ds∧ds.length=n∧∀ x∈ds,0≤x∧x≤65535:=by
 refine⟨_,rfl,Zil _ _ _,fun x hx=>?_⟩
 have:=Zo2 (m+1) (by omega) n k x hx
 omega
theorem Zoa {n:Nat} (hn:n≤3) {s:List Nat} (h:s∈Za0 n):s=[120,46,97]∨s=[120,46,98]∨s=[121,46,97]:=by
 have:=List.mem_of_mem_take h
 simpa [Zly] using this
theorem Z0j (n m k:Nat) (hn:n≤3) (hm:m≤6):vbP (Zkq n m k)=true∧∀ s,Ze7 (Za0 n) s=true→Zip (Zo7 (Zkq n m k)) s=some (gv (Zkc n m k) (Zcn (Za0 n) s)):=by
 obtain⟨ds,h1,h2,h3⟩:=Z0i n m k hm
 unfold Zkq Zkc
 rw[h1]
 clear h1
 match n,hn,ds,h2,h3 with
 | 0,_,[],_,_=>exact⟨rfl,fun s hs=>by
   have:s=[]:=by simpa [Ze7,Za0,Zly] using hs
   subst this;rfl⟩
 | 1,_,[a],_,h3 =>
  have ha:=h3 a (by simp)
  refine⟨?_,fun s hs=>?_⟩
  ·show vbP [⟨[120,46,97],a⟩]=true
   simp[vbP,vbG,ha]
   decide
  ·have:s=[]∨s=[120,46,97]:=by simpa [Ze7,Za0,Zly] using hs
   rcases this with rfl | rfl<;>rfl
 | 2,_,[a,b],_,h3 =>
  have ha:=h3 a (by simp)
  have hb:=h3 b (by simp)
  refine⟨?_,fun s hs=>?_⟩
  ·show vbP [⟨[120,46,97],a⟩,⟨[120,46,98],b⟩]=true
   simp[vbP,vbG,ha,hb]
   decide
  ·have:s=[]∨s=[120,46,97]∨s=[120,46,98]:=by simpa [Ze7,Za0,Zly] using hs
   rcases this with rfl | rfl | rfl<;>rfl
 | 3,_,[a,b,c],_,h3 =>
  have ha:=h3 a (by simp)
  have hb:=h3 b (by simp)
  have hc:=h3 c (by simp)
  refine⟨?_,fun s hs=>?_⟩
  ·show vbP [⟨[120,46,97],a⟩,⟨[120,46,98],b⟩,⟨[121,46,97],c⟩]=true
   simp[vbP,vbG,ha,hb,hc]
   decide
  ·have:s=[]∨s=[120,46,97]∨s=[120,46,98]∨s=[121,46,97]:=by simpa [Ze7,Za0,Zly] using hs
   rcases this with rfl | rfl | rfl | rfl<;>rfl
def trK (n m:Nat) (p:Prd) (k:Nat):Bool:=Zau (fK (Za0 n) (gv (Zkc n m k))) p
theorem Z4h (n m k:Nat) (hn:n≤3) (hm:m≤6) (p:Prd) (hv:Zar p=true) (hk:Zi9 (Za0 n) (Zan p)):Zv4 p (Zkq n m k)=(trK n m p k,0):=by
 obtain⟨h1,h2⟩:=Z0j n m k hn hm
 unfold Zv4
 rw[if_neg (by rw[hv,h1];simp),if_neg]
 ·unfold trK
  congr 1
  refine Zld (fun x hx=>?_)
  have:=hk x ((Zbm p x).2 hx)
  unfold fV fK gvD
  rw[h2 _ this.1,h2 _ this.2];rfl
 ·rw[Bool.not_eq_false,List.all_eq_true]
  intro x hx
  have:=hk x hx
  unfold bdV
  rw[h2 _ this.1,h2 _ this.2];rfl
theorem Z0k (n m k:Nat) (hn:n≤3):BndOk (Zkq n m k):=⟨fun b hb=>by
 unfold Zkq Zc0 at hb
 obtain⟨i,hi,rfl⟩:=List.mem_map.1 hb
 have hi2:i<(Za0 n).length:=by rw[Zdn hn];simpa using hi
 have:(Za0 n).getD i []∈Za0 n:=by rw[List.getD_eq_getElem?_getD,List.getElem?_eq_getElem hi2];exact List.getElem_mem _
 show NmB ((Za0 n).getD i [])
 rcases Zoa hn this with h | h | h<;>rw[h]<;>exact⟨by decide,by decide⟩⟩
theorem Zer (n m k:Nat):(Zkq n m k).length=n:=Zg5 _ _ _
end
section
open Go.RowKit Go.Sort
theorem OwnK.bndR {w:World} {B n cap:Nat} {ao:Option Addr} {l:List Bnd} (h:OwnK w B 2 n cap (l.flatMap Zfv) ao) (hn:n=l.length):Z17 w (fun _=>True) l ao:=by
 rcases h.flatR Zeq hn with h | ⟨g,off,h1,h2,h3⟩
 ·exact .inl h
 ·exact .inr ⟨g,off,h1,trivial,h2,h3⟩
theorem Zrp (p:Prd) (w:World) (P:Nat→Prop) (vs:List Value) (B n m k:Nat) (hN:Za9 p≤1000000) (hb:Zht p) (h:Zai w P p vs) (hT:Tab w B) (hn:n≤3) (hm:m≤6) (hv:Zar p=true) (hk:Zi9 (Za0 n) (Zan p))
  (W:World) (hW:Below w.heap.size w W) (ro:Option Addr) (rc:Nat) (hro:Z17 W (fun _=>True) (Zkq n m k) ro) :
  Calls Tryz.prog 42 #[.agg vs.toArray,.slice ro n rc] W fun e w'=>e = .returned (.tuple #[.bool (trK n m p k),.int .i64 0])∧Below W.heap.size W w':=by
 have:=Zy3 p W P (fun _=>True) vs B (Zkq n m k) ro n rc hN hb (h.below hW) (Zb5.step (w:=w) hT hW) (Zer n m k).symm (by omega) (Z0k n m k hn) hro
 rw[Z4h n m k hn hm p hv hk] at this
 exact this
theorem Zrq {g:Nat→Bool} {m k:Nat} (h:Zd9 g m=some k):k<m∧g k=true∧∀ j,j<k→g j=false:=by
 unfold Zd9 at h
 have h1:=List.find?_some h
 have h2:=List.mem_of_find?_eq_some h
 rw[List.mem_range] at h2
 refine⟨h2,h1,fun j hj=>?_⟩
 rw[List.find?_range_eq_some] at h
 have:=h.2.2 j hj
 simpa using this
def Zob (g:Nat→Bool) (m:Nat):Int:=match Zd9 g m with
 | some k=>(k:Int)
 | none=>-1
theorem Z0l {g:Nat→Bool} {m k:Nat} (hk:k<m) (h:g k=true) (hj:∀ j,j<k→g j=false):Zob g m=(k:Int):=by
 unfold Zob Zd9
 rw[(List.find?_range_eq_some (p:=g) (i:=k) (n:=m)).2 ⟨h,List.mem_range.2 hk,fun j h1=>by rw[hj j h1];rfl⟩]
theorem Z0m {g:Nat→Bool} {m:Nat} (h:∀ j,j<m→g j=false):Zob g m = -1:=by
 unfold Zob Zd9
 rw[List.find?_eq_none.2 (fun x hx=>by rw[h x (List.mem_range.1 hx)];simp)]
end
section
open Go.RowKit Go.Sort
def Ziy (n:Nat) (p:Prd):Bool:=(Zh1 p).all (fun s=>(Za0 n).contains s)
theorem Zrr {n:Nat} {p:Prd} (hv:Zar p=true):Ziy n p=true↔Zi9 (Za0 n) (Zan p):=by
 unfold Ziy Zh1 Zi9
 rw[if_pos hv,List.all_eq_true]
 unfold Zjy Ze7
 constructor
 ·intro h k hk
  constructor
  ·by_cases e:k.l=[]
   ·rw[e];rfl
   ·rw[h k.l ((Zeo _ _).2 ⟨e,k,hk,.inl rfl⟩)];simp
  ·by_cases e:k.r=[]
   ·rw[e];rfl
   ·rw[h k.r ((Zeo _ _).2 ⟨e,k,hk,.inr rfl⟩)];simp
 ·intro h s hs
  obtain⟨h1,k,hk,h2⟩:=(Zeo _ _).1 hs
  rcases h2 with rfl | rfl
  ·have:=(h k hk).1
   simpa [h1] using this
  ·have:=(h k hk).2
   simpa [h1] using this
theorem Z5y {p:Prd} {s:List Nat} (h:s∈Zh1 p):∀ y∈s,y<256:=by
 unfold Zh1 at h
 by_cases hv:Zar p=true
 ·rw[if_pos hv] at h
  obtain⟨h1,k,hk,h2⟩:=(Zeo _ _).1 h
  have:=Zd8 p (Zb0 hv) k ((Zbm p k).1 hk)
  rcases h2 with rfl | rfl
  ·exact this.lb
  ·exact this.rb
 ·rw[if_neg hv] at h;cases h
theorem Zrs {n:Nat} (hn:n≤3):∀ s∈Za0 n,∀ y∈s,y<256:=fun s hs=>by
 rcases Zoa hn hs with h | h | h<;>subst h<;>decide
theorem Zrt (p:Prd) (hN:Za9 p≤100000):(Zh1 p).length≤1000000:=by
 unfold Zh1
 split
 ·unfold Zjy
  refine Nat.le_trans (Zu9 _) ?_
  have:(Zan p).length≤Za9 p:=Nat.le_trans (Zfl _ (Zck p) (Zlj (Zf2 p)) (fun x hx=>(Zbm p x).1 hx)) (Zf1 p)
  omega
 ·simp
theorem Z8y (t:Array Value) (h:t.size=23):∃ f:Nat→Value,t=#[f 0,f 1,f 2,f 3,f 4,f 5,f 6,f 7,f 8,f 9,f 10,f 11,f 12,f 13,f 14,f 15,f 16,f 17,f 18,f 19,f 20,f 21,f 22]:=by
 obtain⟨l⟩:=t
 have hl:l.length=23:=h
 have e:l=(List.range 23).map (fun i=>l.getD i undef):=by
  apply List.ext_getElem
  ·simp[hl]
  ·intro i h1 h2
   simp[List.getD,h1]
 exact⟨fun i=>l.getD i undef,congrArg List.toArray e⟩
theorem Z0n (i:Nat) (h:i<8):i=0∨i=1∨i=2∨i=3∨i=4∨i=5∨i=6∨i=7:=by omega
def knF (n g off c cp j:Nat) (y:ByteArray) (R:Bool) (i:Nat) (W:World) (v:Value):Prop:=match i with
 | 0=>v = .int .i64 (n:Nat)
 | 1=>∃ so,v = .slice so n 3∧Zcq W so (Za0 n)
 | 2=>v = .slice (some ⟨g,off,none⟩) c cp
 | 3=>v = .int .i64 (j:Nat)
 | 4=>v = .pointer (some ⟨g,off+j,none⟩)
 | 5=>v = .string y
 | 6=>v = .bool R
 | 7=>v = .bool (!R)
 | _=>True
theorem Z4i (n g off c cp j:Nat) (y:ByteArray) (R:Bool):∀ i w w' v,knF n g off c cp j y R i w v→Below w.heap.size w w'→knF n g off c cp j y R i w' v:=by
 intro i w w' v h hb
 match i with
 | 0=>exact h
 | 1=>obtain⟨so,h1,h2⟩:=h;exact⟨so,h1,h2.below hb⟩
 | 2=>exact h
 | 3=>exact h
 | 4=>exact h
 | 5=>exact h
 | 6=>exact h
 | 7=>exact h
 | k+8=>trivial
theorem Zru (p:Prd) (w:World) (P:Nat→Prop) (vs:List Value) (B n:Nat) (hN:Za9 p≤100000) (hb:Zht p) (h:Zai w P p vs) (hT:Tab w B) (hn:n≤3) :
  Calls Tryz.prog 53 #[.agg vs.toArray,.int .i64 n] w fun e w'=>e = .returned (.bool (Ziy n p))∧Below w.heap.size w w':=by
 obtain⟨xa,xn,xc,rfl,-⟩:=h.form
 have HNA:=ħ (fun W (hW:Below w.heap.size w W)=>Znv p W P _ B (by omega) hb (h.below hW) (Zb5.step (w:=w) hT hW))
 have HSM:=ħ (fun W=>Zlz n hn W)
 have HL:=ħ (Zrt p hN)
 have HBY:=ħ (fun s (hs:s∈Zh1 p)=>Z5y hs)
 have HKB:Hid (Ziy n p=(Zh1 p).all (fun s=>(Za0 n).contains s)):=ħ rfl
 have HSB:=ħ (Zrs hn)
 have HSL:=ħ (Zdn hn)
 generalize Ziy n p=RES at *
 generalize Zh1 p=NS at *
 generalize p.k=q0 at *
 generalize Zad p.l=q1 at *
 generalize Zad p.r=q2 at *
 generalize p.c=q3 at *
 have bx:=(Below.refl w.heap.size w).alloc (Nat.le_refl _) (.cells #[.int .i64 q0,.string q1,.string q2,.int .i64 q3,.slice xa xn xc] 25)
 have B1:=ħ bx
 have Y1:Hid (Zah (w.alloc (.cells #[.int .i64 q0,.string q1,.string q2,.int .i64 q3,.slice xa xn xc] 25)) w.heap.size 25 [.int .i64 q0,.string q1,.string q2,.int .i64 q3,.slice xa xn xc]):=ħ (heap_alloc_new w _)
 clear bx h hT hN hb
 go_enter Tryz.func53,Tryz.ntmps53
 go_upto_region 1 with (fail)
 generalize w.alloc (.cells #[.int .i64 q0,.string q1,.string q2,.int .i64 q3,.slice xa xn xc] 25)=w1 at *
 go_wp2_with (refine wpList_load_row rfl 25 (.tmp 2) rfl w.heap.size ?x1 25 #[.int .i64 q0,.string q1,.string q2,.int .i64 q3,.slice xa xn xc] (0,0) _ Y1.o Tryz.underlying25 rfl (Zae _ rfl) ?_;(case x1=>rfl))
 refine (HNA.o w1 B1.o).mono ?_
 rintro e w2 ⟨ao,cp,rfl,ho,b2⟩
 have HO:=ħ (ho.strsR rfl)
 have B2:=ħ (B1.o.trans (b2.mono B1.o.size))
 clear ho b2 B1 HNA
 obtain⟨c,hc⟩:∃ c,NS.length=c:=⟨_,rfl⟩
 have HC:=ħ hc
 rw[hc] at HL ⊢
 clear hc
 have hlb:=HL.o
 go_wp2_with fail
 go_loopw [6] (fun iv wr=>∃ (j:Nat),iv = .int .i64 j∧j≤c∧Hid ((NS.take j).all (fun s=>(Za0 n).contains s)=true)∧Hid (Below w2.heap.size w2 wr)) (fun i _=>(c-intOf i).toNat)
 case atStart=>exact⟨0,rfl,by omega,ħ (by simp),ħ (Below.refl _ _)⟩
 case round =>
  obtain⟨j,rfl,hi,hno,hw⟩:=hrel
  have e2:IntKind.i64.wrap ((j:Int)+1)=((j+1:Nat):Int):=IntWalk.i64_in _ (by omega)
  by_cases hlt:j<c
  ·have ii:(j:Int)<c:=by omega
   obtain⟨s,hs⟩:∃ s,NS[j]?=some s:=⟨_,List.getElem?_eq_getElem (by rw[HC.o];exact hlt)⟩
   obtain⟨g,off,hao,hg,hce⟩:=(HO.o.below hw.o).at j s hs
   have HCE:=ħ (fun W (hW:Below wr.heap.size wr W)=>(World.cell?_of_block (a:=⟨g,off+j,none⟩) (hW.block g hg)).trans hce)
   have HAO:=ħ hao
   subst hao
   have HST:Hid ((NS.take (j+1)).all (fun s=>(Za0 n).contains s)=((NS.take j).all (fun s=>(Za0 n).contains s)&&(Za0 n).contains s)):=ħ (by rw[List.take_add_one,hs,List.all_append];simp)
   have HAN:=ħ (fun (h:(Za0 n).contains s=false)=>(show NS.all (fun s=>(Za0 n).contains s)=false from by
    rw[Bool.eq_false_iff]
    intro h2
    rw[List.all_eq_true] at h2
    have h3:=h2 s (List.mem_of_getElem? hs)
    rw[h] at h3
    cases h3))
   have HHS:=ħ (fun W so (hso:Zcq W so (Za0 n))=>rhas_any' so n 3 (Za0 n) s W HSL.o.symm (by omega) hso (HBY.o s (List.mem_of_getElem? hs)) HSB.o)
   obtain⟨R,hR⟩:∃ R,(Za0 n).contains s=R:=⟨_,rfl⟩
   rw[hR] at HHS HST HAN
   clear hs hg hce hR
   generalize Zad s=y at *
   have W0:=ħ (B2.o.trans (hw.o.mono B2.o.size))
   go_upto_region 5 with (fail)
   clear ii
   refine Zd2 (knF n g off c cp j y R) (by kernel_rfl) (Z4i n g off c cp j y R) (Zeg (by kernel_rfl)) (Zp5 (by kernel_rfl)) (Zc4 (by kernel_rfl)) ?hs ?he
   case hs =>
    intro i o hi listed a' w' H hl2
    have hl3:=Za7 hl2
    have hin:i<8:=(Array.getElem?_eq_some_iff.1 hi).1
    have hb:=ħ H.below
    have s1:=H.same 1 (Zao (by kernel_rfl))
    have s5:=H.same 5 (Zao (by kernel_rfl))
    have s6:=H.same 6 (Zao (by kernel_rfl))
    have hdn:=H.done
    have hdf:=H.defers
    have hts:=H.tsize
    clear hl2 H
    obtain⟨t',df⟩:=a'
    obtain⟨f',rfl⟩:=Z8y t' hts
    have hdf':df=[]:=hdf
    subst hdf'
    have gs1:f' 1 = .int .i64 (n:Nat):=s1
    have gs5:f' 5 = .slice (some ⟨g,off,none⟩) c cp:=s5
    have gs6:f' 6 = .int .i64 (j:Nat):=s6
    clear s1 s5 s6
    clear hdf hts
    have hcases:=Z0n i hin
    clear hin
    rcases hcases with rfl | rfl | rfl | rfl | rfl | rfl | rfl | rfl
    ·obtain rfl:=Option.some.inj hi
     clear hdn hl3
     rw[gs1]
     clear gs1 gs5 gs6
     refine Zac rfl ?_
     go_wp2_with fail
     exact Zaa ⟨_,rfl,Below.refl _ _,rfl⟩
    ·obtain rfl:=Option.some.inj hi
     have dv0:f' 15 = .int .i64 (n:Nat):=hdn 0 _ 15 rfl (hl3 0 (by rfl)) rfl
     clear hdn hl3
     rw[dv0]
     clear dv0 gs1 gs5 gs6
     refine Zac rfl ?_
     go_wp2_with fail
     refine (HSM.o w').mono ?_
     rintro e w4 ⟨so,rfl,hs,b4⟩
     have HS:=ħ hs
     have HB4:=ħ b4
     clear hs b4
     go_wp2_with fail
     exact Zaa ⟨_,rfl,HB4.o,so,rfl,HS.o⟩
    ·obtain rfl:=Option.some.inj hi
     clear hdn hl3
     rw[gs5]
     clear gs1 gs5 gs6
     refine Zac rfl ?_
     go_wp2_with fail
     exact Zaa ⟨_,rfl,Below.refl _ _,rfl⟩
    ·obtain rfl:=Option.some.inj hi
     clear hdn hl3
     rw[gs6]
     clear gs1 gs5 gs6
     refine Zac rfl ?_
     go_wp2_with fail
     exact Zaa ⟨_,rfl,Below.refl _ _,rfl⟩
    ·obtain rfl:=Option.some.inj hi
     have dv2:f' 17 = .slice (some ⟨g,off,none⟩) c cp:=hdn 2 _ 17 rfl (hl3 2 (by rfl)) rfl
     have dv3:f' 18 = .int .i64 (j:Nat):=hdn 3 _ 18 rfl (hl3 3 (by rfl)) rfl
     clear hdn hl3
     rw[dv2,dv3]
     clear dv2 dv3 gs1 gs5 gs6
     have ii:(j:Int)<c:=by omega
     refine Zac rfl ?_
     go_wp2_with fail
     exact Zaa ⟨_,rfl,Below.refl _ _,rfl⟩
    ·obtain rfl:=Option.some.inj hi
     have dv4:f' 19 = .pointer (some ⟨g,off+j,none⟩):=hdn 4 _ 19 rfl (hl3 4 (by rfl)) rfl
     clear hdn hl3
     rw[dv4]
     clear dv4 gs1 gs5 gs6
     have c0:=HCE.o w' hb.o
     refine Zac rfl ?_
     go_wp2_with fail
     exact Zaa ⟨_,rfl,Below.refl _ _,rfl⟩
    ·obtain rfl:=Option.some.inj hi
     have dv1:knF n g off c cp j y R 1 w' (f' 16):=hdn 1 _ 16 rfl (hl3 1 (by rfl)) rfl
     obtain⟨so,dv1,hso⟩:=dv1
     have dv5:f' 20 = .string y:=hdn 5 _ 20 rfl (hl3 5 (by rfl)) rfl
     clear hdn hl3
     rw[dv1,dv5]
     clear dv1 dv5 gs1 gs5 gs6
     have HSO:=ħ hso
     clear hso
     refine Zac rfl ?_
     go_wp2_with fail
     refine (HHS.o w' so HSO.o).mono ?_
     rintro e w4 ⟨rfl,rfl⟩
     go_wp2_with fail
     exact Zaa ⟨_,rfl,Below.refl _ _,rfl⟩
    ·obtain rfl:=Option.some.inj hi
     have dv6:f' 21 = .bool R:=hdn 6 _ 21 rfl (hl3 6 (by rfl)) rfl
     clear hdn hl3
     rw[dv6]
     clear dv6 gs1 gs5 gs6
     refine Zac rfl ?_
     go_wp2_with fail
     exact Zaa ⟨_,rfl,Below.refl _ _,rfl⟩
   case he =>
    intro listed a' w4 H hall
    have hd7:knF n g off c cp j y R 7 w4 (a'.tmps.getD 22 undef):=H.done 7 _ 22 rfl (hall 7 (by decide)) rfl
    have hb4:=ħ H.below
    have hact:=H.act [15,16,17,18,19,20,21,22] (Zot (by kernel_rfl))
    clear H hall
    simp only[List.foldl_cons,List.foldl_nil] at hact
    generalize a'.tmps.getD 15 undef=z15 at *
    generalize a'.tmps.getD 16 undef=z16 at *
    generalize a'.tmps.getD 17 undef=z17 at *
    generalize a'.tmps.getD 18 undef=z18 at *
    generalize a'.tmps.getD 19 undef=z19 at *
    generalize a'.tmps.getD 20 undef=z20 at *
    generalize a'.tmps.getD 21 undef=z21 at *
    generalize a'.tmps.getD 22 undef=z22 at *
    subst hact
    have e7:z22 = .bool (!R):=hd7
    subst e7
    clear hd7
    simp only[Act.put,List.setIfInBounds_toArray,List.set_cons_succ,List.set_cons_zero]
    have W4:=ħ (hw.o.trans (hb4.o.mono hw.o.size))
    have W5:=ħ (B2.o.trans (W4.o.mono B2.o.size))
    clear hb4 hw W0
    cases R with
    | false =>
     go_wp2
     go_ret
     exact⟨Zag (by rw[HKB.o];exact (HAN.o trivial).symm),W5.o⟩
    | true =>
     go_wp2
     go_roundw
     case rel=>exact⟨j+1,by go_num,by omega,ħ (by rw[HST.o,hno.o];rfl),W4⟩
     case measure=>simp only[intOf];omega
  ·have ii:¬ ((j:Int)<c):=by omega
   have W5:=ħ (B2.o.trans (hw.o.mono B2.o.size))
   go_wp2
   go_ret
   exact⟨Zag (by rw[HKB.o,← hno.o,List.take_of_length_le (by rw[HC.o];omega)]),W5.o⟩
end
section
theorem Zoc {n m:Nat} (h1:1≤n) (hn:n≤3) (hm:m≤6):Zcy (Za0 n) (m:Int)=true:=by
 unfold Zcy
 rw[Zdn hn]
 have h2:Zwc (Za0 n)=true∧(Za0 n).all Zbo=true:=by
  match n,h1,hn with
  | 1,_,_=>exact⟨by decide,by decide⟩
  | 2,_,_=>exact⟨by decide,by decide⟩
  | 3,_,_=>exact⟨by decide,by decide⟩
 simp[h2]
 omega
structure GoP (n:Nat) (p:Prd):Prop where
 valid:Zar p=true
 known:Zi9 (Za0 n) (Zan p)
theorem GoP.ok {n:Nat} {p:Prd} (h:GoP n p):okQ (Za0 n) p=true:=Zls h.valid h.known
end
section
open Go.RowKit Go.Sort
theorem Z4j {n:Nat} (h1:1≤n) (hn:n≤3):Zi8 (Za0 n):=(Zf8 (Zoc (m:=0) h1 hn (by omega))).1
theorem Z5z {n m:Nat} (hn:n≤3) (hm:m≤6):(m+1)^n≤343:=by
 have h1:(m+1)^n≤7^n:=Nat.pow_le_pow_left (by omega) n
 have h2:7^n≤7^3:=Nat.pow_le_pow_right (by omega) (by omega)
 omega
end
section
open Go.RowKit Go.Sort
theorem Z0o {g:Nat→Bool} {m k:Nat} (hk:k<m) (h:g k=true) (hj:∀ j,j<k→g j=false):Zd9 g m=some k:=by
 unfold Zd9
 exact (List.find?_range_eq_some (p:=g) (i:=k) (n:=m)).2 ⟨h,List.mem_range.2 hk,fun j h1=>by rw[hj j h1];rfl⟩
theorem Z0p {g:Nat→Bool} {m:Nat} (h:∀ j,j<m→g j=false):Zd9 g m=none:=by
 unfold Zd9
 exact List.find?_eq_none.2 (fun x hx=>by rw[h x (List.mem_range.1 hx)];simp)
theorem Zod {n m:Nat} (hn:n≤3) {ps:List Prd} (hk:Zi9 (Za0 n) (Zak ps)) (f:List Bool→Bool) (g:Nat→Bool) (hg:∀ k,f (trU (Za0 n) ps (gv (Zkc n m k)))=g k) :
  Zei (Za0 n) (m:Int) (Zak ps) ps f=(Zd9 g ((m+1)^n)).map (Zkc n m):=by
 obtain⟨h1,h2⟩:=Z22 (most:=(m:Int)) hk f
 unfold Zei
 rw[Zdn hn] at h1 h2
 cases hf:(Zbl (Za0 n) (m:Int) (Zak ps) ps).find? (fun c=>f c.2) with
 | none =>
  have h3:=h2 hf
  rw[Z0p (fun j hj=>by
   rw[← hg j]
   exact h3 _ ((Zo3 n m _).2 ⟨j,hj,rfl⟩))];rfl
 | some c =>
  obtain⟨a1,a2,a3,a4⟩:=h1 c hf
  obtain⟨k,hk,he,b1,b2⟩:=Zyj (fun v=>f (trU (Za0 n) ps (gv v))) a1 a3 a4
  rw[Z0o hk (by rw[← hg k];exact b1) (fun j hj=>by rw[← hg j];exact b2 j hj)]
  show some c.1=some (Zkc n m k)
  rw[he]
theorem GoP.comps {n:Nat} {ps:List Prd} (h:∀ p∈ps,GoP n p):Zi9 (Za0 n) (Zak ps):=Zye (fun k hk=>by
 obtain⟨p,hp,hk⟩:=List.mem_flatMap.1 hk
 exact (h p hp).known k hk)
theorem Z8h {n m:Nat} (hn:n≤3) {p:Prd} (h:GoP n p):Zei (Za0 n) (m:Int) (Zak [p]) [p] (fun l=>l.getD 0 false)=(Zd9 (trK n m p) ((m+1)^n)).map (Zkc n m) :=
 Zod hn (GoP.comps (fun q hq=>by rw[List.mem_singleton.1 hq];exact h)) _ _ (fun k=>rfl)
def Z67 (n m:Nat) (c:Int) (r:Option Nat):List Bnd:=if c=0 then (match r with | some k=>Zkq n m k | none=>[]) else []
theorem Zjp.asg {n m:Nat} (hn:n≤3) {w w':World} {c:Int} {r:Option Nat} {b:Bool} {e:Ending} (h:Zjp w (Za0 n) c (r.map (Zkc n m)) b e w') :
  ∃ ro rc,e = .returned (.tuple #[.slice ro (Z67 n m c r).length rc,.bool (decide (c=0)&&b),.int .i64 c])∧Zba Zfv w' ro (Z67 n m c r)∧Below w.heap.size w w':=by
 obtain⟨h1,h2⟩:=h
 unfold Z67
 by_cases hc:c=0
 ·rw[if_pos hc] at h1 ⊢
  obtain⟨v,rfl,hv⟩:=h1
  subst hc
  cases r with
  | none =>
   have hv:v = .slice none 0 0:=hv
   subst hv
   exact⟨none,0,by simp,.inl rfl,h2⟩
  | some k =>
   obtain⟨ro,rc,rfl,ho⟩:=hv
   rw[← Z66 hn,Zdn hn] at ho
   exact⟨ro,rc,by simp[Zer,Zdn hn],ho.flatR Zeq (Zer n m k).symm,h2⟩
 ·rw[if_neg hc] at h1 ⊢
  subst h1
  exact⟨none,0,by simp[hc],.inl rfl,h2⟩
end
section
open Go.RowKit Go.Sort
theorem Z0q (g:Nat→Bool) (m:Nat):Zob g m=match Zd9 g m with | some k=>(k:Int) | none=>-1:=rfl
theorem Z0r {n:Nat} (hn:n≤3) (m k:Nat):∀ b∈Zkq n m k,NmB b.n:=(Z0k n m k hn).nm
theorem Zte (k n m:Nat) (hn:n≤3) (hm:m≤6) (hk:k<(m+1)^n) (w:World) :
  Calls Tryz.prog 58 #[.int .i64 k,.int .i64 n,.int .i64 m] w fun e w'=>∃ ro rc,e = .returned (.slice ro n rc)∧Zba Zfv w' ro (Zkq n m k)∧Below w.heap.size w w' :=
 (Zn9 k n m hn hm (by have:=Z5z hn hm;omega) w).mono (fun e w' h=>by
  obtain⟨⟨ro,rc,h1,h2⟩,h4⟩:=h
  exact⟨ro,rc,h1,h2.flatR Zeq (Zer n m k).symm,h4⟩)
theorem Z0s (k n m:Nat) (hn:n≤3) (W:World) (lo ro:Option Addr) (lc rc:Nat) (hl:Zba Zfv W lo (Zkq n m k)) (hr:Zba Zfv W ro (Zkq n m k)) :
  Calls Tryz.prog 59 #[.slice lo n lc,.slice ro n rc] W fun e w'=>e = .returned (.bool true)∧Below W.heap.size W w' :=
 (Zfc W lo ro n n lc rc _ _ (Zer n m k).symm (Zer n m k).symm hl hr (Z0r hn m k) (Z0r hn m k) (by omega) (by omega)).mono (fun e w' h=>by
  rw[decide_eq_true rfl] at h
  exact h)
end
section
open Go.RowKit Go.Sort
def fdI (g:Nat→Bool) (N:Nat):Nat→Int
 | 0=>-1
 | d+1=>if g (N-(d+1))=true then ((N-(d+1):Nat):Int) else fdI g N d
theorem Z0t (g:Nat→Bool) (N:Nat):∀ d,d≤N→(fdI g N d = -1∧∀ j,N-d≤j→j<N→g j=false)∨∃ k:Nat,fdI g N d=(k:Int)∧N-d≤k∧k<N∧g k=true∧∀ j,N-d≤j→j<k→g j=false
 | 0,_=>.inl ⟨rfl,fun j h1 h2=>by omega⟩
 | d+1,h=>by
  unfold fdI
  cases hg:g (N-(d+1)) with
  | true =>
   rw[if_pos rfl]
   exact .inr ⟨_,rfl,Nat.le_refl _,by omega,hg,fun j h1 h2=>by omega⟩
  | false =>
   rw[if_neg (by simp)]
   rcases Z0t g N d (by omega) with ⟨h1,h2⟩ | ⟨k,h1,h2,h3,h4,h5⟩
   ·refine .inl ⟨h1,fun j h3 h4=>?_⟩
    by_cases e:j=N-(d+1)
    ·rw[e];exact hg
    ·exact h2 j (by omega) h4
   ·refine .inr ⟨k,h1,by omega,h3,h4,fun j h6 h7=>?_⟩
    by_cases e:j=N-(d+1)
    ·rw[e];exact hg
    ·exact h5 j (by omega) h7
theorem Z0u (g:Nat→Bool) (N:Nat):fdI g N N=Zob g N:=by
 rcases Z0t g N N (Nat.le_refl _) with ⟨h1,h2⟩ | ⟨k,h1,h2,h3,h4,h5⟩
 ·rw[h1,Z0m (fun j hj=>h2 j (by omega) hj)]
 ·rw[h1,Z0l h3 h4 (fun j hj=>h5 j (by omega) hj)]
theorem Z4k {n:Nat} (h1:1≤n) (hn:n≤3) {ps:List Prd} (hg:∀ p∈ps,GoP n p) (hc:∀ s∈Za0 n,∃ p∈ps,s∈Zh1 p):Zc1 ps=Za0 n:=by
 refine Z6d (Zpc ps) (Z4j h1 hn) (fun x=>?_)
 unfold Zc1
 rw[Zeo]
 constructor
 ·rintro⟨hx,k,hk,h2⟩
  obtain⟨p,hp,hkp⟩:=List.mem_flatMap.1 hk
  have:=(hg p hp).known k hkp
  unfold Ze7 at this
  rcases h2 with rfl | rfl
  ·have:=this.1;simpa [hx] using this
  ·have:=this.2;simpa [hx] using this
 ·intro hx
  obtain⟨p,hp,hs⟩:=hc x hx
  unfold Zh1 at hs
  rw[if_pos (hg p hp).valid] at hs
  obtain⟨h3,k,hk,h4⟩:=(Zeo _ _).1 hs
  exact⟨h3,k,List.mem_flatMap.2 ⟨p,hp,hk⟩,h4⟩
theorem Z4l {n m:Nat} {ps:List Prd} (h1:1≤n) (hn:n≤3) (hm:m≤6) (h:∀ p∈ps,GoP n p):Zbu (Za0 n) (m:Int) ps=if 8<(Zak ps).length then 6 else 0 :=
 Zlr (fun q hq=>(h q hq).ok) (Zoc h1 hn hm)
theorem Zjp.two {n m:Nat} (h1:1≤n) (hn:n≤3) (hm:m≤6) {p q:Prd} (gp:GoP n p) (gq:GoP n q) (hc:∀ s∈Za0 n,s∈Zh1 p∨s∈Zh1 q) (f:List Bool→Bool) (g:Nat→Bool) (hg:∀ k,f [trK n m p k,trK n m q k]=g k) {w w':World} {e:Ending}
  (h:Zjp w (Zc1 [p,q]) (Zbu (Zc1 [p,q]) (m:Int) [p,q]) (Zei (Zc1 [p,q]) (m:Int) (Zak [p,q]) [p,q] f) (!(Zei (Zc1 [p,q]) (m:Int) (Zak [p,q]) [p,q] f).isSome) e w') :
  ∃ ro rc,e = .returned (.tuple #[.slice ro (Z67 n m (if 8<(Zak [p,q]).length then (6:Int) else 0) (Zd9 g ((m+1)^n))).length rc,.bool (decide ((if 8<(Zak [p,q]).length then (6:Int) else 0)=0)&&!(Zd9 g ((m+1)^n)).isSome),.int .i64 (if 8<(Zak [p,q]).length then (6:Int) else 0)])∧Zba Zfv w' ro (Z67 n m (if 8<(Zak [p,q]).length then (6:Int) else 0) (Zd9 g ((m+1)^n)))∧Below w.heap.size w w':=by
 have hG:∀ r∈[p,q],GoP n r:=fun r hr=>by
  rcases List.mem_cons.1 hr with h | h
  ·rw[h];exact gp
  ·rw[List.mem_singleton.1 h];exact gq
 rw[Z4k h1 hn hG (fun s hs=>by
  rcases hc s hs with h | h
  ·exact⟨p,by simp,h⟩
  ·exact⟨q,by simp,h⟩),Z4l h1 hn hm hG,Zod hn (GoP.comps hG) f g (fun k=>hg k)] at h
 have:=Zjp.asg hn h
 rwa [Option.isSome_map] at this
end
end Go.Proofs.YtmkdfbelbcocpaaGreatDoor
