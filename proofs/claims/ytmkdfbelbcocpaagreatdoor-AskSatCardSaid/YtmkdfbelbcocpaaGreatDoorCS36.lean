import Derived.Test.YtmkdfbelbcocpaaGreatDoorCS35
import Derived.Test.YtmkdfbelbcocpaaGreatDoorCS25
import Derived.Test.YtmkdfbelbcocpaaGreatDoorCS23
import Derived.Test.YtmkdfbelbcocpaaGreatDoorCS20
import Derived.Test.YtmkdfbelbcocpaaGreatDoorCS22
import Derived.Test.YtmkdfbelbcocpaaGreatDoorCS10
set_option linter.unusedVariables false
set_option linter.unusedSimpArgs false
set_option maxHeartbeats 16000000
set_option maxRecDepth 100000
namespace Go.Proofs.YtmkdfbelbcocpaaGreatDoor
section
open Go.RowKit Go.Sort
def Zlz:List (List Nat):=[[120,46,97],[120,46,98],[121,46,97]]
def Zaz (n:Nat):List (List Nat):=Zlz.take n
theorem Zda {n:Nat} (h:n≤3):(Zaz n).length=n:=by unfold Zaz;rw[List.length_take];exact Nat.min_eq_left h
theorem Zl0 (n:Nat) (hn:n≤3) (w:World) :
  Calls Tryz.prog 55 #[.int .i64 n] w fun e w'=>∃ ao,e = .returned (.slice ao n 3)∧Zcm w' ao (Zaz n)∧Below w.heap.size w w':=by
 have bx:=(Below.refl w.heap.size w).alloc (Nat.le_refl _) (.cells #[.string ⟨#[120,46,97]⟩,.string ⟨#[120,46,98]⟩,.string ⟨#[121,46,97]⟩] 9)
 have X1:Hid (Zah (w.alloc (.cells #[.string ⟨#[120,46,97]⟩,.string ⟨#[120,46,98]⟩,.string ⟨#[121,46,97]⟩] 9)) w.heap.size 9 [.string ⟨#[120,46,97]⟩,.string ⟨#[120,46,98]⟩,.string ⟨#[121,46,97]⟩]):=ħ (heap_alloc_new w _)
 have B1:=ħ bx
 clear bx
 have i0:(0:Int)≤n:=by omega
 have i3:(n:Int)≤3:=by omega
 go_enter Tryz.func55,Tryz.ntmps55
 go_wp2
 go_ret
 refine⟨_,rfl,.inr ⟨_,0,rfl,X1.o.lt,fun j u hj=>?_⟩,B1.o⟩
 have h3:(Zlz.map Z33)[j]?=some u:=by
  unfold Zaz at hj
  rw[List.map_take,List.getElem?_take] at hj
  by_cases h:j<n
  ·rwa [if_pos h] at hj
  ·rw[if_neg h] at hj;cases hj
 exact X1.o.readsR j u h3
theorem Z47 (n m:Nat) (hn:n≤3) (hm:m≤6) (w:World) :
  Calls Tryz.prog 57 #[.int .i64 n,.int .i64 m] w fun e w'=>e = .returned (.int .i64 (((m+1)^n:Nat):Int))∧w=w':=by
 have HP:Hid (∀ i,i≤n→(m+1)^i≤343):=ħ (fun i hi=>by
  have h1:(m+1)^i≤7^i:=Nat.pow_le_pow_left (by omega) i
  have h2:7^i≤7^3:=Nat.pow_le_pow_right (by omega) (by omega)
  omega)
 have e1:IntKind.i64.wrap ((m:Int)+1)=((m+1:Nat):Int):=IntWalk.i64_in _ (by omega)
 go_enter Tryz.func57,Tryz.ntmps57
 go_wp2_with fail
 go_loop [5,6] (fun o c=>∃ i:Nat,c = .int .i64 i∧i≤n∧o = .int .i64 (((m+1)^i:Nat):Int)) (fun o c=>(n-intOf c).toNat)
 case atStart=>exact⟨0,rfl,by omega,rfl⟩
 case round =>
  obtain⟨i,rfl,hi,rfl⟩:=hrel
  have e2:IntKind.i64.wrap ((i:Int)+1)=((i+1:Nat):Int):=IntWalk.i64_in _ (by omega)
  by_cases hlt:i<n
  ·have ii:(i:Int)<n:=by omega
   obtain⟨q,hq⟩:∃ q,(m+1)^i=q:=⟨_,rfl⟩
   obtain⟨r,hr⟩:∃ r,(m+1)^(i+1)=r:=⟨_,rfl⟩
   have HR:=ħ hr
   have hb:=HP.o (i+1) hlt
   rw[Nat.pow_succ] at hr
   rw[hq] at hr
   have e3:IntKind.i64.wrap ((q:Int)*((m:Int)+1))=(r:Int):=(by
    rw[show (q:Int)*((m:Int)+1)=((q*(m+1):Nat):Int) by simp,hr]
    exact IntWalk.i64_in _ (by rw[HR.o] at hb;omega))
   rw[hq]
   clear hq hr hb
   go_wp2
   go_round
   case rel=>exact⟨i+1,by go_num,by omega,by rw[HR.o]⟩
   case measure=>simp only[intOf];omega
  ·have ii:¬ ((i:Int)<n):=by omega
   obtain rfl:i=n:=by omega
   go_wp2
   go_ret
   exact⟨rfl,rfl⟩
end
section
open Go.RowKit Go.Sort
def Zmp (n most k:Nat):List Bnd:=Zc1 (Zaz n) (Zke n most k) n
theorem Z7t {n:Nat} (h:n≤3) (most k:Nat):Zmp n most k=Zfd (Zaz n) (Zke n most k):=by unfold Zmp Zfd;rw[Zda h]
theorem Zot {ns:List (List Nat)} {v:List Int} {j i:Nat} (h:i<j):(Zc1 ns v j)[i]?=some ⟨ns.getD i [],gv v (i+1)⟩:=by
 unfold Zc1
 rw[List.getElem?_map,List.getElem?_range h];rfl
theorem Z0y (ns:List (List Nat)) (vs:List Int) (j i:Nat) (x:Int) (h:i<vs.length):Zc1 ns (0::vs.set i x) j=(Zc1 ns (0::vs) j).set i ⟨ns.getD i [],x⟩:=by
 apply List.ext_getElem?
 intro t
 by_cases ht:t<j
 ·rw[Zot ht,List.getElem?_set]
  by_cases e:i=t
  ·subst e
   rw[if_pos rfl,if_pos (by rw[Zhb];exact ht)]
   rw[show (0::vs.set i x)=(0::vs).set (i+1) x from rfl,Zgs _ _ _ _ (by simp;omega),if_pos rfl]
  ·rw[if_neg e,Zot ht]
   rw[show (0::vs.set i x)=(0::vs).set (i+1) x from rfl,Zgs _ _ _ _ (by simp;omega),if_neg (by omega)]
 ·rw[List.getElem?_eq_none (by rw[Zhb];omega),List.getElem?_eq_none (by rw[List.length_set,Zhb];omega)]
theorem Z48 {b i k k0 n:Nat} {vs:List Int} (hv:vs.length=n) (hi:i<n) (h:Zjf b n k0=Zjf b (i+1) k++vs.drop (i+1)):Zjf b n k0=Zjf b i (k/b)++(vs.set i ((k%b:Nat):Int)).drop i:=by
 rw[h]
 have:(vs.set i ((k%b:Nat):Int)).drop i=((k%b:Nat):Int)::vs.drop (i+1):=by
  rw[List.drop_eq_getElem_cons (by rw[List.length_set];omega),List.getElem_set_self,List.drop_set_of_lt (by omega)]
 rw[this,Zjf,List.append_assoc];rfl
theorem OwnK.setAt {w:World} {B k n cap g off:Nat} {xs:List Value} (h:OwnK w B k n cap xs (some ⟨g,off,none⟩)) (i:Nat) (hi:i<xs.length) (v:Value) :
  OwnK (w.setCell ⟨g,off+i,none⟩ v) B k n cap (xs.set i v) (some ⟨g,off,none⟩):=by
 cases h with
 | «at» g off h h1 h2 h3 =>
  have hth:=h.cells i xs[i] (List.getElem?_eq_getElem hi)
  have hsame:=World.cell?_setCell_same w ⟨g,off+i,none⟩ v hth
  have hoth:∀ j,i≠j→(w.setCell ⟨g,off+i,none⟩ v).cell? ⟨g,off+j,none⟩=w.cell? ⟨g,off+j,none⟩:=fun j hj=>World.cell?_setCell_other w _ _ v (fun e=>hj (by have:=congrArg Addr.off e;simp at this;exact this))
  refine .at g off ⟨h.own,by rw[World.size_setCell];exact h.lt,by rw[List.length_set];exact h.le,fun j u hj=>?_,fun j hj=>?_,fun j hj=>?_⟩ (by rw[List.length_set];exact h1) h2 h3
  ·rw[List.getElem?_set] at hj
   by_cases e:i=j
   ·subst e
    rw[if_pos rfl,if_pos hi] at hj
    cases hj
    exact hsame
   ·rw[if_neg e] at hj
    rw[hoth j e];exact h.cells j u hj
  ·by_cases e:i=j
   ·subst e;rw[hsame];rfl
   ·rw[hoth j e];exact h.room j hj
  ·show (w.setCells g (off+i) [v]).frozen? _=_
   rw[World.frozen?_setCells];exact h.warm j hj
theorem Z0z (l:List Bnd) (i:Nat) (b:Bnd) (hb:l[i]?=some b) (x:Int):(l.flatMap Zfb).set (i*2+1) (.int .i64 x)=(l.set i ⟨b.n,x⟩).flatMap Zfb:=by
 have hi:=(List.getElem?_eq_some_iff.1 hb).1
 apply List.ext_getElem?
 intro j
 rw[Ztv Zfb 2 Zer l i hi,List.getElem?_set]
 by_cases e:i*2+1=j
 ·subst e
  rw[if_pos rfl,if_pos (by rw[Zbe Zfb 2 Zer];omega),if_pos (by omega),show i*2+1-i*2=1 by omega];rfl
 ·rw[if_neg e]
  by_cases e2:i*2≤j∧j<i*2+2
  ·obtain rfl:j=i*2:=by omega
   rw[if_pos e2,Nat.sub_self]
   have:=Zb2 Zfb 2 Zer l i 0 b hb (by omega)
   rw[Nat.add_zero] at this
   rw[this];rfl
  ·rw[if_neg e2]
theorem Znn (k n m:Nat) (hn:n≤3) (hm:m≤6) (hk:k≤1000000) (w:World) :
  Calls Tryz.prog 58 #[.int .i64 k,.int .i64 n,.int .i64 m] w fun e w'=>(∃ ro rc,e = .returned (.slice ro n rc)∧OwnK w' w.heap.size 2 n rc ((Zmp n m k).flatMap Zfb) ro)∧Below w.heap.size w w':=by
 have HS:=ħ (fun W=>Zl0 n hn W)
 have HL:=ħ (Zda hn)
 have bx:=(Below.refl w.heap.size w).alloc (Nat.le_refl _) (.cells #[] 87)
 have B0:=ħ bx
 have O0:Hid (OwnK (w.alloc (.cells #[] 87)) w.heap.size 2 0 0 ((Zc1 (Zaz n) (0::List.replicate n 0) 0).flatMap Zfb) (some ⟨w.heap.size,0,none⟩)):=ħ (by have:=OwnK.made w 87 2;simpa [Zc1] using this)
 clear bx
 have e1:IntKind.i64.wrap ((m:Int)+1)=(m:Int)+1:=IntWalk.i64_in _ (by omega)
 go_enter Tryz.func58,Tryz.ntmps58
 go_wp2_with fail
 go_loopw [7,8] (fun o c wr=>∃ (i:Nat) (ro:Option Addr) (rc:Nat),c = .int .i64 i∧i≤n∧o = .slice ro i rc∧Hid (OwnK wr w.heap.size 2 i rc ((Zc1 (Zaz n) (0::List.replicate n 0) i).flatMap Zfb) ro)∧Hid (Below w.heap.size w wr)) (fun o c _=>(n-intOf c).toNat)
 case atStart=>exact⟨0,_,0,rfl,by omega,rfl,O0,B0⟩
 case round =>
  clear O0 B0
  obtain⟨i,ro,rc,rfl,hi,rfl,ho,hw⟩:=hrel
  have e2:IntKind.i64.wrap ((i:Int)+1)=((i+1:Nat):Int):=IntWalk.i64_in _ (by omega)
  by_cases hlt:i<n
  ·have ii:(i:Int)<n:=by omega
   obtain⟨s,hs⟩:∃ s,(Zaz n)[i]?=some s:=⟨_,List.getElem?_eq_getElem (by rw[HL.o];exact hlt)⟩
   have HTK:Hid ((Zc1 (Zaz n) (0::List.replicate n 0) i).flatMap Zfb++[.string (Zad s),.int .i64 0]=(Zc1 (Zaz n) (0::List.replicate n 0) (i+1)).flatMap Zfb):=ħ (by
    rw[Znc hs,← Zha]
    have:gv (0::List.replicate n 0) (i+1)=0:=Zg0 (n+1) (i+1)
    rw[this];rfl)
   go_wp2_with fail
   refine (HS.o wr).mono ?_
   rintro e w2 ⟨sa,rfl,hsr,b2⟩
   have HW2:=ħ (hw.o.trans (b2.mono hw.o.size))
   have HO2:=ħ (ho.o.below b2)
   obtain⟨g,off,hao,hg,hc⟩:=hsr.at i s hs
   subst hao
   clear b2 hsr hs ho hw
   generalize Zad s=y at *
   go_wp2_with (at_builtin;refine Zff 49 87 Z9l 2 24 Tryz.underlying49 Zuh rfl (by omega) (by omega) w2 w.heap.size rfl (.tmp 16) (.tmp 23) rfl ro rc i ((Zc1 (Zaz n) (0::List.replicate n 0) i).flatMap Zfb) ?q1 HO2.o HW2.o.size 1 1 #[.string y,.int .i64 0] 87 ?q2 rfl (by omega) ?q3 ?q4 ?_;(case q1=>rfl);(case q2=>rfl);(case q3=>simp[Value.oneCell']);(case q4=>omega);intro g5 off5 c5 wa o8 gr8 b8 or8;have O8:=ħ o8;have B8:=ħ b8;clear o8 gr8 b8 or8)
   have B4:=ħ (HW2.o.trans B8.o)
   clear HO2 HW2 hg hc B8
   go_roundw
   case rel=>exact⟨i+1,some ⟨g5,off5,none⟩,c5,by go_num,by omega,rfl,ħ (by rw[← HTK.o];exact O8.o),B4⟩
   case measure=>simp only[intOf];omega
  ·obtain rfl:i=n:=by omega
   have ii:¬ ((i:Int)<(i:Int)):=by omega
   have HDG:Hid (∃ vs:List Int,vs.length=i∧Zc1 (Zaz i) (0::List.replicate i 0) i=Zc1 (Zaz i) (0::vs) i∧Zjf (m+1) i k=Zjf (m+1) i k++vs.drop i):=ħ ⟨List.replicate i 0,by simp,rfl,by simp⟩
   obtain⟨vs,hvl,hvb,hvd⟩:=HDG.o
   rw[hvb] at ho
   have HO0:=ħ ho.o
   have HW0:=ħ hw.o
   have HVL:=ħ hvl
   have HVD:=ħ hvd
   have e3:IntKind.i64.wrap ((i:Int)-1)=(i:Int)-1:=IntWalk.i64_in _ (by omega)
   clear HDG hvb hvl hvd ho hw
   go_wp2_with fail
   go_loopw [0,9] (fun kc c wq=>∃ (q t:Nat) (vs:List Int),c = .int .i64 ((t:Int)-1)∧t≤i∧kc = .int .i64 q∧q≤1000000∧Hid (vs.length=i)∧Hid (Zjf (m+1) i k=Zjf (m+1) t q++vs.drop t)∧Hid (OwnK wq w.heap.size 2 i rc ((Zc1 (Zaz i) (0::vs) i).flatMap Zfb) ro)∧Hid (Below w.heap.size w wq)) (fun kc c _=>(intOf c+1).toNat)
   case atStart=>exact⟨k,i,vs,rfl,Nat.le_refl _,rfl,by omega,HVL,HVD,HO0,HW0⟩
   case round =>
    clear HO0 HW0 HVL HVD vs
    obtain⟨q,t,vs,rfl,ht,rfl,hq,hvl,hvd,ho,hw⟩:=hrel
    by_cases ht0:0<t
    ·obtain⟨t',rfl⟩:∃ t',t=t'+1:=⟨t-1,by omega⟩
     rw[show (((t'+1:Nat):Int)-1)=(t':Int) by omega]
     have i0:(0:Int)≤t':=by omega
     have i1:(t':Int)<i:=by omega
     obtain⟨g,off,hao,hB,hg,hr⟩:=ho.o.readsAt (by omega)
     subst hao
     have hbt:=Zot (ns:=Zaz i) (v:=0::vs) (show t'<i by omega)
     have hlt2:t'*2+1<((Zc1 (Zaz i) (0::vs) i).flatMap Zfb).length:=by rw[Zbe Zfb 2 Zer,Zhb];omega
     have c0:wr.cell? ⟨g,off+t'*2+1,none⟩=some (.int .i64 (gv (0::vs) (t'+1))):=by
      rw[Nat.add_assoc]
      refine hr (t'*2+1) _ ?_
      rw[Zb2 Zfb 2 Zer _ t' 1 _ hbt (by omega)];rfl
     have fz:wr.frozen? ⟨g,off+t'*2+1,none⟩=false:=by
      have:=ho.o.len_le.1
      rw[Nat.add_assoc]
      exact ho.o.reads.2.2.2 _ (by omega)
     obtain⟨X,hX⟩:∃ X,q%(m+1)=X:=⟨_,rfl⟩
     have HO2:Hid (OwnK (wr.setCell ⟨g,off+t'*2+1,none⟩ (.int .i64 ((X:Nat):Int))) w.heap.size 2 i rc ((Zc1 (Zaz i) (0::vs.set t' ((X:Nat):Int)) i).flatMap Zfb) (some ⟨g,off,none⟩)):=ħ (by
      have:=ho.o.setAt (t'*2+1) hlt2 (.int .i64 ((X:Nat):Int))
      rw[Z0z _ t' _ hbt,← Nat.add_assoc] at this
      rw[Z0y _ _ _ _ _ (by rw[hvl.o];omega)]
      exact this)
     have HD2:Hid (Zjf (m+1) i k=Zjf (m+1) t' (q/(m+1))++(vs.set t' ((X:Nat):Int)).drop t'):=ħ (by rw[← hX];exact Z48 hvl.o (by omega) hvd.o)
     have HW2:Hid (Below w.heap.size w (wr.setCell ⟨g,off+t'*2+1,none⟩ (.int .i64 ((X:Nat):Int)))):=ħ (hw.o.setCell (p:=⟨g,off+t'*2+1,none⟩) hB _)
     have hqd:q/(m+1)≤1000000:=Nat.le_trans (Nat.div_le_self _ _) hq
     obtain⟨Y,hY⟩:∃ Y,q/(m+1)=Y:=⟨_,rfl⟩
     rw[hY] at hqd HD2
     have r1:((q:Int)).tmod ((m:Int)+1)=(X:Int):=by rw[← hX];rfl
     have r2:((q:Int)).tdiv ((m:Int)+1)=(Y:Int):=by rw[← hY];rfl
     have r0:((m:Int)+1==0)=false:=beq_eq_false_iff_ne.mpr (by omega)
     have r3:IntKind.i64.wrap (X:Int)=(X:Int):=IntWalk.i64_in _ (by have:=Nat.mod_le q (m+1);omega)
     have r4:IntKind.i64.wrap (Y:Int)=(Y:Int):=IntWalk.i64_in _ (by omega)
     have e4:IntKind.i64.wrap ((t':Int)-1)=(t':Int)-1:=IntWalk.i64_in _ (by omega)
     clear hX hY hbt hlt2 hr hB hg ho hw hvd e3
     go_wp2
     go_roundw
     case rel=>exact⟨Y,t',vs.set t' ((X:Nat):Int),rfl,by omega,rfl,hqd,ħ (by rw[List.length_set];exact hvl.o),HD2,HO2,HW2⟩
     case measure=>simp only[intOf];omega
    ·obtain rfl:t=0:=by omega
     have HV:Hid (Zmp i m k=Zc1 (Zaz i) (0::vs) i):=ħ (by
      have:=hvd.o
      rw[Zjf,List.drop_zero,List.nil_append] at this
      unfold Zmp Zke;rw[this])
     rw[show (((0:Nat):Int)-1)=(-1:Int) by omega]
     go_wp2
     go_ret
     exact⟨⟨ro,rc,rfl,by rw[HV.o];exact ho.o⟩,hw.o⟩
end
section
theorem Z00 (n m k:Nat) (hm:m≤6):∃ ds:List Int,Zjf (m+1) n k=ds∧ds.length=n∧∀ x∈ds,0≤x∧x≤65535:=by
 refine⟨_,rfl,Zis _ _ _,fun x hx=>?_⟩
 have:=Zoe (m+1) (by omega) n k x hx
 omega
theorem Zju {n:Nat} (hn:n≤3) {s:List Nat} (h:s∈Zaz n):s=[120,46,97]∨s=[120,46,98]∨s=[121,46,97]:=by
 have:=List.mem_of_mem_take h
 simpa [Zlz] using this
theorem Z01 (n m k:Nat) (hn:n≤3) (hm:m≤6):vbP (Zmp n m k)=true∧∀ s,Zfg (Zaz n) s=true→Ziw (Zoj (Zmp n m k)) s=some (gv (Zke n m k) (Zcp (Zaz n) s)):=by
 obtain⟨ds,h1,h2,h3⟩:=Z00 n m k hm
 unfold Zmp Zke
 rw[h1]
 clear h1
 match n,hn,ds,h2,h3 with
 | 0,_,[],_,_=>exact⟨rfl,fun s hs=>by
   have:s=[]:=by simpa [Zfg,Zaz,Zlz] using hs
   subst this;rfl⟩
 | 1,_,[a],_,h3 =>
  have ha:=h3 a (by simp)
  refine⟨?_,fun s hs=>?_⟩
  ·show vbP [⟨[120,46,97],a⟩]=true
   simp[vbP,vbG,ha]
   decide
  ·have:s=[]∨s=[120,46,97]:=by simpa [Zfg,Zaz,Zlz] using hs
   rcases this with rfl | rfl<;>rfl
 | 2,_,[a,b],_,h3 =>
  have ha:=h3 a (by simp)
  have hb:=h3 b (by simp)
  refine⟨?_,fun s hs=>?_⟩
  ·show vbP [⟨[120,46,97],a⟩,⟨[120,46,98],b⟩]=true
   simp[vbP,vbG,ha,hb]
   decide
  ·have:s=[]∨s=[120,46,97]∨s=[120,46,98]:=by simpa [Zfg,Zaz,Zlz] using hs
   rcases this with rfl | rfl | rfl<;>rfl
 | 3,_,[a,b,c],_,h3 =>
  have ha:=h3 a (by simp)
  have hb:=h3 b (by simp)
  have hc:=h3 c (by simp)
  refine⟨?_,fun s hs=>?_⟩
  ·show vbP [⟨[120,46,97],a⟩,⟨[120,46,98],b⟩,⟨[121,46,97],c⟩]=true
   simp[vbP,vbG,ha,hb,hc]
   decide
  ·have:s=[]∨s=[120,46,97]∨s=[120,46,98]∨s=[121,46,97]:=by simpa [Zfg,Zaz,Zlz] using hs
   rcases this with rfl | rfl | rfl | rfl<;>rfl
def trK (n m:Nat) (p:Prd) (k:Nat):Bool:=Zas (fK (Zaz n) (gv (Zke n m k))) p
theorem Z49 (n m k:Nat) (hn:n≤3) (hm:m≤6) (p:Prd) (hv:Zap p=true) (hk:Ziq (Zaz n) (Zak p)):Zvp p (Zmp n m k)=(trK n m p k,0):=by
 obtain⟨h1,h2⟩:=Z01 n m k hn hm
 unfold Zvp
 rw[if_neg (by rw[hv,h1];simp),if_neg]
 ·unfold trK
  congr 1
  refine Zlf (fun x hx=>?_)
  have:=hk x ((Zbc p x).2 hx)
  unfold fV fK gvD
  rw[h2 _ this.1,h2 _ this.2];rfl
 ·rw[Bool.not_eq_false,List.all_eq_true]
  intro x hx
  have:=hk x hx
  unfold bdV
  rw[h2 _ this.1,h2 _ this.2];rfl
theorem Z02 (n m k:Nat) (hn:n≤3):BndOk (Zmp n m k):=⟨fun b hb=>by
 unfold Zmp Zc1 at hb
 obtain⟨i,hi,rfl⟩:=List.mem_map.1 hb
 have hi2:i<(Zaz n).length:=by rw[Zda hn];simpa using hi
 have:(Zaz n).getD i []∈Zaz n:=by rw[List.getD_eq_getElem?_getD,List.getElem?_eq_getElem hi2];exact List.getElem_mem _
 show NmB ((Zaz n).getD i [])
 rcases Zju hn this with h | h | h<;>rw[h]<;>exact⟨by decide,by decide⟩⟩
theorem Zfq (n m k:Nat):(Zmp n m k).length=n:=Zhb _ _ _
end
section
open Go.RowKit Go.Sort
theorem OwnK.bndR {w:World} {B n cap:Nat} {ao:Option Addr} {l:List Bnd} (h:OwnK w B 2 n cap (l.flatMap Zfb) ao) (hn:n=l.length):Z3v w (fun _=>True) l ao:=by
 rcases h.flatR Zer hn with h | ⟨g,off,h1,h2,h3⟩
 ·exact .inl h
 ·exact .inr ⟨g,off,h1,trivial,h2,h3⟩
theorem Z03 (p:Prd) (w:World) (P:Nat→Prop) (vs:List Value) (B n m k:Nat) (hN:Za5 p≤1000000) (hb:Zhu p) (h:Zai w P p vs) (hT:Tab w B) (hn:n≤3) (hm:m≤6) (hv:Zap p=true) (hk:Ziq (Zaz n) (Zak p))
  (W:World) (hW:Below w.heap.size w W) (ro:Option Addr) (rc:Nat) (hro:Z3v W (fun _=>True) (Zmp n m k) ro) :
  Calls Tryz.prog 42 #[.agg vs.toArray,.slice ro n rc] W fun e w'=>e = .returned (.tuple #[.bool (trK n m p k),.int .i64 0])∧Below W.heap.size W w':=by
 have:=Zzk p W P (fun _=>True) vs B (Zmp n m k) ro n rc hN hb (h.below hW) (Zb7.step (w:=w) hT hW) (Zfq n m k).symm (by omega) (Z02 n m k hn) hro
 rw[Z49 n m k hn hm p hv hk] at this
 exact this
theorem Z04 {g:Nat→Bool} {m k:Nat} (h:Zcz g m=some k):k<m∧g k=true∧∀ j,j<k→g j=false:=by
 unfold Zcz at h
 have h1:=List.find?_some h
 have h2:=List.mem_of_find?_eq_some h
 rw[List.mem_range] at h2
 refine⟨h2,h1,fun j hj=>?_⟩
 rw[List.find?_range_eq_some] at h
 have:=h.2.2 j hj
 simpa using this
def Zl1 (g:Nat→Bool) (m:Nat):Int:=match Zcz g m with
 | some k=>(k:Int)
 | none=>-1
theorem Z05 {g:Nat→Bool} {m k:Nat} (hk:k<m) (h:g k=true) (hj:∀ j,j<k→g j=false):Zl1 g m=(k:Int):=by
 unfold Zl1 Zcz
 rw[(List.find?_range_eq_some (p:=g) (i:=k) (n:=m)).2 ⟨h,List.mem_range.2 hk,fun j h1=>by rw[hj j h1];rfl⟩]
theorem Z06 {g:Nat→Bool} {m:Nat} (h:∀ j,j<m→g j=false):Zl1 g m = -1:=by
 unfold Zl1 Zcz
 rw[List.find?_eq_none.2 (fun x hx=>by rw[h x (List.mem_range.1 hx)];simp)]
theorem Z9s (t:Array Value) (h:t.size=28):∃ f:Nat→Value,t=#[f 0,f 1,f 2,f 3,f 4,f 5,f 6,f 7,f 8,f 9,f 10,f 11,f 12,f 13,f 14,f 15,f 16,f 17,f 18,f 19,f 20,f 21,f 22,f 23,f 24,f 25,f 26,f 27]:=by
 obtain⟨l⟩:=t
 have hl:l.length=28:=h
 have e:l=(List.range 28).map (fun i=>l.getD i undef):=by
  apply List.ext_getElem
  ·simp[hl]
  ·intro i h1 h2
   simp[List.getD,h1]
 exact⟨fun i=>l.getD i undef,congrArg List.toArray e⟩
def fsF (q0 q3:Int) (q1 q2:ByteArray) (xa:Option Addr) (xn xc n m k:Nat) (R:Bool) (i:Nat) (W:World) (v:Value):Prop:=match i with
 | 0=>v = .agg #[.int .i64 q0,.string q1,.string q2,.int .i64 q3,.slice xa xn xc]
 | 1=>v = .int .i64 (k:Nat)
 | 2=>v = .int .i64 (n:Nat)
 | 3=>v = .int .i64 (m:Nat)
 | 4=>∃ ro rc,v = .slice ro n rc∧Z3v W (fun _=>True) (Zmp n m k) ro
 | 5=>v = .tuple #[.bool R,.int .i64 0]
 | 6=>v = .tuple #[.bool R,.int .i64 0]
 | 7=>v = .bool R
 | 8=>v = .int .i64 0
 | 9=>v = .bool R
 | 10=>v = .int .i64 0
 | _=>True
theorem Z5a (q0 q3:Int) (q1 q2:ByteArray) (xa:Option Addr) (xn xc n m k:Nat) (R:Bool):∀ i w w' v,fsF q0 q3 q1 q2 xa xn xc n m k R i w v→Below w.heap.size w w'→fsF q0 q3 q1 q2 xa xn xc n m k R i w' v:=by
 intro i w w' v h hb
 match i with
 | 0=>exact h
 | 1=>exact h
 | 2=>exact h
 | 3=>exact h
 | 4=>obtain⟨ro,rc,h1,h2⟩:=h;exact⟨ro,rc,h1,h2.below hb⟩
 | 5=>exact h
 | 6=>exact h
 | 7=>exact h
 | 8=>exact h
 | 9=>exact h
 | 10=>exact h
 | k+11=>trivial
theorem Z07 (p:Prd) (w:World) (P:Nat→Prop) (vs:List Value) (B n m:Nat) (hN:Za5 p≤1000000) (hb:Zhu p) (h:Zai w P p vs) (hT:Tab w B) (hn:n≤3) (hm:m≤6) (hv:Zap p=true) (hk:Ziq (Zaz n) (Zak p)) :
  Calls Tryz.prog 64 #[.agg vs.toArray,.int .i64 n,.int .i64 m] w fun e w'=>e = .returned (.int .i64 (Zl1 (trK n m p) ((m+1)^n)))∧Below w.heap.size w w':=by
 obtain⟨xa,xn,xc,rfl,-⟩:=h.form
 have HH0:=ħ (fun k W hW ro rc hro=>Z03 p w P _ B n m k hN hb h hT hn hm hv hk W hW ro rc hro)
 have HAS0:=ħ (fun k (hk:k≤1000000) W=>Znn k n m hn hm hk W)
 have HAL:=ħ (fun W=>Z47 n m hn hm W)
 have HM:Hid ((m+1)^n≤343):=ħ (by
  have h1:(m+1)^n≤7^n:=Nat.pow_le_pow_left (by omega) n
  have h2:7^n≤7^3:=Nat.pow_le_pow_right (by omega) (by omega)
  omega)
 have HF1:=ħ (fun k h1 h2 h3=>Z05 (g:=trK n m p) (m:=(m+1)^n) (k:=k) h1 h2 h3)
 have HF2:=ħ (fun h=>Z06 (g:=trK n m p) (m:=(m+1)^n) h)
 generalize Zl1 (trK n m p) ((m+1)^n)=RES at *
 generalize (m+1)^n=N at *
 generalize trK n m p=G at *
 generalize p.k=q0 at *
 generalize Zad p.l=q1 at *
 generalize Zad p.r=q2 at *
 generalize p.c=q3 at *
 have bx:=(Below.refl w.heap.size w).alloc (Nat.le_refl _) (.cells #[.int .i64 q0,.string q1,.string q2,.int .i64 q3,.slice xa xn xc] 25)
 have B1:=ħ bx
 have Y1:Hid (Zah (w.alloc (.cells #[.int .i64 q0,.string q1,.string q2,.int .i64 q3,.slice xa xn xc] 25)) w.heap.size 25 [.int .i64 q0,.string q1,.string q2,.int .i64 q3,.slice xa xn xc]):=ħ (heap_alloc_new w _)
 clear bx h hT hN hb hv hk
 go_enter Tryz.func64,Tryz.ntmps64
 go_upto_region 1 with (fail)
 generalize w.alloc (.cells #[.int .i64 q0,.string q1,.string q2,.int .i64 q3,.slice xa xn xc] 25)=w1 at *
 go_wp2_with fail
 go_loopw [7] (fun kv wr=>∃ (k:Nat),kv = .int .i64 k∧k≤N∧Hid (∀ j,j<k→G j=false)∧Hid (Zah wr w.heap.size 25 [.int .i64 q0,.string q1,.string q2,.int .i64 q3,.slice xa xn xc])∧Hid (Below w.heap.size w wr)) (fun k _=>(N-intOf k).toNat)
 case atStart=>exact⟨0,rfl,by omega,ħ (fun j hj=>absurd hj (Nat.not_lt_zero j)),Y1,B1⟩
 case round =>
  clear Y1 B1
  obtain⟨k,rfl,hkn,hno,X1,hw⟩:=hrel
  have h343:=HM.o
  have e2:IntKind.i64.wrap ((k:Int)+1)=((k+1:Nat):Int):=IntWalk.i64_in _ (by omega)
  go_wp2_with fail
  refine (HAL.o wr).mono ?_
  rintro e w2 ⟨rfl,rfl⟩
  by_cases hlt:k<N
  ·have ii:(k:Int)<N:=by omega
   have HH:=ħ (fun W (hW:Below w.heap.size w W) ro rc hro=>HH0.o k W hW ro rc hro)
   have HAS:=ħ (fun W=>HAS0.o k (by omega) W)
   obtain⟨R,hR⟩:∃ R,G k=R:=⟨_,rfl⟩
   rw[hR] at HH
   have HR:=ħ hR
   clear hR
   go_upto_region 4 with (fail)
   clear ii
   refine Zd3 (fsF q0 q3 q1 q2 xa xn xc n m k R) (by kernel_rfl) (Z5a q0 q3 q1 q2 xa xn xc n m k R) (Zei (by kernel_rfl)) (Zpd (by kernel_rfl)) (Zc5 (by kernel_rfl)) ?hs ?he
   case hs =>
    intro i o hi listed a' w' H hl2
    have hl3:=Za7 hl2
    have hin:i<11:=(Array.getElem?_eq_some_iff.1 hi).1
    have hb:=ħ H.below
    have s3:=H.same 3 (Zao (by kernel_rfl))
    have s7:=H.same 7 (Zao (by kernel_rfl))
    have s1:=H.same 1 (Zao (by kernel_rfl))
    have s2:=H.same 2 (Zao (by kernel_rfl))
    have hdn:=H.done
    have hdf:=H.defers
    have hts:=H.tsize
    clear hl2 H
    obtain⟨t',df⟩:=a'
    obtain⟨f',rfl⟩:=Z9s t' hts
    have hdf':df=[]:=hdf
    subst hdf'
    have gs3:f' 3 = .pointer (some ⟨w.heap.size,0,none⟩):=s3
    have gs7:f' 7 = .int .i64 (k:Nat):=s7
    have gs1:f' 1 = .int .i64 (n:Nat):=s1
    have gs2:f' 2 = .int .i64 (m:Nat):=s2
    clear s3 s7 s1 s2
    clear hdf hts
    have hcases:=Znj i hin
    clear hin
    rcases hcases with rfl | rfl | rfl | rfl | rfl | rfl | rfl | rfl | rfl | rfl | rfl
    ·obtain rfl:=Option.some.inj hi
     clear hdn hl3
     rw[gs3]
     clear gs3 gs7 gs1 gs2
     have X2:=X1.o.step hb.o
     refine Zac rfl ?_
     go_wp2_with (refine wpList_load_row rfl 25 (.tmp 3) rfl w.heap.size ?x1 25 #[.int .i64 q0,.string q1,.string q2,.int .i64 q3,.slice xa xn xc] (0,0) _ X2 Tryz.underlying25 rfl (Zae _ rfl) ?_;(case x1=>rfl))
     exact Zaa ⟨_,rfl,Below.refl _ _,rfl⟩
    ·obtain rfl:=Option.some.inj hi
     clear hdn hl3
     rw[gs7]
     clear gs3 gs7 gs1 gs2
     refine Zac rfl ?_
     go_wp2_with fail
     exact Zaa ⟨_,rfl,Below.refl _ _,rfl⟩
    ·obtain rfl:=Option.some.inj hi
     clear hdn hl3
     rw[gs1]
     clear gs3 gs7 gs1 gs2
     refine Zac rfl ?_
     go_wp2_with fail
     exact Zaa ⟨_,rfl,Below.refl _ _,rfl⟩
    ·obtain rfl:=Option.some.inj hi
     clear hdn hl3
     rw[gs2]
     clear gs3 gs7 gs1 gs2
     refine Zac rfl ?_
     go_wp2_with fail
     exact Zaa ⟨_,rfl,Below.refl _ _,rfl⟩
    ·obtain rfl:=Option.some.inj hi
     have dv1:f' 19 = .int .i64 (k:Nat):=hdn 1 _ 19 rfl (hl3 1 (by rfl)) rfl
     have dv2:f' 20 = .int .i64 (n:Nat):=hdn 2 _ 20 rfl (hl3 2 (by rfl)) rfl
     have dv3:f' 21 = .int .i64 (m:Nat):=hdn 3 _ 21 rfl (hl3 3 (by rfl)) rfl
     clear hdn hl3
     rw[dv1,dv2,dv3]
     clear dv1 dv2 dv3 gs3 gs7 gs1 gs2
     refine Zac rfl ?_
     go_wp2_with fail
     refine (HAS.o w').mono ?_
     rintro e w4 ⟨⟨ro,rc,rfl,ho⟩,b4⟩
     have HO:=ħ (ho.bndR (Zfq _ _ _).symm)
     have HB4:=ħ b4
     clear ho b4
     go_wp2_with fail
     exact Zaa ⟨_,rfl,HB4.o,ro,rc,rfl,HO.o⟩
    ·obtain rfl:=Option.some.inj hi
     have dv0:f' 18 = .agg #[.int .i64 q0,.string q1,.string q2,.int .i64 q3,.slice xa xn xc]:=hdn 0 _ 18 rfl (hl3 0 (by rfl)) rfl
     have dv4:fsF q0 q3 q1 q2 xa xn xc n m k R 4 w' (f' 22):=hdn 4 _ 22 rfl (hl3 4 (by rfl)) rfl
     obtain⟨ro,rc,dv4,hro⟩:=dv4
     clear hdn hl3
     rw[dv0,dv4]
     clear dv0 dv4 gs3 gs7 gs1 gs2
     have HRO:=ħ hro
     clear hro
     refine Zac rfl ?_
     go_wp2_with fail
     refine (HH.o w' (hw.o.trans (hb.o.mono hw.o.size)) ro rc HRO.o).mono ?_
     rintro e w4 ⟨rfl,b4⟩
     have HB4:=ħ b4
     clear b4
     go_wp2_with fail
     exact Zaa ⟨_,rfl,HB4.o,rfl⟩
    ·obtain rfl:=Option.some.inj hi
     have dv5:f' 23 = .tuple #[.bool R,.int .i64 0]:=hdn 5 _ 23 rfl (hl3 5 (by rfl)) rfl
     clear hdn hl3
     rw[dv5]
     clear dv5 gs3 gs7 gs1 gs2
     refine Zac rfl ?_
     go_wp2_with fail
     exact Zaa ⟨_,rfl,Below.refl _ _,rfl⟩
    ·obtain rfl:=Option.some.inj hi
     have dv6:f' 17 = .tuple #[.bool R,.int .i64 0]:=hdn 6 _ 17 rfl (hl3 6 (by rfl)) rfl
     clear hdn hl3
     rw[dv6]
     clear dv6 gs3 gs7 gs1 gs2
     refine Zac rfl ?_
     go_wp2_with fail
     exact Zaa ⟨_,rfl,Below.refl _ _,rfl⟩
    ·obtain rfl:=Option.some.inj hi
     have dv6:f' 17 = .tuple #[.bool R,.int .i64 0]:=hdn 6 _ 17 rfl (hl3 6 (by rfl)) rfl
     clear hdn hl3
     rw[dv6]
     clear dv6 gs3 gs7 gs1 gs2
     refine Zac rfl ?_
     go_wp2_with fail
     exact Zaa ⟨_,rfl,Below.refl _ _,rfl⟩
    ·obtain rfl:=Option.some.inj hi
     have dv7:f' 24 = .bool R:=hdn 7 _ 24 rfl (hl3 7 (by rfl)) rfl
     clear hdn hl3
     rw[dv7]
     clear dv7 gs3 gs7 gs1 gs2
     refine Zac rfl ?_
     go_wp2_with fail
     exact Zaa ⟨_,rfl,Below.refl _ _,rfl⟩
    ·obtain rfl:=Option.some.inj hi
     have dv8:f' 25 = .int .i64 0:=hdn 8 _ 25 rfl (hl3 8 (by rfl)) rfl
     clear hdn hl3
     rw[dv8]
     clear dv8 gs3 gs7 gs1 gs2
     refine Zac rfl ?_
     go_wp2_with fail
     exact Zaa ⟨_,rfl,Below.refl _ _,rfl⟩
   case he =>
    intro listed a' w4 H hall
    have hd9:fsF q0 q3 q1 q2 xa xn xc n m k R 9 w4 (a'.tmps.getD 8 undef):=H.done 9 _ 8 rfl (hall 9 (by decide)) rfl
    have hd10:fsF q0 q3 q1 q2 xa xn xc n m k R 10 w4 (a'.tmps.getD 9 undef):=H.done 10 _ 9 rfl (hall 10 (by decide)) rfl
    have hb4:=ħ H.below
    have hact:=H.act [18,19,20,21,22,23,17,24,25,8,9] (Zn4 (by kernel_rfl))
    clear H hall
    simp only[List.foldl_cons,List.foldl_nil] at hact
    generalize a'.tmps.getD 18 undef=z18 at *
    generalize a'.tmps.getD 19 undef=z19 at *
    generalize a'.tmps.getD 20 undef=z20 at *
    generalize a'.tmps.getD 21 undef=z21 at *
    generalize a'.tmps.getD 22 undef=z22 at *
    generalize a'.tmps.getD 23 undef=z23 at *
    generalize a'.tmps.getD 17 undef=z17 at *
    generalize a'.tmps.getD 24 undef=z24 at *
    generalize a'.tmps.getD 25 undef=z25 at *
    generalize a'.tmps.getD 8 undef=z8 at *
    generalize a'.tmps.getD 9 undef=z9 at *
    subst hact
    have e9:z8 = .bool R:=hd9
    subst e9
    clear hd9
    have e10:z9 = .int .i64 0:=hd10
    subst e10
    clear hd10
    simp only[Act.put,List.setIfInBounds_toArray,List.set_cons_succ,List.set_cons_zero]
    have W4:=ħ (hw.o.trans (hb4.o.mono hw.o.size))
    have X4:=ħ (X1.o.step hb4.o)
    clear hb4 X1 hw
    cases R with
    | true =>
     go_wp2
     go_ret
     exact⟨Za0 (HF1.o k hlt HR.o hno.o).symm,W4.o⟩
    | false =>
     go_wp2
     go_roundw
     case rel=>exact⟨k+1,by go_num,by omega,ħ (fun j hj=>by
      rcases Nat.lt_or_ge j k with h | h
      ·exact hno.o j h
      ·obtain rfl:j=k:=by omega
       exact HR.o),X4,W4⟩
     case measure=>simp only[intOf];omega
  ·have ii:¬ ((k:Int)<N):=by omega
   obtain rfl:k=N:=by omega
   go_wp2
   go_ret
   exact⟨Za0 (HF2.o hno.o).symm,hw.o⟩
end
section
open Go.RowKit Go.Sort
def Zl2 (n:Nat) (p:Prd):Bool:=(Zua p).all (fun s=>(Zaz n).contains s)
theorem Z08 {n:Nat} {p:Prd} (hv:Zap p=true):Zl2 n p=true↔Ziq (Zaz n) (Zak p):=by
 unfold Zl2 Zua Ziq
 rw[if_pos hv,List.all_eq_true]
 unfold Zj1 Zfg
 constructor
 ·intro h k hk
  constructor
  ·by_cases e:k.l=[]
   ·rw[e];rfl
   ·rw[h k.l ((Zgi _ _).2 ⟨e,k,hk,.inl rfl⟩)];simp
  ·by_cases e:k.r=[]
   ·rw[e];rfl
   ·rw[h k.r ((Zgi _ _).2 ⟨e,k,hk,.inr rfl⟩)];simp
 ·intro h s hs
  obtain⟨h1,k,hk,h2⟩:=(Zgi _ _).1 hs
  rcases h2 with rfl | rfl
  ·have:=(h k hk).1
   simpa [h1] using this
  ·have:=(h k hk).2
   simpa [h1] using this
theorem Z82 {p:Prd} {s:List Nat} (h:s∈Zua p):∀ y∈s,y<256:=by
 unfold Zua at h
 by_cases hv:Zap p=true
 ·rw[if_pos hv] at h
  obtain⟨h1,k,hk,h2⟩:=(Zgi _ _).1 h
  have:=Zeb p (Zb4 hv) k ((Zbc p k).1 hk)
  rcases h2 with rfl | rfl
  ·exact this.lb
  ·exact this.rb
 ·rw[if_neg hv] at h;cases h
theorem Z09 {n:Nat} (hn:n≤3):∀ s∈Zaz n,∀ y∈s,y<256:=fun s hs=>by
 rcases Zju hn hs with h | h | h<;>subst h<;>decide
theorem Z1a (p:Prd) (hN:Za5 p≤100000):(Zua p).length≤1000000:=by
 unfold Zua
 split
 ·unfold Zj1
  refine Nat.le_trans (Zuu _) ?_
  have:(Zak p).length≤Za5 p:=Nat.le_trans (Zed _ (Zbx p) (Ziv (Zew p)) (fun x hx=>(Zbc p x).1 hx)) (Ze3 p)
  omega
 ·simp
theorem Z9t (t:Array Value) (h:t.size=23):∃ f:Nat→Value,t=#[f 0,f 1,f 2,f 3,f 4,f 5,f 6,f 7,f 8,f 9,f 10,f 11,f 12,f 13,f 14,f 15,f 16,f 17,f 18,f 19,f 20,f 21,f 22]:=by
 obtain⟨l⟩:=t
 have hl:l.length=23:=h
 have e:l=(List.range 23).map (fun i=>l.getD i undef):=by
  apply List.ext_getElem
  ·simp[hl]
  ·intro i h1 h2
   simp[List.getD,h1]
 exact⟨fun i=>l.getD i undef,congrArg List.toArray e⟩
theorem Z1b (i:Nat) (h:i<8):i=0∨i=1∨i=2∨i=3∨i=4∨i=5∨i=6∨i=7:=by omega
def knF (n g off c cp j:Nat) (y:ByteArray) (R:Bool) (i:Nat) (W:World) (v:Value):Prop:=match i with
 | 0=>v = .int .i64 (n:Nat)
 | 1=>∃ so,v = .slice so n 3∧Zcm W so (Zaz n)
 | 2=>v = .slice (some ⟨g,off,none⟩) c cp
 | 3=>v = .int .i64 (j:Nat)
 | 4=>v = .pointer (some ⟨g,off+j,none⟩)
 | 5=>v = .string y
 | 6=>v = .bool R
 | 7=>v = .bool (!R)
 | _=>True
theorem Z5b (n g off c cp j:Nat) (y:ByteArray) (R:Bool):∀ i w w' v,knF n g off c cp j y R i w v→Below w.heap.size w w'→knF n g off c cp j y R i w' v:=by
 intro i w w' v h hb
 match i with
 | 0=>exact h
 | 1=>obtain⟨so,h1,h2⟩:=h;exact⟨so,h1,h2.below hb⟩
 | 2=>exact h
 | 3=>exact h
 | 4=>exact h
 | 5=>exact h
 | 6=>exact h
 | 7=>exact h
 | k+8=>trivial
theorem Z1c (p:Prd) (w:World) (P:Nat→Prop) (vs:List Value) (B n:Nat) (hN:Za5 p≤100000) (hb:Zhu p) (h:Zai w P p vs) (hT:Tab w B) (hn:n≤3) :
  Calls Tryz.prog 53 #[.agg vs.toArray,.int .i64 n] w fun e w'=>e = .returned (.bool (Zl2 n p))∧Below w.heap.size w w':=by
 obtain⟨xa,xn,xc,rfl,-⟩:=h.form
 have HNA:=ħ (fun W (hW:Below w.heap.size w W)=>Zvz p W P _ B (by omega) hb (h.below hW) (Zb7.step (w:=w) hT hW))
 have HSM:=ħ (fun W=>Zl0 n hn W)
 have HL:=ħ (Z1a p hN)
 have HBY:=ħ (fun s (hs:s∈Zua p)=>Z82 hs)
 have HKB:Hid (Zl2 n p=(Zua p).all (fun s=>(Zaz n).contains s)):=ħ rfl
 have HSB:=ħ (Z09 hn)
 have HSL:=ħ (Zda hn)
 generalize Zl2 n p=RES at *
 generalize Zua p=NS at *
 generalize p.k=q0 at *
 generalize Zad p.l=q1 at *
 generalize Zad p.r=q2 at *
 generalize p.c=q3 at *
 have bx:=(Below.refl w.heap.size w).alloc (Nat.le_refl _) (.cells #[.int .i64 q0,.string q1,.string q2,.int .i64 q3,.slice xa xn xc] 25)
 have B1:=ħ bx
 have Y1:Hid (Zah (w.alloc (.cells #[.int .i64 q0,.string q1,.string q2,.int .i64 q3,.slice xa xn xc] 25)) w.heap.size 25 [.int .i64 q0,.string q1,.string q2,.int .i64 q3,.slice xa xn xc]):=ħ (heap_alloc_new w _)
 clear bx h hT hN hb
 go_enter Tryz.func53,Tryz.ntmps53
 go_upto_region 1 with (fail)
 generalize w.alloc (.cells #[.int .i64 q0,.string q1,.string q2,.int .i64 q3,.slice xa xn xc] 25)=w1 at *
 go_wp2_with (refine wpList_load_row rfl 25 (.tmp 2) rfl w.heap.size ?x1 25 #[.int .i64 q0,.string q1,.string q2,.int .i64 q3,.slice xa xn xc] (0,0) _ Y1.o Tryz.underlying25 rfl (Zae _ rfl) ?_;(case x1=>rfl))
 refine (HNA.o w1 B1.o).mono ?_
 rintro e w2 ⟨ao,cp,rfl,ho,b2⟩
 have HO:=ħ (ho.strsR rfl)
 have B2:=ħ (B1.o.trans (b2.mono B1.o.size))
 clear ho b2 B1 HNA
 obtain⟨c,hc⟩:∃ c,NS.length=c:=⟨_,rfl⟩
 have HC:=ħ hc
 rw[hc] at HL ⊢
 clear hc
 have hlb:=HL.o
 go_wp2_with fail
 go_loopw [6] (fun iv wr=>∃ (j:Nat),iv = .int .i64 j∧j≤c∧Hid ((NS.take j).all (fun s=>(Zaz n).contains s)=true)∧Hid (Below w2.heap.size w2 wr)) (fun i _=>(c-intOf i).toNat)
 case atStart=>exact⟨0,rfl,by omega,ħ (by simp),ħ (Below.refl _ _)⟩
 case round =>
  obtain⟨j,rfl,hi,hno,hw⟩:=hrel
  have e2:IntKind.i64.wrap ((j:Int)+1)=((j+1:Nat):Int):=IntWalk.i64_in _ (by omega)
  by_cases hlt:j<c
  ·have ii:(j:Int)<c:=by omega
   obtain⟨s,hs⟩:∃ s,NS[j]?=some s:=⟨_,List.getElem?_eq_getElem (by rw[HC.o];exact hlt)⟩
   obtain⟨g,off,hao,hg,hce⟩:=(HO.o.below hw.o).at j s hs
   have HCE:=ħ (fun W (hW:Below wr.heap.size wr W)=>(World.cell?_of_block (a:=⟨g,off+j,none⟩) (hW.block g hg)).trans hce)
   have HAO:=ħ hao
   subst hao
   have HST:Hid ((NS.take (j+1)).all (fun s=>(Zaz n).contains s)=((NS.take j).all (fun s=>(Zaz n).contains s)&&(Zaz n).contains s)):=ħ (by rw[List.take_add_one,hs,List.all_append];simp)
   have HAN:=ħ (fun (h:(Zaz n).contains s=false)=>(show NS.all (fun s=>(Zaz n).contains s)=false from by
    rw[Bool.eq_false_iff]
    intro h2
    rw[List.all_eq_true] at h2
    have h3:=h2 s (List.mem_of_getElem? hs)
    rw[h] at h3
    cases h3))
   have HHS:=ħ (fun W so (hso:Zcm W so (Zaz n))=>rhas_any' so n 3 (Zaz n) s W HSL.o.symm (by omega) hso (HBY.o s (List.mem_of_getElem? hs)) HSB.o)
   obtain⟨R,hR⟩:∃ R,(Zaz n).contains s=R:=⟨_,rfl⟩
   rw[hR] at HHS HST HAN
   clear hs hg hce hR
   generalize Zad s=y at *
   have W0:=ħ (B2.o.trans (hw.o.mono B2.o.size))
   go_upto_region 5 with (fail)
   clear ii
   refine Zd3 (knF n g off c cp j y R) (by kernel_rfl) (Z5b n g off c cp j y R) (Zei (by kernel_rfl)) (Zpd (by kernel_rfl)) (Zc5 (by kernel_rfl)) ?hs ?he
   case hs =>
    intro i o hi listed a' w' H hl2
    have hl3:=Za7 hl2
    have hin:i<8:=(Array.getElem?_eq_some_iff.1 hi).1
    have hb:=ħ H.below
    have s1:=H.same 1 (Zao (by kernel_rfl))
    have s5:=H.same 5 (Zao (by kernel_rfl))
    have s6:=H.same 6 (Zao (by kernel_rfl))
    have hdn:=H.done
    have hdf:=H.defers
    have hts:=H.tsize
    clear hl2 H
    obtain⟨t',df⟩:=a'
    obtain⟨f',rfl⟩:=Z9t t' hts
    have hdf':df=[]:=hdf
    subst hdf'
    have gs1:f' 1 = .int .i64 (n:Nat):=s1
    have gs5:f' 5 = .slice (some ⟨g,off,none⟩) c cp:=s5
    have gs6:f' 6 = .int .i64 (j:Nat):=s6
    clear s1 s5 s6
    clear hdf hts
    have hcases:=Z1b i hin
    clear hin
    rcases hcases with rfl | rfl | rfl | rfl | rfl | rfl | rfl | rfl
    ·obtain rfl:=Option.some.inj hi
     clear hdn hl3
     rw[gs1]
     clear gs1 gs5 gs6
     refine Zac rfl ?_
     go_wp2_with fail
     exact Zaa ⟨_,rfl,Below.refl _ _,rfl⟩
    ·obtain rfl:=Option.some.inj hi
     have dv0:f' 15 = .int .i64 (n:Nat):=hdn 0 _ 15 rfl (hl3 0 (by rfl)) rfl
     clear hdn hl3
     rw[dv0]
     clear dv0 gs1 gs5 gs6
     refine Zac rfl ?_
     go_wp2_with fail
     refine (HSM.o w').mono ?_
     rintro e w4 ⟨so,rfl,hs,b4⟩
     have HS:=ħ hs
     have HB4:=ħ b4
     clear hs b4
     go_wp2_with fail
     exact Zaa ⟨_,rfl,HB4.o,so,rfl,HS.o⟩
    ·obtain rfl:=Option.some.inj hi
     clear hdn hl3
     rw[gs5]
     clear gs1 gs5 gs6
     refine Zac rfl ?_
     go_wp2_with fail
     exact Zaa ⟨_,rfl,Below.refl _ _,rfl⟩
    ·obtain rfl:=Option.some.inj hi
     clear hdn hl3
     rw[gs6]
     clear gs1 gs5 gs6
     refine Zac rfl ?_
     go_wp2_with fail
     exact Zaa ⟨_,rfl,Below.refl _ _,rfl⟩
    ·obtain rfl:=Option.some.inj hi
     have dv2:f' 17 = .slice (some ⟨g,off,none⟩) c cp:=hdn 2 _ 17 rfl (hl3 2 (by rfl)) rfl
     have dv3:f' 18 = .int .i64 (j:Nat):=hdn 3 _ 18 rfl (hl3 3 (by rfl)) rfl
     clear hdn hl3
     rw[dv2,dv3]
     clear dv2 dv3 gs1 gs5 gs6
     have ii:(j:Int)<c:=by omega
     refine Zac rfl ?_
     go_wp2_with fail
     exact Zaa ⟨_,rfl,Below.refl _ _,rfl⟩
    ·obtain rfl:=Option.some.inj hi
     have dv4:f' 19 = .pointer (some ⟨g,off+j,none⟩):=hdn 4 _ 19 rfl (hl3 4 (by rfl)) rfl
     clear hdn hl3
     rw[dv4]
     clear dv4 gs1 gs5 gs6
     have c0:=HCE.o w' hb.o
     refine Zac rfl ?_
     go_wp2_with fail
     exact Zaa ⟨_,rfl,Below.refl _ _,rfl⟩
    ·obtain rfl:=Option.some.inj hi
     have dv1:knF n g off c cp j y R 1 w' (f' 16):=hdn 1 _ 16 rfl (hl3 1 (by rfl)) rfl
     obtain⟨so,dv1,hso⟩:=dv1
     have dv5:f' 20 = .string y:=hdn 5 _ 20 rfl (hl3 5 (by rfl)) rfl
     clear hdn hl3
     rw[dv1,dv5]
     clear dv1 dv5 gs1 gs5 gs6
     have HSO:=ħ hso
     clear hso
     refine Zac rfl ?_
     go_wp2_with fail
     refine (HHS.o w' so HSO.o).mono ?_
     rintro e w4 ⟨rfl,rfl⟩
     go_wp2_with fail
     exact Zaa ⟨_,rfl,Below.refl _ _,rfl⟩
    ·obtain rfl:=Option.some.inj hi
     have dv6:f' 21 = .bool R:=hdn 6 _ 21 rfl (hl3 6 (by rfl)) rfl
     clear hdn hl3
     rw[dv6]
     clear dv6 gs1 gs5 gs6
     refine Zac rfl ?_
     go_wp2_with fail
     exact Zaa ⟨_,rfl,Below.refl _ _,rfl⟩
   case he =>
    intro listed a' w4 H hall
    have hd7:knF n g off c cp j y R 7 w4 (a'.tmps.getD 22 undef):=H.done 7 _ 22 rfl (hall 7 (by decide)) rfl
    have hb4:=ħ H.below
    have hact:=H.act [15,16,17,18,19,20,21,22] (Zn4 (by kernel_rfl))
    clear H hall
    simp only[List.foldl_cons,List.foldl_nil] at hact
    generalize a'.tmps.getD 15 undef=z15 at *
    generalize a'.tmps.getD 16 undef=z16 at *
    generalize a'.tmps.getD 17 undef=z17 at *
    generalize a'.tmps.getD 18 undef=z18 at *
    generalize a'.tmps.getD 19 undef=z19 at *
    generalize a'.tmps.getD 20 undef=z20 at *
    generalize a'.tmps.getD 21 undef=z21 at *
    generalize a'.tmps.getD 22 undef=z22 at *
    subst hact
    have e7:z22 = .bool (!R):=hd7
    subst e7
    clear hd7
    simp only[Act.put,List.setIfInBounds_toArray,List.set_cons_succ,List.set_cons_zero]
    have W4:=ħ (hw.o.trans (hb4.o.mono hw.o.size))
    have W5:=ħ (B2.o.trans (W4.o.mono B2.o.size))
    clear hb4 hw W0
    cases R with
    | false =>
     go_wp2
     go_ret
     exact⟨Zag (by rw[HKB.o];exact (HAN.o trivial).symm),W5.o⟩
    | true =>
     go_wp2
     go_roundw
     case rel=>exact⟨j+1,by go_num,by omega,ħ (by rw[HST.o,hno.o];rfl),W4⟩
     case measure=>simp only[intOf];omega
  ·have ii:¬ ((j:Int)<c):=by omega
   have W5:=ħ (B2.o.trans (hw.o.mono B2.o.size))
   go_wp2
   go_ret
   exact⟨Zag (by rw[HKB.o,← hno.o,List.take_of_length_le (by rw[HC.o];omega)]),W5.o⟩
end
section
theorem Z7u (k:Ky):Zmf (Zh6 k)=Zmf k:=by
 unfold Zmf Zh6
 show (k.r==k.l)=(k.l==k.r)
 exact Bool.eq_iff_iff.2 ⟨fun h=>beq_iff_eq.2 (beq_iff_eq.1 h).symm,fun h=>beq_iff_eq.2 (beq_iff_eq.1 h).symm⟩
theorem Z1d (k:Ky):Zmf (Zeq k).1=Zmf k:=by
 unfold Zeq
 split
 ·exact Z7u k
 ·rfl
theorem Z5c {a b:List Nat} (h:a≠b):ltL a b=!ltL b a:=by
 rcases Zd9 a b with h1 | h1 | h1
 ·cases h2:ltL b a with
  | false=>rw[h1];rfl
  | true =>
   have:=Zc3 a b a h1 h2
   rw[Za3] at this;cases this
 ·exact absurd h1 h
 ·cases h2:ltL a b with
  | false=>rw[h1];rfl
  | true =>
   have:=Zc3 a b a h2 h1
   rw[Za3] at this;cases this
theorem Z1e (k:Ky) (h:Zmf k=false):(Zeq (Zh6 k)).1=(Zeq k).1:=by
 have hne:k.l≠k.r:=by unfold Zmf at h;simpa using h
 unfold Zeq
 show (if ltL k.l k.r=true then (Zh6 (Zh6 k),false) else (Zh6 k,true)).1=_
 rw[Z5c hne,Zkk]
 cases ltL k.r k.l<;>rfl
theorem Z1f (p:Prd) (hv:Zap p=true):Zal [Ze0 p]=Zal [p]:=by
 unfold Zal
 refine Zxq (Zlg _) (Zlg _) (fun x=>?_)
 rw[Ze9,Ze9]
 have hm:=Zyi p (Zb4 hv)
 constructor
 ·rintro⟨h1,k,hk,rfl⟩
  refine⟨h1,Zh6 k,?_,?_⟩
  ·simp only[List.flatMap_cons,List.flatMap_nil,List.append_nil] at hk ⊢
   exact (hm k).1 hk
  ·rw[Z1d] at h1
   exact Z1e k h1
 ·rintro⟨h1,k,hk,rfl⟩
  refine⟨h1,Zh6 k,?_,?_⟩
  ·simp only[List.flatMap_cons,List.flatMap_nil,List.append_nil] at hk ⊢
   exact (hm _).2 (by rw[Zkk];exact hk)
  ·rw[Z1d] at h1
   exact Z1e k h1
theorem Z5d (p:Prd):(Zal [p]).length≤(Zak p).length:=by
 have:(Zal [p]).length≤((Zak p).map (fun k=>(Zeq k).1)).length:=Zyh _ _ (Z8m (Zlg _)) (fun x hx=>by
  obtain⟨_,k,hk,rfl⟩:=(Ze9 _ _).1 hx
  simp only[List.flatMap_cons,List.flatMap_nil,List.append_nil] at hk
  exact List.mem_map.2 ⟨k,hk,rfl⟩)
 simpa using this
theorem Zno {n m:Nat} (h1:1≤n) (hn:n≤3) (hm:m≤6):Zc0 (Zaz n) (m:Int)=true:=by
 unfold Zc0
 rw[Zda hn]
 have h2:Zv0 (Zaz n)=true∧(Zaz n).all Zbq=true:=by
  match n,h1,hn with
  | 1,_,_=>exact⟨by decide,by decide⟩
  | 2,_,_=>exact⟨by decide,by decide⟩
  | 3,_,_=>exact⟨by decide,by decide⟩
 simp[h2]
 omega
structure GoP (n:Nat) (p:Prd):Prop where
 valid:Zap p=true
 known:Ziq (Zaz n) (Zak p)
theorem GoP.ok {n:Nat} {p:Prd} (h:GoP n p):okQ (Zaz n) p=true:=Zlu h.valid h.known
theorem GoP.neg {n:Nat} {p:Prd} (h:GoP n p):GoP n (Ze0 p):=⟨Zlc p h.valid,fun k hk=>by
 have:=h.known (Zh6 k) ((Zyi p (Zb4 h.valid) k).1 hk)
 exact⟨this.2,this.1⟩⟩
theorem Z5e {n m:Nat} {p:Prd} (h1:1≤n) (hn:n≤3) (hm:m≤6) (h:GoP n p):Zb5 (Zaz n) (m:Int) [p]=if 8<(Zal [p]).length then 6 else 0 :=
 Zlt (fun q hq=>by rw[List.mem_singleton.1 hq];exact h.ok) (Zno h1 hn hm)
theorem Z83 {n m:Nat} {p:Prd} (h:GoP n p) (k:Nat):trK n m (Ze0 p) k=!trK n m p k :=
 Zpr _ _ p (Zb4 h.valid) (by have:=(Zgj h.valid).1;omega) (fun k _=>Zty _ _ k)
end
section
open Go.RowKit Go.Sort
theorem Z1g {n:Nat} (hn:n≤3):∀ s∈Zaz n,NmB s:=fun s hs=>by
 rcases Zju hn hs with h | h | h<;>subst h<;>exact⟨by decide,by decide⟩
theorem Zuz {n:Nat} (h1:1≤n) (hn:n≤3):Zkd (Zaz n):=(Zga (Zno (m:=0) h1 hn (by omega))).1
theorem Z84 {n m:Nat} (hn:n≤3) (hm:m≤6):(m+1)^n≤343:=by
 have h1:(m+1)^n≤7^n:=Nat.pow_le_pow_left (by omega) n
 have h2:7^n≤7^3:=Nat.pow_le_pow_right (by omega) (by omega)
 omega
theorem Z6o.go {w w':World} {p:Prd} {e:Ending} (h:Z6o w p e w'):∃ vs:List Value,e = .returned (.agg vs.toArray)∧Zai w' (fun _=>True) p vs∧Below w.heap.size w w':=by
 obtain⟨⟨v,rfl,vs,rfl,hc⟩,hb⟩:=h
 exact⟨vs,rfl,hc.wide,hb⟩
theorem Z7v {n:Nat} {p:Prd} (h:GoP n p):Z8s p=Ze0 p:=by unfold Z8s;rw[if_pos h.valid]
theorem Z1h {n:Nat} {p:Prd} (h:GoP n p):Zhu (Ze0 p)∧Za5 (Ze0 p)≤100 :=
 ⟨Zgm _ (Zb4 (Zlc p h.valid)),(Zgj (Zlc p h.valid)).1⟩
end
section
open Go.RowKit Go.Sort
theorem Zso {g:Nat→Bool} {m:Nat} (h:Zcz g m=none):∀ j,j<m→g j=false:=fun j hj=>by
 unfold Zcz at h
 have:=List.find?_eq_none.1 h j (List.mem_range.2 hj)
 simpa using this
theorem Zq1 {g:Nat→Bool} {m k:Nat} (hk:k<m) (h:g k=true) (hj:∀ j,j<k→g j=false):Zcz g m=some k:=by
 unfold Zcz
 exact (List.find?_range_eq_some (p:=g) (i:=k) (n:=m)).2 ⟨h,List.mem_range.2 hk,fun j h1=>by rw[hj j h1];rfl⟩
theorem Z1i {g:Nat→Bool} {m:Nat} (h:∀ j,j<m→g j=false):Zcz g m=none:=by
 unfold Zcz
 exact List.find?_eq_none.2 (fun x hx=>by rw[h x (List.mem_range.1 hx)];simp)
theorem Zwc {n m:Nat} (hn:n≤3) {ps:List Prd} (hk:Ziq (Zaz n) (Zal ps)) (f:List Bool→Bool) (g:Nat→Bool) (hg:∀ k,f (trU (Zaz n) ps (gv (Zke n m k)))=g k) :
  Zfk (Zaz n) (m:Int) (Zal ps) ps f=(Zcz g ((m+1)^n)).map (Zke n m):=by
 obtain⟨h1,h2⟩:=Z3q (most:=(m:Int)) hk f
 unfold Zfk
 rw[Zda hn] at h1 h2
 cases hf:(Zbn (Zaz n) (m:Int) (Zal ps) ps).find? (fun c=>f c.2) with
 | none =>
  have h3:=h2 hf
  rw[Z1i (fun j hj=>by
   rw[← hg j]
   exact h3 _ ((Zof n m _).2 ⟨j,hj,rfl⟩))];rfl
 | some c =>
  obtain⟨a1,a2,a3,a4⟩:=h1 c hf
  obtain⟨k,hk,he,b1,b2⟩:=Zy2 (fun v=>f (trU (Zaz n) ps (gv v))) a1 a3 a4
  rw[Zq1 hk (by rw[← hg k];exact b1) (fun j hj=>by rw[← hg j];exact b2 j hj)]
  show some c.1=some (Zke n m k)
  rw[he]
theorem GoP.comps {n:Nat} {ps:List Prd} (h:∀ p∈ps,GoP n p):Ziq (Zaz n) (Zal ps):=Zyx (fun k hk=>by
 obtain⟨p,hp,hk⟩:=List.mem_flatMap.1 hk
 exact (h p hp).known k hk)
theorem Z5f {n m:Nat} (hn:n≤3) {p:Prd} (h:GoP n p):Zfk (Zaz n) (m:Int) (Zal [p]) [p] (fun l=>l.getD 0 false)=(Zcz (trK n m p) ((m+1)^n)).map (Zke n m) :=
 Zwc hn (GoP.comps (fun q hq=>by rw[List.mem_singleton.1 hq];exact h)) _ _ (fun k=>rfl)
def Z7w (n m:Nat) (c:Int) (r:Option Nat):List Bnd:=if c=0 then (match r with | some k=>Zmp n m k | none=>[]) else []
theorem Zkr.asg {n m:Nat} (hn:n≤3) {w w':World} {c:Int} {r:Option Nat} {b:Bool} {e:Ending} (h:Zkr w (Zaz n) c (r.map (Zke n m)) b e w') :
  ∃ ro rc,e = .returned (.tuple #[.slice ro (Z7w n m c r).length rc,.bool (decide (c=0)&&b),.int .i64 c])∧Za8 Zfb w' ro (Z7w n m c r)∧Below w.heap.size w w':=by
 obtain⟨h1,h2⟩:=h
 unfold Z7w
 by_cases hc:c=0
 ·rw[if_pos hc] at h1 ⊢
  obtain⟨v,rfl,hv⟩:=h1
  subst hc
  cases r with
  | none =>
   have hv:v = .slice none 0 0:=hv
   subst hv
   exact⟨none,0,by simp,.inl rfl,h2⟩
  | some k =>
   obtain⟨ro,rc,rfl,ho⟩:=hv
   rw[← Z7t hn,Zda hn] at ho
   exact⟨ro,rc,by simp[Zfq,Zda hn],ho.flatR Zer (Zfq n m k).symm,h2⟩
 ·rw[if_neg hc] at h1 ⊢
  subst h1
  exact⟨none,0,by simp[hc],.inl rfl,h2⟩
theorem Z5g {p:Prd} (h:Zap p=true):(Zr8 p).length=(Zak p).length:=by unfold Zr8;rw[if_pos h]
end
section
open Go.RowKit Go.Sort
theorem Zkr.one {n m:Nat} (h1:1≤n) (hn:n≤3) (hm:m≤6) {p:Prd} (g:GoP n p) {w w':World} {e:Ending} (h:Zkr w (Zaz n) (Zb5 (Zaz n) (m:Int) [p]) (Zfk (Zaz n) (m:Int) (Zal [p]) [p] (fun l=>l.getD 0 false)) (Zfk (Zaz n) (m:Int) (Zal [p]) [p] (fun l=>l.getD 0 false)).isSome e w') :
  ∃ ro rc,e = .returned (.tuple #[.slice ro (Z7w n m (if 8<(Zal [p]).length then (6:Int) else 0) (Zcz (trK n m p) ((m+1)^n))).length rc,.bool (decide ((if 8<(Zal [p]).length then (6:Int) else 0)=0)&&(Zcz (trK n m p) ((m+1)^n)).isSome),.int .i64 (if 8<(Zal [p]).length then (6:Int) else 0)])∧Za8 Zfb w' ro (Z7w n m (if 8<(Zal [p]).length then (6:Int) else 0) (Zcz (trK n m p) ((m+1)^n)))∧Below w.heap.size w w':=by
 rw[Z5f hn g,Z5e h1 hn hm g] at h
 have:=Zkr.asg hn h
 rwa [Option.isSome_map] at this
theorem Z1j (g:Nat→Bool) (m:Nat):Zl1 g m=match Zcz g m with | some k=>(k:Int) | none=>-1:=rfl
theorem Z1k {g h:Nat→Bool} {m:Nat} (hm:0<m) (hg:∀ j,h j=!g j) (hn:Zcz g m=none):(Zcz h m).isSome=true:=by
 have h0:=Zso hn 0 hm
 rw[Zq1 hm (by rw[hg,h0];rfl) (fun j hj=>absurd hj (Nat.not_lt_zero j))];rfl
theorem Z1l {n:Nat} (hn:n≤3) (m k:Nat):∀ b∈Zmp n m k,NmB b.n:=(Z02 n m k hn).nm
theorem Zsp (k n m:Nat) (hn:n≤3) (hm:m≤6) (hk:k<(m+1)^n) (w:World) :
  Calls Tryz.prog 58 #[.int .i64 k,.int .i64 n,.int .i64 m] w fun e w'=>∃ ro rc,e = .returned (.slice ro n rc)∧Za8 Zfb w' ro (Zmp n m k)∧Below w.heap.size w w' :=
 (Znn k n m hn hm (by have:=Z84 hn hm;omega) w).mono (fun e w' h=>by
  obtain⟨⟨ro,rc,h1,h2⟩,h4⟩:=h
  exact⟨ro,rc,h1,h2.flatR Zer (Zfq n m k).symm,h4⟩)
theorem Zwd (p:Prd) (n:Nat) (g:GoP n p) (w:World) (P:Nat→Prop) (vs:List Value) (B:Nat) (h:Zai w P p vs) (hT:Tab w B) :
  Calls Tryz.prog 31 #[.agg vs.toArray] w fun e w'=>∃ ao cp,e = .returned (.slice ao (Zak p).length cp)∧Below w.heap.size w w' :=
 (Zvq p w P vs B (by have:=(Zgj g.valid).1;omega) (Zgm p (Zb4 g.valid)) h hT).mono (fun e w' h=>by
  obtain⟨ao,cp,h1,-,h2⟩:=h
  exact⟨ao,cp,by rw[h1,Z5g g.valid],h2⟩)
theorem Z1m (k n m:Nat) (hn:n≤3) (W:World) (lo ro:Option Addr) (lc rc:Nat) (hl:Za8 Zfb W lo (Zmp n m k)) (hr:Za8 Zfb W ro (Zmp n m k)) :
  Calls Tryz.prog 59 #[.slice lo n lc,.slice ro n rc] W fun e w'=>e = .returned (.bool true)∧Below W.heap.size W w' :=
 (Zfe W lo ro n n lc rc _ _ (Zfq n m k).symm (Zfq n m k).symm hl hr (Z1l hn m k) (Z1l hn m k) (by omega) (by omega)).mono (fun e w' h=>by
  rw[decide_eq_true rfl] at h
  exact h)
theorem Z85 (t:Array Value) (h:t.size=117):∃ f:Nat→Value,t=#[f 0,f 1,f 2,f 3,f 4,f 5,f 6,f 7,f 8,f 9,f 10,f 11,f 12,f 13,f 14,f 15,f 16,f 17,f 18,f 19,f 20,f 21,f 22,f 23,f 24,f 25,f 26,f 27,f 28,f 29,f 30,f 31,f 32,f 33,f 34,f 35,f 36,f 37,f 38,f 39,f 40,f 41,f 42,f 43,f 44,f 45,f 46,f 47,f 48,f 49,f 50,f 51,f 52,f 53,f 54,f 55,f 56,f 57,f 58,f 59,f 60,f 61,f 62,f 63,f 64,f 65,f 66,f 67,f 68,f 69,f 70,f 71,f 72,f 73,f 74,f 75,f 76,f 77,f 78,f 79,f 80,f 81,f 82,f 83,f 84,f 85,f 86,f 87,f 88,f 89,f 90,f 91,f 92,f 93,f 94,f 95,f 96,f 97,f 98,f 99,f 100,f 101,f 102,f 103,f 104,f 105,f 106,f 107,f 108,f 109,f 110,f 111,f 112,f 113,f 114,f 115,f 116]:=by
 obtain⟨l⟩:=t
 have hl:l.length=117:=h
 have e:l=(List.range 117).map (fun i=>l.getD i undef):=by
  apply List.ext_getElem
  ·simp[hl]
  ·intro i h1 h2
   simp[List.getD,h1]
 exact⟨fun i=>l.getD i undef,congrArg List.toArray e⟩
theorem Zwe (i:Nat) (h:i<12):i=0∨i=1∨i=2∨i=3∨i=4∨i=5∨i=6∨i=7∨i=8∨i=9∨i=10∨i=11:=by omega
def ssF (q0 q3:Int) (q1 q2:ByteArray) (xa:Option Addr) (xn xc n m ln:Nat) (OK:Bool) (EC:Int) (L:List Bnd) (i:Nat) (W:World) (v:Value):Prop:=match i with
 | 0=>v = .agg #[.int .i64 q0,.string q1,.string q2,.int .i64 q3,.slice xa xn xc]
 | 1=>v = .int .i64 (n:Nat)
 | 2=>∃ so,v = .slice so n 3∧Zcm W so (Zaz n)
 | 3=>v = .int .i64 (m:Nat)
 | 4=>∃ ro rc,v = .tuple #[.slice ro ln rc,.bool OK,.int .i64 EC]∧Za8 Zfb W ro L
 | 5=>∃ ro rc,v = .tuple #[.slice ro ln rc,.bool OK,.int .i64 EC]∧Za8 Zfb W ro L
 | 6=>∃ ro rc,v = .slice ro ln rc∧Za8 Zfb W ro L
 | 7=>v = .bool OK
 | 8=>v = .int .i64 EC
 | 9=>∃ ro rc,v = .slice ro ln rc∧Za8 Zfb W ro L
 | 10=>v = .bool OK
 | 11=>v = .int .i64 EC
 | _=>True
theorem Z5h (q0 q3:Int) (q1 q2:ByteArray) (xa:Option Addr) (xn xc n m ln:Nat) (OK:Bool) (EC:Int) (L:List Bnd):∀ i w w' v,ssF q0 q3 q1 q2 xa xn xc n m ln OK EC L i w v→Below w.heap.size w w'→ssF q0 q3 q1 q2 xa xn xc n m ln OK EC L i w' v:=by
 intro i w w' v h hb
 match i with
 | 0=>exact h
 | 1=>exact h
 | 2=>obtain⟨so,h1,h2⟩:=h;exact⟨so,h1,h2.below hb⟩
 | 3=>exact h
 | 4=>obtain⟨ro,rc,h1,h2⟩:=h;exact⟨ro,rc,h1,h2.below hb⟩
 | 5=>obtain⟨ro,rc,h1,h2⟩:=h;exact⟨ro,rc,h1,h2.below hb⟩
 | 6=>obtain⟨ro,rc,h1,h2⟩:=h;exact⟨ro,rc,h1,h2.below hb⟩
 | 7=>exact h
 | 8=>exact h
 | 9=>obtain⟨ro,rc,h1,h2⟩:=h;exact⟨ro,rc,h1,h2.below hb⟩
 | 10=>exact h
 | 11=>exact h
 | k+12=>trivial
theorem Zsq (p:Prd) (w:World) (P:Nat→Prop) (vs:List Value) (x y:Nat) (B:Nat) (hT:Tab w B) (h:Zai w P p vs) (hb:ByL p) (hlen:Z2w p) (hx:x≤255) (hy:y≤255) :
  Calls Tryz.prog 14 #[.agg vs.toArray,.int .u8 x,.int .u8 y] w fun e w'=>e = .returned (.bool true)∧Below w.heap.size w w':=by
 obtain⟨xa,xn,xc,rfl,-⟩:=h.form
 have HSA:=ħ (fun W (hW:Below w.heap.size w W)=>Z81 W B (Zb7.step (w:=w) hT hW))
 have HFW:=ħ (fun W (hW:Below w.heap.size w W)=>Z68 p 60 8 (by omega) (by omega) W P _ hlen (h.below hW))
 have HVP:=ħ (fun W (hW:Below w.heap.size w W) (hc:Z8e p 60 8=true)=>Zvw p W P _ B (Nat.le_trans (Z7d hc) (by omega)) hb (h.below hW) (Zb7.step (w:=w) hT hW))
 have HKN:=ħ (fun n (hn:n≤3) (hv:Zap p=true) W (hW:Below w.heap.size w W)=>Z1c p W P _ B n (by have:=(Zgj hv).1;omega) (Zgm p (Zb4 hv)) (h.below hW) (Zb7.step (w:=w) hT hW) hn)
 have HFS:=ħ (fun n m (hn:n≤3) (hm:m≤6) (g:GoP n p) W (hW:Below w.heap.size w W)=>Z07 p W P _ B n m (by have:=(Zgj g.valid).1;omega) (Zgm p (Zb4 g.valid)) (h.below hW) (Zb7.step (w:=w) hT hW) hn hm g.valid g.known)
 have HCT:=ħ (fun n (m:Nat) (h1:1≤n) (hn:n≤3) (hm:m≤6) (g:GoP n p) W (hW:Below w.heap.size w W) so (hso:Zcm W so (Zaz n))=>(Zoo W P p _ so n 3 (m:Int) (Zaz n) B (Zb7.step (w:=w) hT hW) (h.below hW) (Zgm p (Zb4 g.valid)) (by have:=(Zgj g.valid).1;omega) (Zda hn).symm hso (Z1g hn) (Zuz h1 hn) (by omega)).mono (fun e w' hh=>Zkr.one h1 hn hm g hh))
 have HNG:=ħ (fun n (g:GoP n p) W (hW:Below w.heap.size w W)=>(Zsa p W P _ B (by have:=(Zgj g.valid).1;omega) (Zgm p (Zb4 g.valid)) (h.below hW) (Zb7.step (w:=w) hT hW)).mono (fun e w' hh=>(show Z6o W (Ze0 p) e w' by rw[← Z7v g];exact hh).go))
 have HCN:=ħ (fun n (m:Nat) (h1:1≤n) (hn:n≤3) (hm:m≤6) (g:GoP n p) W (hW:Below w.heap.size w W) us (hus:Zai W (fun _=>True) (Ze0 p) us) so (hso:Zcm W so (Zaz n))=>(Zoo W (fun _=>True) (Ze0 p) us so n 3 (m:Int) (Zaz n) B (Zb7.step (w:=w) hT hW) hus (Z1h g).1 (by have:=(Z1h g).2;omega) (Zda hn).symm hso (Z1g hn) (Zuz h1 hn) (by omega)).mono (fun e w' hh=>Zkr.one h1 hn hm g.neg hh))
 have HAT:=ħ (fun n (g:GoP n p) W (hW:Below w.heap.size w W)=>Zwd p n g W P _ B (h.below hW) (Zb7.step (w:=w) hT hW))
 have HKW:=ħ (fun n (hv:Zap p=true) (hk:Zl2 n p=true)=>(show GoP n p from ⟨hv,(Z08 hv).1 hk⟩))
 have HCE:=ħ (fun n (g:GoP n p)=>Z1f p g.valid)
 have HLE:=ħ (Z5d p)
 have HTN:=ħ (fun n m (g:GoP n p) (hn:Zcz (trK n m p) ((m+1)^n)=none)=>Z1k (h:=trK n m (Ze0 p)) (Nat.pow_pos (by omega)) (fun j=>Z83 g j) hn)
 clear hlen hb hT h
 generalize Z8e p 60 8=s at *
 generalize Zap p=t at *
 generalize p.k=q0 at *
 generalize Zad p.l=q1 at *
 generalize Zad p.r=q2 at *
 generalize p.c=q3 at *
 have bx:=(Below.refl w.heap.size w).alloc (Nat.le_refl _) (.cells #[.int .i64 q0,.string q1,.string q2,.int .i64 q3,.slice xa xn xc] 25)
 have B1:=ħ bx
 have Y1:Hid (Zah (w.alloc (.cells #[.int .i64 q0,.string q1,.string q2,.int .i64 q3,.slice xa xn xc] 25)) w.heap.size 25 [.int .i64 q0,.string q1,.string q2,.int .i64 q3,.slice xa xn xc]):=ħ (heap_alloc_new w _)
 clear bx
 go_enter Tryz.func14,Tryz.ntmps14
 go_upto_region 1 with (fail)
 generalize w.alloc (.cells #[.int .i64 q0,.string q1,.string q2,.int .i64 q3,.slice xa xn xc] 25)=w1 at *
 go_wp2_with fail
 refine (HSA.o w1 B1.o).mono ?_
 rintro e w2 ⟨rfl,b2⟩
 have B2:=ħ (B1.o.trans (b2.mono B1.o.size))
 have Y2:=ħ (Y1.o.step b2)
 clear b2 B1 Y1 HSA
 go_upto_region 4 with (fail)
 have hnn:(1+(x:Int)%3)=((1+x%3:Nat):Int):=by omega
 have hmm:((y:Int)%7)=((y%7:Nat):Int):=by omega
 rw[hnn,hmm]
 have h1:1≤1+x%3:=by omega
 have h3:1+x%3≤3:=by omega
 have h6:y%7≤6:=by omega
 clear hnn hmm hx hy
 generalize 1+x%3=n at *
 generalize y%7=m at *
 go_wp2_with (refine wpList_load_row rfl 25 (.tmp 3) rfl w.heap.size ?x1 25 #[.int .i64 q0,.string q1,.string q2,.int .i64 q3,.slice xa xn xc] (0,0) _ Y2.o Tryz.underlying25 rfl (Zae _ rfl) ?_;(case x1=>rfl))
 refine (HFW.o w2 B2.o).mono ?_
 rintro e w3 ⟨rfl,b3⟩
 have B3:=ħ (B2.o.trans (b3.mono B2.o.size))
 have Y3:=ħ (Y2.o.step b3)
 clear b3 B2 Y2 HFW
 cases s with
 | false =>
  go_wp2
  go_ret
  exact⟨rfl,B3.o⟩
 | true =>
 go_wp2_with (refine Za9 (by rfl) 25 (.tmp 3) rfl w.heap.size ?x2 25 #[.int .i64 q0,.string q1,.string q2,.int .i64 q3,.slice xa xn xc] (0,0) _ Y3.o Tryz.underlying25 rfl (Zae _ rfl) ?_;(case x2=>rfl))
 refine (HVP.o w3 B3.o trivial).mono ?_
 rintro e w4 ⟨rfl,b4⟩
 have B4:=ħ (B3.o.trans (b4.mono B3.o.size))
 have Y4:=ħ (Y3.o.step b4)
 clear b4 B3 Y3 HVP
 cases t with
 | false =>
  go_wp2
  go_ret
  exact⟨rfl,B4.o⟩
 | true =>
 go_wp2_with (refine Za9 (by rfl) 25 (.tmp 3) rfl w.heap.size ?x3 25 #[.int .i64 q0,.string q1,.string q2,.int .i64 q3,.slice xa xn xc] (0,0) _ Y4.o Tryz.underlying25 rfl (Zae _ rfl) ?_;(case x3=>rfl))
 refine (HKN.o n h3 trivial w4 B4.o).mono ?_
 rintro e w5 ⟨rfl,b5⟩
 have B5:=ħ (B4.o.trans (b5.mono B4.o.size))
 have Y5:=ħ (Y4.o.step b5)
 clear b5 B4 Y4 HKN
 obtain⟨u,hu⟩:∃ u,Zl2 n p=u:=⟨_,rfl⟩
 have HG:=ħ (fun (h:u=true)=>HKW.o n trivial (by rw[hu,h]))
 rw[hu]
 clear hu HKW
 cases u with
 | false =>
  go_wp2
  go_ret
  exact⟨rfl,B5.o⟩
 | true =>
 have HGO:=ħ (HG.o rfl)
 clear HG
 have HF:=ħ (HCT.o n m h1 h3 h6 HGO.o)
 have HF2:=ħ (HCN.o n m h1 h3 h6 HGO.o)
 rw[HCE.o n HGO.o] at HF2
 have HNN:=ħ (HNG.o n HGO.o)
 have HFF:=ħ (HFS.o n m h3 h6 HGO.o)
 have HAA:=ħ (HAT.o n HGO.o)
 have HTT:=ħ (HTN.o n m HGO.o)
 rw[Z1j] at HFF
 have HEC:Hid ((if 8<(Zal [p]).length then (6:Int) else 0)=6∧8<(Zak p).length∨(if 8<(Zal [p]).length then (6:Int) else 0)=0):=ħ (by
  have:=HLE.o
  split
  ·exact .inl ⟨rfl,by omega⟩
  ·exact .inr rfl)
 generalize (if 8<(Zal [p]).length then (6:Int) else 0)=EC at *
 generalize (Zak p).length=AN at *
 have HSM:=ħ (fun W=>Zl0 n h3 W)
 have HAS:=ħ (fun k (hk:k<(m+1)^n) W=>Zsp k n m h3 h6 hk W)
 have HSB:=ħ (fun k W lo lc ro rc hl hr=>Z1m k n m h3 W lo ro lc rc hl hr)
 have HAL:=ħ (Zfq n m)
 have HFL:=ħ (fun k=>Z04 (g:=trK n m p) (m:=(m+1)^n) (k:=k))
 generalize hFK:Zcz (trK n m p) ((m+1)^n)=FK at *
 generalize hFK2:Zcz (trK n m (Ze0 p)) ((m+1)^n)=FK2 at *
 clear hFK hFK2 HLE HTN HCE HAT HFS HNG HCT HCN
 obtain⟨OK2,hOK2⟩:∃ b,(decide (EC=0)&&FK2.isSome)=b:=⟨_,rfl⟩
 rw[hOK2] at HF2
 have HOK2:=ħ hOK2
 obtain⟨OK,hOK⟩:∃ b,(decide (EC=0)&&FK.isSome)=b:=⟨_,rfl⟩
 rw[hOK] at HF
 have HOK:=ħ hOK
 obtain⟨L,hL⟩:∃ l,Z7w n m EC FK=l:=⟨_,rfl⟩
 rw[hL] at HF
 have HL:=ħ hL
 obtain⟨ln,hln⟩:∃ l,L.length=l:=⟨_,rfl⟩
 rw[hln] at HF
 have HLN:=ħ hln
 generalize Z7w n m EC FK2=L2 at *
 clear hOK hOK2 hL hln
 have X1:=Y5
 have HW:=B5
 go_upto_region 6 with (fail)
 refine Zd3 (ssF q0 q3 q1 q2 xa xn xc n m ln OK EC L) (by kernel_rfl) (Z5h q0 q3 q1 q2 xa xn xc n m ln OK EC L) (Zei (by kernel_rfl)) (Zpd (by kernel_rfl)) (Zc5 (by kernel_rfl)) ?hs ?he
 case hs =>
  intro i o hi listed a' w' H hl2
  have hl3:=Za7 hl2
  have hin:i<12:=(Array.getElem?_eq_some_iff.1 hi).1
  have hb:=ħ H.below
  have s3:=H.same 3 (Zao (by kernel_rfl))
  have s8:=H.same 8 (Zao (by kernel_rfl))
  have s9:=H.same 9 (Zao (by kernel_rfl))
  have hdn:=H.done
  have hdf:=H.defers
  have hts:=H.tsize
  clear hl2 H
  obtain⟨t',df⟩:=a'
  obtain⟨f',rfl⟩:=Z85 t' hts
  have hdf':df=[]:=hdf
  subst hdf'
  have gs3:f' 3 = .pointer (some ⟨w.heap.size,0,none⟩):=s3
  have gs8:f' 8 = .int .i64 (n:Nat):=s8
  have gs9:f' 9 = .int .i64 (m:Nat):=s9
  clear s3 s8 s9
  clear hdf hts
  have hcases:=Zwe i hin
  clear hin
  rcases hcases with rfl | rfl | rfl | rfl | rfl | rfl | rfl | rfl | rfl | rfl | rfl | rfl
  ·obtain rfl:=Option.some.inj hi
   clear hdn hl3
   rw[gs3]
   clear gs3 gs8 gs9
   have X2:=X1.o.step hb.o
   refine Zac rfl ?_
   go_wp2_with (refine wpList_load_row rfl 25 (.tmp 3) rfl w.heap.size ?x1 25 #[.int .i64 q0,.string q1,.string q2,.int .i64 q3,.slice xa xn xc] (0,0) _ X2 Tryz.underlying25 rfl (Zae _ rfl) ?_;(case x1=>rfl))
   exact Zaa ⟨_,rfl,Below.refl _ _,rfl⟩
  ·obtain rfl:=Option.some.inj hi
   clear hdn hl3
   rw[gs8]
   clear gs3 gs8 gs9
   refine Zac rfl ?_
   go_wp2_with fail
   exact Zaa ⟨_,rfl,Below.refl _ _,rfl⟩
  ·obtain rfl:=Option.some.inj hi
   have dv1:f' 42 = .int .i64 (n:Nat):=hdn 1 _ 42 rfl (hl3 1 (by rfl)) rfl
   clear hdn hl3
   rw[dv1]
   clear dv1 gs3 gs8 gs9
   refine Zac rfl ?_
   go_wp2_with fail
   refine (HSM.o w').mono ?_
   rintro e w4 ⟨so,rfl,hs,b4⟩
   have HS:=ħ hs
   have HB4:=ħ b4
   clear hs b4
   go_wp2_with fail
   exact Zaa ⟨_,rfl,HB4.o,so,rfl,HS.o⟩
  ·obtain rfl:=Option.some.inj hi
   clear hdn hl3
   rw[gs9]
   clear gs3 gs8 gs9
   refine Zac rfl ?_
   go_wp2_with fail
   exact Zaa ⟨_,rfl,Below.refl _ _,rfl⟩
  ·obtain rfl:=Option.some.inj hi
   have dv0:f' 41 = .agg #[.int .i64 q0,.string q1,.string q2,.int .i64 q3,.slice xa xn xc]:=hdn 0 _ 41 rfl (hl3 0 (by rfl)) rfl
   have dv2:ssF q0 q3 q1 q2 xa xn xc n m ln OK EC L 2 w' (f' 43):=hdn 2 _ 43 rfl (hl3 2 (by rfl)) rfl
   obtain⟨so,dv2,hso⟩:=dv2
   have dv3:f' 44 = .int .i64 (m:Nat):=hdn 3 _ 44 rfl (hl3 3 (by rfl)) rfl
   clear hdn hl3
   rw[dv0,dv2,dv3]
   clear dv0 dv2 dv3 gs3 gs8 gs9
   have HSO:=ħ hso
   clear hso
   refine Zac rfl ?_
   go_wp2_with fail
   refine (HF.o w' (HW.o.trans (hb.o.mono HW.o.size)) so HSO.o).mono ?_
   rintro e w4 ⟨ro,rc,rfl,hro,b4⟩
   have HRO:=ħ hro
   have HB4:=ħ b4
   clear b4 hro
   go_wp2_with fail
   exact Zaa ⟨_,rfl,HB4.o,ro,rc,rfl,HRO.o⟩
  ·obtain rfl:=Option.some.inj hi
   have dv4:ssF q0 q3 q1 q2 xa xn xc n m ln OK EC L 4 w' (f' 45):=hdn 4 _ 45 rfl (hl3 4 (by rfl)) rfl
   obtain⟨ro,rc,dv4,hro⟩:=dv4
   clear hdn hl3
   rw[dv4]
   clear dv4 gs3 gs8 gs9
   have HRO:=ħ hro
   clear hro
   refine Zac rfl ?_
   go_wp2_with fail
   exact Zaa ⟨_,rfl,Below.refl _ _,ro,rc,rfl,HRO.o⟩
  ·obtain rfl:=Option.some.inj hi
   have dv5:ssF q0 q3 q1 q2 xa xn xc n m ln OK EC L 5 w' (f' 40):=hdn 5 _ 40 rfl (hl3 5 (by rfl)) rfl
   obtain⟨ro,rc,dv5,hro⟩:=dv5
   clear hdn hl3
   rw[dv5]
   clear dv5 gs3 gs8 gs9
   have HRO:=ħ hro
   clear hro
   refine Zac rfl ?_
   go_wp2_with fail
   exact Zaa ⟨_,rfl,Below.refl _ _,ro,rc,rfl,HRO.o⟩
  ·obtain rfl:=Option.some.inj hi
   have dv5:ssF q0 q3 q1 q2 xa xn xc n m ln OK EC L 5 w' (f' 40):=hdn 5 _ 40 rfl (hl3 5 (by rfl)) rfl
   obtain⟨ro,rc,dv5,hro⟩:=dv5
   clear hdn hl3
   rw[dv5]
   clear dv5 gs3 gs8 gs9
   clear hro
   refine Zac rfl ?_
   go_wp2_with fail
   exact Zaa ⟨_,rfl,Below.refl _ _,rfl⟩
  ·obtain rfl:=Option.some.inj hi
   have dv5:ssF q0 q3 q1 q2 xa xn xc n m ln OK EC L 5 w' (f' 40):=hdn 5 _ 40 rfl (hl3 5 (by rfl)) rfl
   obtain⟨ro,rc,dv5,hro⟩:=dv5
   clear hdn hl3
   rw[dv5]
   clear dv5 gs3 gs8 gs9
   clear hro
   refine Zac rfl ?_
   go_wp2_with fail
   exact Zaa ⟨_,rfl,Below.refl _ _,rfl⟩
  ·obtain rfl:=Option.some.inj hi
   have dv6:ssF q0 q3 q1 q2 xa xn xc n m ln OK EC L 6 w' (f' 46):=hdn 6 _ 46 rfl (hl3 6 (by rfl)) rfl
   obtain⟨ro,rc,dv6,hro⟩:=dv6
   clear hdn hl3
   rw[dv6]
   clear dv6 gs3 gs8 gs9
   have HRO:=ħ hro
   clear hro
   refine Zac rfl ?_
   go_wp2_with fail
   exact Zaa ⟨_,rfl,Below.refl _ _,ro,rc,rfl,HRO.o⟩
  ·obtain rfl:=Option.some.inj hi
   have dv7:f' 47 = .bool OK:=hdn 7 _ 47 rfl (hl3 7 (by rfl)) rfl
   clear hdn hl3
   rw[dv7]
   clear dv7 gs3 gs8 gs9
   refine Zac rfl ?_
   go_wp2_with fail
   exact Zaa ⟨_,rfl,Below.refl _ _,rfl⟩
  ·obtain rfl:=Option.some.inj hi
   have dv8:f' 48 = .int .i64 EC:=hdn 8 _ 48 rfl (hl3 8 (by rfl)) rfl
   clear hdn hl3
   rw[dv8]
   clear dv8 gs3 gs8 gs9
   refine Zac rfl ?_
   go_wp2_with fail
   exact Zaa ⟨_,rfl,Below.refl _ _,rfl⟩
 case he =>
  intro listed a' w4 H hall
  have hd9:ssF q0 q3 q1 q2 xa xn xc n m ln OK EC L 9 w4 (a'.tmps.getD 10 undef):=H.done 9 _ 10 rfl (hall 9 (by decide)) rfl
  have hd10:ssF q0 q3 q1 q2 xa xn xc n m ln OK EC L 10 w4 (a'.tmps.getD 11 undef):=H.done 10 _ 11 rfl (hall 10 (by decide)) rfl
  have hd11:ssF q0 q3 q1 q2 xa xn xc n m ln OK EC L 11 w4 (a'.tmps.getD 12 undef):=H.done 11 _ 12 rfl (hall 11 (by decide)) rfl
  have hb4:=ħ H.below
  have hact:=H.act [41,42,43,44,45,40,46,47,48,10,11,12] (Zn4 (by kernel_rfl))
  clear H hall
  simp only[List.foldl_cons,List.foldl_nil] at hact
  generalize a'.tmps.getD 41 undef=z41 at *
  generalize a'.tmps.getD 42 undef=z42 at *
  generalize a'.tmps.getD 43 undef=z43 at *
  generalize a'.tmps.getD 44 undef=z44 at *
  generalize a'.tmps.getD 45 undef=z45 at *
  generalize a'.tmps.getD 40 undef=z40 at *
  generalize a'.tmps.getD 46 undef=z46 at *
  generalize a'.tmps.getD 47 undef=z47 at *
  generalize a'.tmps.getD 48 undef=z48 at *
  generalize a'.tmps.getD 10 undef=z10 at *
  generalize a'.tmps.getD 11 undef=z11 at *
  generalize a'.tmps.getD 12 undef=z12 at *
  subst hact
  obtain⟨ro,rc,e9,hro⟩:=hd9
  subst e9
  have e10:z11 = .bool OK:=hd10
  subst e10
  clear hd10
  have e11:z12 = .int .i64 EC:=hd11
  subst e11
  clear hd11
  simp only[Act.put,List.setIfInBounds_toArray,List.set_cons_succ,List.set_cons_zero]
  have HRO:=ħ hro
  have B6:=ħ (B5.o.trans (hb4.o.mono B5.o.size))
  have Y6:=ħ (Y5.o.step hb4.o)
  clear hb4 B5 Y5 X1 HW HF hro
  rcases HEC.o with ⟨h,ha⟩ | h
  ·subst h
   obtain rfl:OK=false:=by rw[← HOK.o];rfl
   have ia:(8:Int)<(AN:Int):=by omega
   clear HOK HL HLN HOK2
   go_wp2_with (refine Za9 (by rfl) 25 (.tmp 3) rfl w.heap.size ?x5 25 #[.int .i64 q0,.string q1,.string q2,.int .i64 q3,.slice xa xn xc] (0,0) _ Y6.o Tryz.underlying25 rfl (Zae _ rfl) ?_;(case x5=>rfl))
   refine (HAA.o w4 B6.o).mono ?_
   rintro e w7 ⟨ao,cp,rfl,b7⟩
   have B7:=ħ (B6.o.trans (b7.mono B6.o.size))
   clear b7
   go_wp2
   go_ret
   exact⟨rfl,B7.o⟩
  ·subst h
   go_wp2_with (refine wpList_load_row rfl 25 (.tmp 3) rfl w.heap.size ?x6 25 #[.int .i64 q0,.string q1,.string q2,.int .i64 q3,.slice xa xn xc] (0,0) _ Y6.o Tryz.underlying25 rfl (Zae _ rfl) ?_;(case x6=>rfl))
   refine (HFF.o w4 B6.o).mono ?_
   rintro e w7 ⟨rfl,b7⟩
   have B7:=ħ (B6.o.trans (b7.mono B6.o.size))
   have Y7:=ħ (Y6.o.step b7)
   have HR7:=ħ (HRO.o.below b7)
   clear b7 B6 Y6 HRO HFF
   obtain⟨FI,hFI⟩:∃ f,(match FK with | some k=>(k:Int) | none=>-1)=f:=⟨_,rfl⟩
   rw[hFI]
   have HFI:=ħ hFI
   clear hFI
   go_wp2_with (refine wpList_load_row rfl 25 (.tmp 3) rfl w.heap.size ?x7 25 #[.int .i64 q0,.string q1,.string q2,.int .i64 q3,.slice xa xn xc] (0,0) _ Y7.o Tryz.underlying25 rfl (Zae _ rfl) ?_;(case x7=>rfl))
   refine (HNN.o w7 B7.o).mono ?_
   rintro e w8 ⟨us,rfl,hus,b8⟩
   have HUS:=ħ hus
   have B8:=ħ (B7.o.trans (b8.mono B7.o.size))
   have Y8:=ħ (Y7.o.step b8)
   have HR8:=ħ (HR7.o.below b8)
   clear hus b8 B7 Y7 HR7 HNN
   generalize hua:us.toArray=ua at *
   go_wp2_with fail
   refine (HSM.o w8).mono ?_
   rintro e w9 ⟨so,rfl,hso,b9⟩
   have B9:=ħ (B8.o.trans (b9.mono B8.o.size))
   have Y9:=ħ (Y8.o.step b9)
   have HR9:=ħ (HR8.o.below b9)
   have HQ:=ħ (HF2.o w9 B9.o us (HUS.o.below b9) so hso)
   clear hso b9 B8 Y8 HR8 HUS HF2
   rw[hua] at HQ
   clear hua us
   go_wp2_with fail
   refine HQ.o.mono ?_
   rintro e w10 ⟨so2,sc2,rfl,-,b10⟩
   have B10:=ħ (B9.o.trans (b10.mono B9.o.size))
   have HR10:=ħ (HR9.o.below b10)
   clear b10 B9 Y9 HR9 HQ
   generalize L2.length=ln2 at *
   cases FK with
   | none =>
    obtain rfl:OK=false:=by rw[← HOK.o];rfl
    obtain rfl:OK2=true:=by rw[← HOK2.o,HTT.o rfl];rfl
    obtain rfl:L=[]:=by rw[← HL.o];rfl
    obtain rfl:ln=0:=HLN.o.symm
    obtain rfl:FI = -1:=HFI.o.symm
    clear HOK HOK2 HL HLN HFI HTT HR10
    go_wp2_with fail
    go_ret
    exact⟨rfl,B10.o⟩
   | some k =>
    obtain rfl:OK=true:=by rw[← HOK.o];rfl
    obtain rfl:L=Zmp n m k:=by rw[← HL.o];rfl
    obtain rfl:ln=n:=by rw[← HLN.o,HAL.o]
    obtain rfl:FI=(k:Int):=HFI.o.symm
    have hkN:=(HFL.o k rfl).1
    have ik:(0:Int)≤(k:Int):=by omega
    clear HOK HOK2 HL HLN HFI HTT
    go_wp2_with fail
    refine (HAS.o k hkN w10).mono ?_
    rintro e w11 ⟨ao,ac,rfl,ha,b11⟩
    have B11:=ħ (B10.o.trans (b11.mono B10.o.size))
    have HQ:=ħ (fun lc rc=>HSB.o k w11 ro lc ao rc (HR10.o.below b11) ha)
    clear ha b11 B10 HR10 hkN ik
    go_wp2_with fail
    refine (HQ.o _ _).mono ?_
    rintro e w12 ⟨rfl,b12⟩
    have B12:=ħ (B11.o.trans (b12.mono B11.o.size))
    clear b12
    go_wp2
    go_ret
    exact⟨rfl,B12.o⟩
end
end Go.Proofs.YtmkdfbelbcocpaaGreatDoor
