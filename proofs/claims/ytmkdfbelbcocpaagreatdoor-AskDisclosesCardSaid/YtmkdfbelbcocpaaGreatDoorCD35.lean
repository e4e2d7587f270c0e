import Derived.Test.YtmkdfbelbcocpaaGreatDoorCD34
import Derived.Test.YtmkdfbelbcocpaaGreatDoorCD25
import Derived.Test.YtmkdfbelbcocpaaGreatDoorCD23
import Derived.Test.YtmkdfbelbcocpaaGreatDoorCD20
import Derived.Test.YtmkdfbelbcocpaaGreatDoorCD22
import Derived.Test.YtmkdfbelbcocpaaGreatDoorCD10
set_option linter.unusedVariables false
set_option linter.unusedSimpArgs false
set_option maxHeartbeats 16000000
set_option maxRecDepth 100000
namespace Go.Proofs.YtmkdfbelbcocpaaGreatDoor
section
open Go.RowKit Go.Sort
def Zmq:List (List Nat):=[[120,46,97],[120,46,98],[121,46,97]]
def Zao (n:Nat):List (List Nat):=Zmq.take n
theorem Zc8 {n:Nat} (h:n≤3):(Zao n).length=n:=by unfold Zao;rw[List.length_take];exact Nat.min_eq_left h
theorem Zmr (n:Nat) (hn:n≤3) (w:World) :
  Calls Tryz.prog 55 #[.int .i64 n] w fun e w'=>∃ ao,e = .returned (.slice ao n 3)∧Zcr w' ao (Zao n)∧Below w.heap.size w w':=by
 have bx:=(Below.refl w.heap.size w).alloc (Nat.le_refl _) (.cells #[.string ⟨#[120,46,97]⟩,.string ⟨#[120,46,98]⟩,.string ⟨#[121,46,97]⟩] 9)
 have X1:Hid (Zah (w.alloc (.cells #[.string ⟨#[120,46,97]⟩,.string ⟨#[120,46,98]⟩,.string ⟨#[121,46,97]⟩] 9)) w.heap.size 9 [.string ⟨#[120,46,97]⟩,.string ⟨#[120,46,98]⟩,.string ⟨#[121,46,97]⟩]):=ħ (heap_alloc_new w _)
 have B1:=ħ bx
 clear bx
 have i0:(0:Int)≤n:=by omega
 have i3:(n:Int)≤3:=by omega
 go_enter Tryz.func55,Tryz.ntmps55
 go_wp2
 go_ret
 refine⟨_,rfl,.inr ⟨_,0,rfl,X1.o.lt,fun j u hj=>?_⟩,B1.o⟩
 have h3:(Zmq.map Z3d)[j]?=some u:=by
  unfold Zao at hj
  rw[List.map_take,List.getElem?_take] at hj
  by_cases h:j<n
  ·rwa [if_pos h] at hj
  ·rw[if_neg h] at hj;cases hj
 exact X1.o.readsR j u h3
theorem Z4d (n m:Nat) (hn:n≤3) (hm:m≤6) (w:World) :
  Calls Tryz.prog 57 #[.int .i64 n,.int .i64 m] w fun e w'=>e = .returned (.int .i64 (((m+1)^n:Nat):Int))∧w=w':=by
 have HP:Hid (∀ i,i≤n→(m+1)^i≤343):=ħ (fun i hi=>by
  have h1:(m+1)^i≤7^i:=Nat.pow_le_pow_left (by omega) i
  have h2:7^i≤7^3:=Nat.pow_le_pow_right (by omega) (by omega)
  omega)
 have e1:IntKind.i64.wrap ((m:Int)+1)=((m+1:Nat):Int):=IntWalk.i64_in _ (by omega)
 go_enter Tryz.func57,Tryz.ntmps57
 go_wp2_with fail
 go_loop [5,6] (fun o c=>∃ i:Nat,c = .int .i64 i∧i≤n∧o = .int .i64 (((m+1)^i:Nat):Int)) (fun o c=>(n-intOf c).toNat)
 case atStart=>exact⟨0,rfl,by omega,rfl⟩
 case round =>
  obtain⟨i,rfl,hi,rfl⟩:=hrel
  have e2:IntKind.i64.wrap ((i:Int)+1)=((i+1:Nat):Int):=IntWalk.i64_in _ (by omega)
  by_cases hlt:i<n
  ·have ii:(i:Int)<n:=by omega
   obtain⟨q,hq⟩:∃ q,(m+1)^i=q:=⟨_,rfl⟩
   obtain⟨r,hr⟩:∃ r,(m+1)^(i+1)=r:=⟨_,rfl⟩
   have HR:=ħ hr
   have hb:=HP.o (i+1) hlt
   rw[Nat.pow_succ] at hr
   rw[hq] at hr
   have e3:IntKind.i64.wrap ((q:Int)*((m:Int)+1))=(r:Int):=(by
    rw[show (q:Int)*((m:Int)+1)=((q*(m+1):Nat):Int) by simp,hr]
    exact IntWalk.i64_in _ (by rw[HR.o] at hb;omega))
   rw[hq]
   clear hq hr hb
   go_wp2
   go_round
   case rel=>exact⟨i+1,by go_num,by omega,by rw[HR.o]⟩
   case measure=>simp only[intOf];omega
  ·have ii:¬ ((i:Int)<n):=by omega
   obtain rfl:i=n:=by omega
   go_wp2
   go_ret
   exact⟨rfl,rfl⟩
end
section
open Go.RowKit Go.Sort
def Znl (n most k:Nat):List Bnd:=Zc1 (Zao n) (Zcq n most k) n
theorem Z66 {n:Nat} (h:n≤3) (most k:Nat):Znl n most k=Ze8 (Zao n) (Zcq n most k):=by unfold Znl Ze8;rw[Zc8 h]
theorem Zpn {ns:List (List Nat)} {v:List Int} {j i:Nat} (h:i<j):(Zc1 ns v j)[i]?=some ⟨ns.getD i [],gv v (i+1)⟩:=by
 unfold Zc1
 rw[List.getElem?_map,List.getElem?_range h];rfl
theorem Z0l (ns:List (List Nat)) (vs:List Int) (j i:Nat) (x:Int) (h:i<vs.length):Zc1 ns (0::vs.set i x) j=(Zc1 ns (0::vs) j).set i ⟨ns.getD i [],x⟩:=by
 apply List.ext_getElem?
 intro t
 by_cases ht:t<j
 ·rw[Zpn ht,List.getElem?_set]
  by_cases e:i=t
  ·subst e
   rw[if_pos rfl,if_pos (by rw[Zg6];exact ht)]
   rw[show (0::vs.set i x)=(0::vs).set (i+1) x from rfl,Zgn _ _ _ _ (by simp;omega),if_pos rfl]
  ·rw[if_neg e,Zpn ht]
   rw[show (0::vs.set i x)=(0::vs).set (i+1) x from rfl,Zgn _ _ _ _ (by simp;omega),if_neg (by omega)]
 ·rw[List.getElem?_eq_none (by rw[Zg6];omega),List.getElem?_eq_none (by rw[List.length_set,Zg6];omega)]
theorem Z4e {b i k k0 n:Nat} {vs:List Int} (hv:vs.length=n) (hi:i<n) (h:Zji b n k0=Zji b (i+1) k++vs.drop (i+1)):Zji b n k0=Zji b i (k/b)++(vs.set i ((k%b:Nat):Int)).drop i:=by
 rw[h]
 have:(vs.set i ((k%b:Nat):Int)).drop i=((k%b:Nat):Int)::vs.drop (i+1):=by
  rw[List.drop_eq_getElem_cons (by rw[List.length_set];omega),List.getElem_set_self,List.drop_set_of_lt (by omega)]
 rw[this,Zji,List.append_assoc];rfl
theorem OwnK.setAt {w:World} {B k n cap g off:Nat} {xs:List Value} (h:OwnK w B k n cap xs (some ⟨g,off,none⟩)) (i:Nat) (hi:i<xs.length) (v:Value) :
  OwnK (w.setCell ⟨g,off+i,none⟩ v) B k n cap (xs.set i v) (some ⟨g,off,none⟩):=by
 cases h with
 | «at» g off h h1 h2 h3 =>
  have hth:=h.cells i xs[i] (List.getElem?_eq_getElem hi)
  have hsame:=World.cell?_setCell_same w ⟨g,off+i,none⟩ v hth
  have hoth:∀ j,i≠j→(w.setCell ⟨g,off+i,none⟩ v).cell? ⟨g,off+j,none⟩=w.cell? ⟨g,off+j,none⟩:=fun j hj=>World.cell?_setCell_other w _ _ v (fun e=>hj (by have:=congrArg Addr.off e;simp at this;exact this))
  refine .at g off ⟨h.own,by rw[World.size_setCell];exact h.lt,by rw[List.length_set];exact h.le,fun j u hj=>?_,fun j hj=>?_,fun j hj=>?_⟩ (by rw[List.length_set];exact h1) h2 h3
  ·rw[List.getElem?_set] at hj
   by_cases e:i=j
   ·subst e
    rw[if_pos rfl,if_pos hi] at hj
    cases hj
    exact hsame
   ·rw[if_neg e] at hj
    rw[hoth j e];exact h.cells j u hj
  ·by_cases e:i=j
   ·subst e;rw[hsame];rfl
   ·rw[hoth j e];exact h.room j hj
  ·show (w.setCells g (off+i) [v]).frozen? _=_
   rw[World.frozen?_setCells];exact h.warm j hj
theorem Z0m (l:List Bnd) (i:Nat) (b:Bnd) (hb:l[i]?=some b) (x:Int):(l.flatMap Zfj).set (i*2+1) (.int .i64 x)=(l.set i ⟨b.n,x⟩).flatMap Zfj:=by
 have hi:=(List.getElem?_eq_some_iff.1 hb).1
 apply List.ext_getElem?
 intro j
 rw[Zui Zfj 2 Zdm l i hi,List.getElem?_set]
 by_cases e:i*2+1=j
 ·subst e
  rw[if_pos rfl,if_pos (by rw[Zbd Zfj 2 Zdm];omega),if_pos (by omega),show i*2+1-i*2=1 by omega];rfl
 ·rw[if_neg e]
  by_cases e2:i*2≤j∧j<i*2+2
  ·obtain rfl:j=i*2:=by omega
   rw[if_pos e2,Nat.sub_self]
   have:=Zby Zfj 2 Zdm l i 0 b hb (by omega)
   rw[Nat.add_zero] at this
   rw[this];rfl
  ·rw[if_neg e2]
theorem Zww (k n m:Nat) (hn:n≤3) (hm:m≤6) (hk:k≤1000000) (w:World) :
  Calls Tryz.prog 58 #[.int .i64 k,.int .i64 n,.int .i64 m] w fun e w'=>(∃ ro rc,e = .returned (.slice ro n rc)∧OwnK w' w.heap.size 2 n rc ((Znl n m k).flatMap Zfj) ro)∧Below w.heap.size w w':=by
 have HS:=ħ (fun W=>Zmr n hn W)
 have HL:=ħ (Zc8 hn)
 have bx:=(Below.refl w.heap.size w).alloc (Nat.le_refl _) (.cells #[] 87)
 have B0:=ħ bx
 have O0:Hid (OwnK (w.alloc (.cells #[] 87)) w.heap.size 2 0 0 ((Zc1 (Zao n) (0::List.replicate n 0) 0).flatMap Zfj) (some ⟨w.heap.size,0,none⟩)):=ħ (by have:=OwnK.made w 87 2;simpa [Zc1] using this)
 clear bx
 have e1:IntKind.i64.wrap ((m:Int)+1)=(m:Int)+1:=IntWalk.i64_in _ (by omega)
 go_enter Tryz.func58,Tryz.ntmps58
 go_wp2_with fail
 go_loopw [7,8] (fun o c wr=>∃ (i:Nat) (ro:Option Addr) (rc:Nat),c = .int .i64 i∧i≤n∧o = .slice ro i rc∧Hid (OwnK wr w.heap.size 2 i rc ((Zc1 (Zao n) (0::List.replicate n 0) i).flatMap Zfj) ro)∧Hid (Below w.heap.size w wr)) (fun o c _=>(n-intOf c).toNat)
 case atStart=>exact⟨0,_,0,rfl,by omega,rfl,O0,B0⟩
 case round =>
  clear O0 B0
  obtain⟨i,ro,rc,rfl,hi,rfl,ho,hw⟩:=hrel
  have e2:IntKind.i64.wrap ((i:Int)+1)=((i+1:Nat):Int):=IntWalk.i64_in _ (by omega)
  by_cases hlt:i<n
  ·have ii:(i:Int)<n:=by omega
   obtain⟨s,hs⟩:∃ s,(Zao n)[i]?=some s:=⟨_,List.getElem?_eq_getElem (by rw[HL.o];exact hlt)⟩
   have HTK:Hid ((Zc1 (Zao n) (0::List.replicate n 0) i).flatMap Zfj++[.string (Zad s),.int .i64 0]=(Zc1 (Zao n) (0::List.replicate n 0) (i+1)).flatMap Zfj):=ħ (by
    rw[Zn9 hs,← Zg5]
    have:gv (0::List.replicate n 0) (i+1)=0:=Zgv (n+1) (i+1)
    rw[this];rfl)
   go_wp2_with fail
   refine (HS.o wr).mono ?_
   rintro e w2 ⟨sa,rfl,hsr,b2⟩
   have HW2:=ħ (hw.o.trans (b2.mono hw.o.size))
   have HO2:=ħ (ho.o.below b2)
   obtain⟨g,off,hao,hg,hc⟩:=hsr.at i s hs
   subst hao
   clear b2 hsr hs ho hw
   generalize Zad s=y at *
   go_wp2_with (at_builtin;refine Zfa 49 87 Z81 2 24 Tryz.underlying49 Zu4 rfl (by omega) (by omega) w2 w.heap.size rfl (.tmp 16) (.tmp 23) rfl ro rc i ((Zc1 (Zao n) (0::List.replicate n 0) i).flatMap Zfj) ?q1 HO2.o HW2.o.size 1 1 #[.string y,.int .i64 0] 87 ?q2 rfl (by omega) ?q3 ?q4 ?_;(case q1=>rfl);(case q2=>rfl);(case q3=>simp[Value.oneCell']);(case q4=>omega);intro g5 off5 c5 wa o8 gr8 b8 or8;have O8:=ħ o8;have B8:=ħ b8;clear o8 gr8 b8 or8)
   have B4:=ħ (HW2.o.trans B8.o)
   clear HO2 HW2 hg hc B8
   go_roundw
   case rel=>exact⟨i+1,some ⟨g5,off5,none⟩,c5,by go_num,by omega,rfl,ħ (by rw[← HTK.o];exact O8.o),B4⟩
   case measure=>simp only[intOf];omega
  ·obtain rfl:i=n:=by omega
   have ii:¬ ((i:Int)<(i:Int)):=by omega
   have HDG:Hid (∃ vs:List Int,vs.length=i∧Zc1 (Zao i) (0::List.replicate i 0) i=Zc1 (Zao i) (0::vs) i∧Zji (m+1) i k=Zji (m+1) i k++vs.drop i):=ħ ⟨List.replicate i 0,by simp,rfl,by simp⟩
   obtain⟨vs,hvl,hvb,hvd⟩:=HDG.o
   rw[hvb] at ho
   have HO0:=ħ ho.o
   have HW0:=ħ hw.o
   have HVL:=ħ hvl
   have HVD:=ħ hvd
   have e3:IntKind.i64.wrap ((i:Int)-1)=(i:Int)-1:=IntWalk.i64_in _ (by omega)
   clear HDG hvb hvl hvd ho hw
   go_wp2_with fail
   go_loopw [0,9] (fun kc c wq=>∃ (q t:Nat) (vs:List Int),c = .int .i64 ((t:Int)-1)∧t≤i∧kc = .int .i64 q∧q≤1000000∧Hid (vs.length=i)∧Hid (Zji (m+1) i k=Zji (m+1) t q++vs.drop t)∧Hid (OwnK wq w.heap.size 2 i rc ((Zc1 (Zao i) (0::vs) i).flatMap Zfj) ro)∧Hid (Below w.heap.size w wq)) (fun kc c _=>(intOf c+1).toNat)
   case atStart=>exact⟨k,i,vs,rfl,Nat.le_refl _,rfl,by omega,HVL,HVD,HO0,HW0⟩
   case round =>
    clear HO0 HW0 HVL HVD vs
    obtain⟨q,t,vs,rfl,ht,rfl,hq,hvl,hvd,ho,hw⟩:=hrel
    by_cases ht0:0<t
    ·obtain⟨t',rfl⟩:∃ t',t=t'+1:=⟨t-1,by omega⟩
     rw[show (((t'+1:Nat):Int)-1)=(t':Int) by omega]
     have i0:(0:Int)≤t':=by omega
     have i1:(t':Int)<i:=by omega
     obtain⟨g,off,hao,hB,hg,hr⟩:=ho.o.readsAt (by omega)
     subst hao
     have hbt:=Zpn (ns:=Zao i) (v:=0::vs) (show t'<i by omega)
     have hlt2:t'*2+1<((Zc1 (Zao i) (0::vs) i).flatMap Zfj).length:=by rw[Zbd Zfj 2 Zdm,Zg6];omega
     have c0:wr.cell? ⟨g,off+t'*2+1,none⟩=some (.int .i64 (gv (0::vs) (t'+1))):=by
      rw[Nat.add_assoc]
      refine hr (t'*2+1) _ ?_
      rw[Zby Zfj 2 Zdm _ t' 1 _ hbt (by omega)];rfl
     have fz:wr.frozen? ⟨g,off+t'*2+1,none⟩=false:=by
      have:=ho.o.len_le.1
      rw[Nat.add_assoc]
      exact ho.o.reads.2.2.2 _ (by omega)
     obtain⟨X,hX⟩:∃ X,q%(m+1)=X:=⟨_,rfl⟩
     have HO2:Hid (OwnK (wr.setCell ⟨g,off+t'*2+1,none⟩ (.int .i64 ((X:Nat):Int))) w.heap.size 2 i rc ((Zc1 (Zao i) (0::vs.set t' ((X:Nat):Int)) i).flatMap Zfj) (some ⟨g,off,none⟩)):=ħ (by
      have:=ho.o.setAt (t'*2+1) hlt2 (.int .i64 ((X:Nat):Int))
      rw[Z0m _ t' _ hbt,← Nat.add_assoc] at this
      rw[Z0l _ _ _ _ _ (by rw[hvl.o];omega)]
      exact this)
     have HD2:Hid (Zji (m+1) i k=Zji (m+1) t' (q/(m+1))++(vs.set t' ((X:Nat):Int)).drop t'):=ħ (by rw[← hX];exact Z4e hvl.o (by omega) hvd.o)
     have HW2:Hid (Below w.heap.size w (wr.setCell ⟨g,off+t'*2+1,none⟩ (.int .i64 ((X:Nat):Int)))):=ħ (hw.o.setCell (p:=⟨g,off+t'*2+1,none⟩) hB _)
     have hqd:q/(m+1)≤1000000:=Nat.le_trans (Nat.div_le_self _ _) hq
     obtain⟨Y,hY⟩:∃ Y,q/(m+1)=Y:=⟨_,rfl⟩
     rw[hY] at hqd HD2
     have r1:((q:Int)).tmod ((m:Int)+1)=(X:Int):=by rw[← hX];rfl
     have r2:((q:Int)).tdiv ((m:Int)+1)=(Y:Int):=by rw[← hY];rfl
     have r0:((m:Int)+1==0)=false:=beq_eq_false_iff_ne.mpr (by omega)
     have r3:IntKind.i64.wrap (X:Int)=(X:Int):=IntWalk.i64_in _ (by have:=Nat.mod_le q (m+1);omega)
     have r4:IntKind.i64.wrap (Y:Int)=(Y:Int):=IntWalk.i64_in _ (by omega)
     have e4:IntKind.i64.wrap ((t':Int)-1)=(t':Int)-1:=IntWalk.i64_in _ (by omega)
     clear hX hY hbt hlt2 hr hB hg ho hw hvd e3
     go_wp2
     go_roundw
     case rel=>exact⟨Y,t',vs.set t' ((X:Nat):Int),rfl,by omega,rfl,hqd,ħ (by rw[List.length_set];exact hvl.o),HD2,HO2,HW2⟩
     case measure=>simp only[intOf];omega
    ·obtain rfl:t=0:=by omega
     have HV:Hid (Znl i m k=Zc1 (Zao i) (0::vs) i):=ħ (by
      have:=hvd.o
      rw[Zji,List.drop_zero,List.nil_append] at this
      unfold Znl Zcq;rw[this])
     rw[show (((0:Nat):Int)-1)=(-1:Int) by omega]
     go_wp2
     go_ret
     exact⟨⟨ro,rc,rfl,by rw[HV.o];exact ho.o⟩,hw.o⟩
end
section
theorem Z0n (n m k:Nat) (hm:m≤6):∃ ds:List Int,Zji (m+1) n k=ds∧ds.length=n∧∀ x∈ds,0≤x∧x≤65535:=by
 refine⟨_,rfl,Zir _ _ _,fun x hx=>?_⟩
 have:=Zpa (m+1) (by omega) n k x hx
 omega
theorem Zok {n:Nat} (hn:n≤3) {s:List Nat} (h:s∈Zao n):s=[120,46,97]∨s=[120,46,98]∨s=[121,46,97]:=by
 have:=List.mem_of_mem_take h
 simpa [Zmq] using this
theorem Z0o (n m k:Nat) (hn:n≤3) (hm:m≤6):vbP (Znl n m k)=true∧∀ s,Ze4 (Zao n) s=true→Ziv (Zpe (Znl n m k)) s=some (gv (Zcq n m k) (Zco (Zao n) s)):=by
 obtain⟨ds,h1,h2,h3⟩:=Z0n n m k hm
 unfold Znl Zcq
 rw[h1]
 clear h1
 match n,hn,ds,h2,h3 with
 | 0,_,[],_,_=>exact⟨rfl,fun s hs=>by
   have:s=[]:=by simpa [Ze4,Zao,Zmq] using hs
   subst this;rfl⟩
 | 1,_,[a],_,h3 =>
  have ha:=h3 a (by simp)
  refine⟨?_,fun s hs=>?_⟩
  ·show vbP [⟨[120,46,97],a⟩]=true
   simp[vbP,vbG,ha]
   decide
  ·have:s=[]∨s=[120,46,97]:=by simpa [Ze4,Zao,Zmq] using hs
   rcases this with rfl | rfl<;>rfl
 | 2,_,[a,b],_,h3 =>
  have ha:=h3 a (by simp)
  have hb:=h3 b (by simp)
  refine⟨?_,fun s hs=>?_⟩
  ·show vbP [⟨[120,46,97],a⟩,⟨[120,46,98],b⟩]=true
   simp[vbP,vbG,ha,hb]
   decide
  ·have:s=[]∨s=[120,46,97]∨s=[120,46,98]:=by simpa [Ze4,Zao,Zmq] using hs
   rcases this with rfl | rfl | rfl<;>rfl
 | 3,_,[a,b,c],_,h3 =>
  have ha:=h3 a (by simp)
  have hb:=h3 b (by simp)
  have hc:=h3 c (by simp)
  refine⟨?_,fun s hs=>?_⟩
  ·show vbP [⟨[120,46,97],a⟩,⟨[120,46,98],b⟩,⟨[121,46,97],c⟩]=true
   simp[vbP,vbG,ha,hb,hc]
   decide
  ·have:s=[]∨s=[120,46,97]∨s=[120,46,98]∨s=[121,46,97]:=by simpa [Ze4,Zao,Zmq] using hs
   rcases this with rfl | rfl | rfl | rfl<;>rfl
def trK (n m:Nat) (p:Prd) (k:Nat):Bool:=Zav (fK (Zao n) (gv (Zcq n m k))) p
theorem Z4f (n m k:Nat) (hn:n≤3) (hm:m≤6) (p:Prd) (hv:Zau p=true) (hk:Zio (Zao n) (Zan p)):Zwb p (Znl n m k)=(trK n m p k,0):=by
 obtain⟨h1,h2⟩:=Z0o n m k hn hm
 unfold Zwb
 rw[if_neg (by rw[hv,h1];simp),if_neg]
 ·unfold trK
  congr 1
  refine Zl6 (fun x hx=>?_)
  have:=hk x ((Zbm p x).2 hx)
  unfold fV fK gvD
  rw[h2 _ this.1,h2 _ this.2];rfl
 ·rw[Bool.not_eq_false,List.all_eq_true]
  intro x hx
  have:=hk x hx
  unfold bdV
  rw[h2 _ this.1,h2 _ this.2];rfl
theorem Z0p (n m k:Nat) (hn:n≤3):BndOk (Znl n m k):=⟨fun b hb=>by
 unfold Znl Zc1 at hb
 obtain⟨i,hi,rfl⟩:=List.mem_map.1 hb
 have hi2:i<(Zao n).length:=by rw[Zc8 hn];simpa using hi
 have:(Zao n).getD i []∈Zao n:=by rw[List.getD_eq_getElem?_getD,List.getElem?_eq_getElem hi2];exact List.getElem_mem _
 show NmB ((Zao n).getD i [])
 rcases Zok hn this with h | h | h<;>rw[h]<;>exact⟨by decide,by decide⟩⟩
theorem Zd4 (n m k:Nat):(Znl n m k).length=n:=Zg6 _ _ _
end
section
open Go.RowKit Go.Sort
theorem OwnK.bndR {w:World} {B n cap:Nat} {ao:Option Addr} {l:List Bnd} (h:OwnK w B 2 n cap (l.flatMap Zfj) ao) (hn:n=l.length):Z25 w (fun _=>True) l ao:=by
 rcases h.flatR Zdm hn with h | ⟨g,off,h1,h2,h3⟩
 ·exact .inl h
 ·exact .inr ⟨g,off,h1,trivial,h2,h3⟩
theorem Z0q (p:Prd) (w:World) (P:Nat→Prop) (vs:List Value) (B n m k:Nat) (hN:Za8 p≤1000000) (hb:Zib p) (h:Zai w P p vs) (hT:Tab w B) (hn:n≤3) (hm:m≤6) (hv:Zau p=true) (hk:Zio (Zao n) (Zan p))
  (W:World) (hW:Below w.heap.size w W) (ro:Option Addr) (rc:Nat) (hro:Z25 W (fun _=>True) (Znl n m k) ro) :
  Calls Tryz.prog 42 #[.agg vs.toArray,.slice ro n rc] W fun e w'=>e = .returned (.tuple #[.bool (trK n m p k),.int .i64 0])∧Below W.heap.size W w':=by
 have:=Zzc p W P (fun _=>True) vs B (Znl n m k) ro n rc hN hb (h.below hW) (Zc0.step (w:=w) hT hW) (Zd4 n m k).symm (by omega) (Z0p n m k hn) hro
 rw[Z4f n m k hn hm p hv hk] at this
 exact this
end
section
open Go.RowKit Go.Sort
def Zms (n:Nat) (p:Prd):Bool:=(Zhq p).all (fun s=>(Zao n).contains s)
theorem Z0r {n:Nat} {p:Prd} (hv:Zau p=true):Zms n p=true↔Zio (Zao n) (Zan p):=by
 unfold Zms Zhq Zio
 rw[if_pos hv,List.all_eq_true]
 unfold Zj6 Ze4
 constructor
 ·intro h k hk
  constructor
  ·by_cases e:k.l=[]
   ·rw[e];rfl
   ·rw[h k.l ((Zem _ _).2 ⟨e,k,hk,.inl rfl⟩)];simp
  ·by_cases e:k.r=[]
   ·rw[e];rfl
   ·rw[h k.r ((Zem _ _).2 ⟨e,k,hk,.inr rfl⟩)];simp
 ·intro h s hs
  obtain⟨h1,k,hk,h2⟩:=(Zem _ _).1 hs
  rcases h2 with rfl | rfl
  ·have:=(h k hk).1
   simpa [h1] using this
  ·have:=(h k hk).2
   simpa [h1] using this
theorem Z5y {p:Prd} {s:List Nat} (h:s∈Zhq p):∀ y∈s,y<256:=by
 unfold Zhq at h
 by_cases hv:Zau p=true
 ·rw[if_pos hv] at h
  obtain⟨h1,k,hk,h2⟩:=(Zem _ _).1 h
  have:=Zea p (Zet hv) k ((Zbm p k).1 hk)
  rcases h2 with rfl | rfl
  ·exact this.lb
  ·exact this.rb
 ·rw[if_neg hv] at h;cases h
theorem Zrt {n:Nat} (hn:n≤3):∀ s∈Zao n,∀ y∈s,y<256:=fun s hs=>by
 rcases Zok hn hs with h | h | h<;>subst h<;>decide
theorem Zru (p:Prd) (hN:Za8 p≤100000):(Zhq p).length≤1000000:=by
 unfold Zhq
 split
 ·unfold Zj6
  refine Nat.le_trans (Zvg _) ?_
  have:(Zan p).length≤Za8 p:=Nat.le_trans (Zfi _ (Zcl p) (Zmc (Zf0 p)) (fun x hx=>(Zbm p x).1 hx)) (Zfz p)
  omega
 ·simp
theorem Z85 (t:Array Value) (h:t.size=23):∃ f:Nat→Value,t=#[f 0,f 1,f 2,f 3,f 4,f 5,f 6,f 7,f 8,f 9,f 10,f 11,f 12,f 13,f 14,f 15,f 16,f 17,f 18,f 19,f 20,f 21,f 22]:=by
 obtain⟨l⟩:=t
 have hl:l.length=23:=h
 have e:l=(List.range 23).map (fun i=>l.getD i undef):=by
  apply List.ext_getElem
  ·simp[hl]
  ·intro i h1 h2
   simp[List.getD,h1]
 exact⟨fun i=>l.getD i undef,congrArg List.toArray e⟩
theorem Z0s (i:Nat) (h:i<8):i=0∨i=1∨i=2∨i=3∨i=4∨i=5∨i=6∨i=7:=by omega
def knF (n g off c cp j:Nat) (y:ByteArray) (R:Bool) (i:Nat) (W:World) (v:Value):Prop:=match i with
 | 0=>v = .int .i64 (n:Nat)
 | 1=>∃ so,v = .slice so n 3∧Zcr W so (Zao n)
 | 2=>v = .slice (some ⟨g,off,none⟩) c cp
 | 3=>v = .int .i64 (j:Nat)
 | 4=>v = .pointer (some ⟨g,off+j,none⟩)
 | 5=>v = .string y
 | 6=>v = .bool R
 | 7=>v = .bool (!R)
 | _=>True
theorem Z4g (n g off c cp j:Nat) (y:ByteArray) (R:Bool):∀ i w w' v,knF n g off c cp j y R i w v→Below w.heap.size w w'→knF n g off c cp j y R i w' v:=by
 intro i w w' v h hb
 match i with
 | 0=>exact h
 | 1=>obtain⟨so,h1,h2⟩:=h;exact⟨so,h1,h2.below hb⟩
 | 2=>exact h
 | 3=>exact h
 | 4=>exact h
 | 5=>exact h
 | 6=>exact h
 | 7=>exact h
 | k+8=>trivial
theorem Z0t (p:Prd) (w:World) (P:Nat→Prop) (vs:List Value) (B n:Nat) (hN:Za8 p≤100000) (hb:Zib p) (h:Zai w P p vs) (hT:Tab w B) (hn:n≤3) :
  Calls Tryz.prog 53 #[.agg vs.toArray,.int .i64 n] w fun e w'=>e = .returned (.bool (Zms n p))∧Below w.heap.size w w':=by
 obtain⟨xa,xn,xc,rfl,-⟩:=h.form
 have HNA:=ħ (fun W (hW:Below w.heap.size w W)=>Zn6 p W P _ B (by omega) hb (h.below hW) (Zc0.step (w:=w) hT hW))
 have HSM:=ħ (fun W=>Zmr n hn W)
 have HL:=ħ (Zru p hN)
 have HBY:=ħ (fun s (hs:s∈Zhq p)=>Z5y hs)
 have HKB:Hid (Zms n p=(Zhq p).all (fun s=>(Zao n).contains s)):=ħ rfl
 have HSB:=ħ (Zrt hn)
 have HSL:=ħ (Zc8 hn)
 generalize Zms n p=RES at *
 generalize Zhq p=NS at *
 generalize p.k=q0 at *
 generalize Zad p.l=q1 at *
 generalize Zad p.r=q2 at *
 generalize p.c=q3 at *
 have bx:=(Below.refl w.heap.size w).alloc (Nat.le_refl _) (.cells #[.int .i64 q0,.string q1,.string q2,.int .i64 q3,.slice xa xn xc] 25)
 have B1:=ħ bx
 have Y1:Hid (Zah (w.alloc (.cells #[.int .i64 q0,.string q1,.string q2,.int .i64 q3,.slice xa xn xc] 25)) w.heap.size 25 [.int .i64 q0,.string q1,.string q2,.int .i64 q3,.slice xa xn xc]):=ħ (heap_alloc_new w _)
 clear bx h hT hN hb
 go_enter Tryz.func53,Tryz.ntmps53
 go_upto_region 1 with (fail)
 generalize w.alloc (.cells #[.int .i64 q0,.string q1,.string q2,.int .i64 q3,.slice xa xn xc] 25)=w1 at *
 go_wp2_with (refine wpList_load_row rfl 25 (.tmp 2) rfl w.heap.size ?x1 25 #[.int .i64 q0,.string q1,.string q2,.int .i64 q3,.slice xa xn xc] (0,0) _ Y1.o Tryz.underlying25 rfl (Zae _ rfl) ?_;(case x1=>rfl))
 refine (HNA.o w1 B1.o).mono ?_
 rintro e w2 ⟨ao,cp,rfl,ho,b2⟩
 have HO:=ħ (ho.strsR rfl)
 have B2:=ħ (B1.o.trans (b2.mono B1.o.size))
 clear ho b2 B1 HNA
 obtain⟨c,hc⟩:∃ c,NS.length=c:=⟨_,rfl⟩
 have HC:=ħ hc
 rw[hc] at HL ⊢
 clear hc
 have hlb:=HL.o
 go_wp2_with fail
 go_loopw [6] (fun iv wr=>∃ (j:Nat),iv = .int .i64 j∧j≤c∧Hid ((NS.take j).all (fun s=>(Zao n).contains s)=true)∧Hid (Below w2.heap.size w2 wr)) (fun i _=>(c-intOf i).toNat)
 case atStart=>exact⟨0,rfl,by omega,ħ (by simp),ħ (Below.refl _ _)⟩
 case round =>
  obtain⟨j,rfl,hi,hno,hw⟩:=hrel
  have e2:IntKind.i64.wrap ((j:Int)+1)=((j+1:Nat):Int):=IntWalk.i64_in _ (by omega)
  by_cases hlt:j<c
  ·have ii:(j:Int)<c:=by omega
   obtain⟨s,hs⟩:∃ s,NS[j]?=some s:=⟨_,List.getElem?_eq_getElem (by rw[HC.o];exact hlt)⟩
   obtain⟨g,off,hao,hg,hce⟩:=(HO.o.below hw.o).at j s hs
   have HCE:=ħ (fun W (hW:Below wr.heap.size wr W)=>(World.cell?_of_block (a:=⟨g,off+j,none⟩) (hW.block g hg)).trans hce)
   have HAO:=ħ hao
   subst hao
   have HST:Hid ((NS.take (j+1)).all (fun s=>(Zao n).contains s)=((NS.take j).all (fun s=>(Zao n).contains s)&&(Zao n).contains s)):=ħ (by rw[List.take_add_one,hs,List.all_append];simp)
   have HAN:=ħ (fun (h:(Zao n).contains s=false)=>(show NS.all (fun s=>(Zao n).contains s)=false from by
    rw[Bool.eq_false_iff]
    intro h2
    rw[List.all_eq_true] at h2
    have h3:=h2 s (List.mem_of_getElem? hs)
    rw[h] at h3
    cases h3))
   have HHS:=ħ (fun W so (hso:Zcr W so (Zao n))=>rhas_any' so n 3 (Zao n) s W HSL.o.symm (by omega) hso (HBY.o s (List.mem_of_getElem? hs)) HSB.o)
   obtain⟨R,hR⟩:∃ R,(Zao n).contains s=R:=⟨_,rfl⟩
   rw[hR] at HHS HST HAN
   clear hs hg hce hR
   generalize Zad s=y at *
   have W0:=ħ (B2.o.trans (hw.o.mono B2.o.size))
   go_upto_region 5 with (fail)
   clear ii
   refine Zfq (knF n g off c cp j y R) (by kernel_rfl) (Z4g n g off c cp j y R) (Ze0 (by kernel_rfl)) (Zt2 (by kernel_rfl)) (Zdi (by kernel_rfl)) ?hs ?he
   case hs =>
    intro i o hi listed a' w' H hl2
    have hl3:=Za9 hl2
    have hin:i<8:=(Array.getElem?_eq_some_iff.1 hi).1
    have hb:=ħ H.below
    have s1:=H.same 1 (Zap (by kernel_rfl))
    have s5:=H.same 5 (Zap (by kernel_rfl))
    have s6:=H.same 6 (Zap (by kernel_rfl))
    have hdn:=H.done
    have hdf:=H.defers
    have hts:=H.tsize
    clear hl2 H
    obtain⟨t',df⟩:=a'
    obtain⟨f',rfl⟩:=Z85 t' hts
    have hdf':df=[]:=hdf
    subst hdf'
    have gs1:f' 1 = .int .i64 (n:Nat):=s1
    have gs5:f' 5 = .slice (some ⟨g,off,none⟩) c cp:=s5
    have gs6:f' 6 = .int .i64 (j:Nat):=s6
    clear s1 s5 s6
    clear hdf hts
    have hcases:=Z0s i hin
    clear hin
    rcases hcases with rfl | rfl | rfl | rfl | rfl | rfl | rfl | rfl
    ·obtain rfl:=Option.some.inj hi
     clear hdn hl3
     rw[gs1]
     clear gs1 gs5 gs6
     refine Zac rfl ?_
     go_wp2_with fail
     exact Zaa ⟨_,rfl,Below.refl _ _,rfl⟩
    ·obtain rfl:=Option.some.inj hi
     have dv0:f' 15 = .int .i64 (n:Nat):=hdn 0 _ 15 rfl (hl3 0 (by rfl)) rfl
     clear hdn hl3
     rw[dv0]
     clear dv0 gs1 gs5 gs6
     refine Zac rfl ?_
     go_wp2_with fail
     refine (HSM.o w').mono ?_
     rintro e w4 ⟨so,rfl,hs,b4⟩
     have HS:=ħ hs
     have HB4:=ħ b4
     clear hs b4
     go_wp2_with fail
     exact Zaa ⟨_,rfl,HB4.o,so,rfl,HS.o⟩
    ·obtain rfl:=Option.some.inj hi
     clear hdn hl3
     rw[gs5]
     clear gs1 gs5 gs6
     refine Zac rfl ?_
     go_wp2_with fail
     exact Zaa ⟨_,rfl,Below.refl _ _,rfl⟩
    ·obtain rfl:=Option.some.inj hi
     clear hdn hl3
     rw[gs6]
     clear gs1 gs5 gs6
     refine Zac rfl ?_
     go_wp2_with fail
     exact Zaa ⟨_,rfl,Below.refl _ _,rfl⟩
    ·obtain rfl:=Option.some.inj hi
     have dv2:f' 17 = .slice (some ⟨g,off,none⟩) c cp:=hdn 2 _ 17 rfl (hl3 2 (by rfl)) rfl
     have dv3:f' 18 = .int .i64 (j:Nat):=hdn 3 _ 18 rfl (hl3 3 (by rfl)) rfl
     clear hdn hl3
     rw[dv2,dv3]
     clear dv2 dv3 gs1 gs5 gs6
     have ii:(j:Int)<c:=by omega
     refine Zac rfl ?_
     go_wp2_with fail
     exact Zaa ⟨_,rfl,Below.refl _ _,rfl⟩
    ·obtain rfl:=Option.some.inj hi
     have dv4:f' 19 = .pointer (some ⟨g,off+j,none⟩):=hdn 4 _ 19 rfl (hl3 4 (by rfl)) rfl
     clear hdn hl3
     rw[dv4]
     clear dv4 gs1 gs5 gs6
     have c0:=HCE.o w' hb.o
     refine Zac rfl ?_
     go_wp2_with fail
     exact Zaa ⟨_,rfl,Below.refl _ _,rfl⟩
    ·obtain rfl:=Option.some.inj hi
     have dv1:knF n g off c cp j y R 1 w' (f' 16):=hdn 1 _ 16 rfl (hl3 1 (by rfl)) rfl
     obtain⟨so,dv1,hso⟩:=dv1
     have dv5:f' 20 = .string y:=hdn 5 _ 20 rfl (hl3 5 (by rfl)) rfl
     clear hdn hl3
     rw[dv1,dv5]
     clear dv1 dv5 gs1 gs5 gs6
     have HSO:=ħ hso
     clear hso
     refine Zac rfl ?_
     go_wp2_with fail
     refine (HHS.o w' so HSO.o).mono ?_
     rintro e w4 ⟨rfl,rfl⟩
     go_wp2_with fail
     exact Zaa ⟨_,rfl,Below.refl _ _,rfl⟩
    ·obtain rfl:=Option.some.inj hi
     have dv6:f' 21 = .bool R:=hdn 6 _ 21 rfl (hl3 6 (by rfl)) rfl
     clear hdn hl3
     rw[dv6]
     clear dv6 gs1 gs5 gs6
     refine Zac rfl ?_
     go_wp2_with fail
     exact Zaa ⟨_,rfl,Below.refl _ _,rfl⟩
   case he =>
    intro listed a' w4 H hall
    have hd7:knF n g off c cp j y R 7 w4 (a'.tmps.getD 22 undef):=H.done 7 _ 22 rfl (hall 7 (by decide)) rfl
    have hb4:=ħ H.below
    have hact:=H.act [15,16,17,18,19,20,21,22] (Zt5 (by kernel_rfl))
    clear H hall
    simp only[List.foldl_cons,List.foldl_nil] at hact
    generalize a'.tmps.getD 15 undef=z15 at *
    generalize a'.tmps.getD 16 undef=z16 at *
    generalize a'.tmps.getD 17 undef=z17 at *
    generalize a'.tmps.getD 18 undef=z18 at *
    generalize a'.tmps.getD 19 undef=z19 at *
    generalize a'.tmps.getD 20 undef=z20 at *
    generalize a'.tmps.getD 21 undef=z21 at *
    generalize a'.tmps.getD 22 undef=z22 at *
    subst hact
    have e7:z22 = .bool (!R):=hd7
    subst e7
    clear hd7
    simp only[Act.put,List.setIfInBounds_toArray,List.set_cons_succ,List.set_cons_zero]
    have W4:=ħ (hw.o.trans (hb4.o.mono hw.o.size))
    have W5:=ħ (B2.o.trans (W4.o.mono B2.o.size))
    clear hb4 hw W0
    cases R with
    | false =>
     go_wp2
     go_ret
     exact⟨Zag (by rw[HKB.o];exact (HAN.o trivial).symm),W5.o⟩
    | true =>
     go_wp2
     go_roundw
     case rel=>exact⟨j+1,by go_num,by omega,ħ (by rw[HST.o,hno.o];rfl),W4⟩
     case measure=>simp only[intOf];omega
  ·have ii:¬ ((j:Int)<c):=by omega
   have W5:=ħ (B2.o.trans (hw.o.mono B2.o.size))
   go_wp2
   go_ret
   exact⟨Zag (by rw[HKB.o,← hno.o,List.take_of_length_le (by rw[HC.o];omega)]),W5.o⟩
end
section
theorem Zol {n m:Nat} (h1:1≤n) (hn:n≤3) (hm:m≤6):Zcy (Zao n) (m:Int)=true:=by
 unfold Zcy
 rw[Zc8 hn]
 have h2:Zwk (Zao n)=true∧(Zao n).all Zbo=true:=by
  match n,h1,hn with
  | 1,_,_=>exact⟨by decide,by decide⟩
  | 2,_,_=>exact⟨by decide,by decide⟩
  | 3,_,_=>exact⟨by decide,by decide⟩
 simp[h2]
 omega
structure GoP (n:Nat) (p:Prd):Prop where
 valid:Zau p=true
 known:Zio (Zao n) (Zan p)
theorem GoP.ok {n:Nat} {p:Prd} (h:GoP n p):okQ (Zao n) p=true:=Zml h.valid h.known
end
section
open Go.RowKit Go.Sort
theorem Z4h {n:Nat} (h1:1≤n) (hn:n≤3):Zjh (Zao n):=(Zf6 (Zol (m:=0) h1 hn (by omega))).1
theorem Z8f {n m:Nat} (hn:n≤3) (hm:m≤6):(m+1)^n≤343:=by
 have h1:(m+1)^n≤7^n:=Nat.pow_le_pow_left (by omega) n
 have h2:7^n≤7^3:=Nat.pow_le_pow_right (by omega) (by omega)
 omega
end
section
open Go.RowKit Go.Sort
theorem Zi6 {g:Nat→Bool} {m k:Nat} (hk:k<m) (h:g k=true) (hj:∀ j,j<k→g j=false):Zb2 g m=some k:=by
 unfold Zb2
 exact (List.find?_range_eq_some (p:=g) (i:=k) (n:=m)).2 ⟨h,List.mem_range.2 hk,fun j h1=>by rw[hj j h1];rfl⟩
theorem Zhc {g:Nat→Bool} {m:Nat} (h:∀ j,j<m→g j=false):Zb2 g m=none:=by
 unfold Zb2
 exact List.find?_eq_none.2 (fun x hx=>by rw[h x (List.mem_range.1 hx)];simp)
theorem Zom {n m:Nat} (hn:n≤3) {ps:List Prd} (hk:Zio (Zao n) (Zak ps)) (f:List Bool→Bool) (g:Nat→Bool) (hg:∀ k,f (trU (Zao n) ps (gv (Zcq n m k)))=g k) :
  Zf9 (Zao n) (m:Int) (Zak ps) ps f=(Zb2 g ((m+1)^n)).map (Zcq n m):=by
 obtain⟨h1,h2⟩:=Zum (most:=(m:Int)) hk f
 unfold Zf9
 rw[Zc8 hn] at h1 h2
 cases hf:(Zbc (Zao n) (m:Int) (Zak ps) ps).find? (fun c=>f c.2) with
 | none =>
  have h3:=h2 hf
  rw[Zhc (fun j hj=>by
   rw[← hg j]
   exact h3 _ ((Zld n m _).2 ⟨j,hj,rfl⟩))];rfl
 | some c =>
  obtain⟨a1,a2,a3,a4⟩:=h1 c hf
  obtain⟨k,hk,he,b1,b2⟩:=Zqx (fun v=>f (trU (Zao n) ps (gv v))) a1 a3 a4
  rw[Zi6 hk (by rw[← hg k];exact b1) (fun j hj=>by rw[← hg j];exact b2 j hj)]
  show some c.1=some (Zcq n m k)
  rw[he]
theorem GoP.comps {n:Nat} {ps:List Prd} (h:∀ p∈ps,GoP n p):Zio (Zao n) (Zak ps):=Zyq (fun k hk=>by
 obtain⟨p,hp,hk⟩:=List.mem_flatMap.1 hk
 exact (h p hp).known k hk)
theorem Z8p {n m:Nat} (hn:n≤3) {p:Prd} (h:GoP n p):Zf9 (Zao n) (m:Int) (Zak [p]) [p] (fun l=>l.getD 0 false)=(Zb2 (trK n m p) ((m+1)^n)).map (Zcq n m) :=
 Zom hn (GoP.comps (fun q hq=>by rw[List.mem_singleton.1 hq];exact h)) _ _ (fun k=>rfl)
def Z0u (n m:Nat) (c:Int) (r:Option Nat):List Bnd:=if c=0 then (match r with | some k=>Znl n m k | none=>[]) else []
end
section
open Go.RowKit Go.Sort
theorem Z0v {n:Nat} (hn:n≤3) (m k:Nat):∀ b∈Znl n m k,NmB b.n:=(Z0p n m k hn).nm
theorem Z0w (k n m:Nat) (hn:n≤3) (W:World) (lo ro:Option Addr) (lc rc:Nat) (hl:Za7 Zfj W lo (Znl n m k)) (hr:Za7 Zfj W ro (Znl n m k)) :
  Calls Tryz.prog 59 #[.slice lo n lc,.slice ro n rc] W fun e w'=>e = .returned (.bool true)∧Below W.heap.size W w' :=
 (Ze9 W lo ro n n lc rc _ _ (Zd4 n m k).symm (Zd4 n m k).symm hl hr (Z0v hn m k) (Z0v hn m k) (by omega) (by omega)).mono (fun e w' h=>by
  rw[decide_eq_true rfl] at h
  exact h)
end
section
open Go.RowKit Go.Sort
theorem Z4i {n:Nat} (h1:1≤n) (hn:n≤3) {ps:List Prd} (hg:∀ p∈ps,GoP n p) (hc:∀ s∈Zao n,∃ p∈ps,s∈Zhq p):Zdv ps=Zao n:=by
 refine Z6b (Zpj ps) (Z4h h1 hn) (fun x=>?_)
 unfold Zdv
 rw[Zem]
 constructor
 ·rintro⟨hx,k,hk,h2⟩
  obtain⟨p,hp,hkp⟩:=List.mem_flatMap.1 hk
  have:=(hg p hp).known k hkp
  unfold Ze4 at this
  rcases h2 with rfl | rfl
  ·have:=this.1;simpa [hx] using this
  ·have:=this.2;simpa [hx] using this
 ·intro hx
  obtain⟨p,hp,hs⟩:=hc x hx
  unfold Zhq at hs
  rw[if_pos (hg p hp).valid] at hs
  obtain⟨h3,k,hk,h4⟩:=(Zem _ _).1 hs
  exact⟨h3,k,List.mem_flatMap.2 ⟨p,hp,hk⟩,h4⟩
theorem Z4j {n m:Nat} {ps:List Prd} (h1:1≤n) (hn:n≤3) (hm:m≤6) (h:∀ p∈ps,GoP n p):Zb1 (Zao n) (m:Int) ps=if 8<(Zak ps).length then 6 else 0 :=
 Zmk (fun q hq=>(h q hq).ok) (Zol h1 hn hm)
end
section
open Go.RowKit Go.Sort
def Zkn (g:Nat→Nat→Bool) (N:Nat):Option (Nat×Nat):=(Zb2 (fun i=>(Zb2 (g i) N).isSome) N).bind (fun i=>(Zb2 (g i) N).map (fun k=>(i,k)))
theorem Z4k {g:Nat→Nat→Bool} {N i k:Nat} (hi:i<N) (hk:k<N) (h:g i k=true) (h1:∀ a,a<i→∀ b,b<N→g a b=false) (h2:∀ b,b<k→g i b=false):Zkn g N=some (i,k):=by
 have h3:Zb2 (g i) N=some k:=Zi6 hk h h2
 have h4:Zb2 (fun i=>(Zb2 (g i) N).isSome) N=some i:=Zi6 hi (by show (Zb2 (g i) N).isSome=true;rw[h3];rfl) (fun j hj=>by
  show (Zb2 (g j) N).isSome=false
  rw[Zhc (fun b hb=>h1 j hj b hb)];rfl)
 unfold Zkn
 rw[h4]
 show (Zb2 (g i) N).map _=_
 rw[h3];rfl
theorem Z0x {g:Nat→Nat→Bool} {N:Nat} (h1:∀ a,a<N→∀ b,b<N→g a b=false):Zkn g N=none:=by
 unfold Zkn
 rw[Zhc (fun j hj=>by
  show (Zb2 (g j) N).isSome=false
  rw[Zhc (fun b hb=>h1 j hj b hb)];rfl)];rfl
theorem Zrv {α β:Type} (F:α→Option β):∀ l:List α,l.findSome? F=(l.find? (fun x=>(F x).isSome)).bind F
 | []=>rfl
 | x::l=>by
  rw[List.findSome?_cons,List.find?_cons]
  cases h:F x with
  | none=>simp[Zrv F l]
  | some y=>simp[h]
theorem Z4l {n m:Nat} (hn:n≤3) {ps:List Prd} (hk:Zio (Zao n) (Zak ps)) :
  Z8b (Zbc (Zao n) (m:Int) (Zak ps) ps)=(Zkn (fun i k=>Zgq (trU (Zao n) ps (gv (Zcq n m i))) (trU (Zao n) ps (gv (Zcq n m k)))) ((m+1)^n)).map (fun x=>(Zcq n m x.1,Zcq n m x.2)):=by
 have hF:∀ t:List Bool,((Zbc (Zao n) (m:Int) (Zak ps) ps).find? (fun y=>Zgq t y.2)).map (·.1)=(Zb2 (fun k=>Zgq t (trU (Zao n) ps (gv (Zcq n m k)))) ((m+1)^n)).map (Zcq n m):=fun t=>Zom hn hk (fun l=>Zgq t l) _ (fun k=>rfl)
 have hG:∀ x:Cel,((Zbc (Zao n) (m:Int) (Zak ps) ps).find? (fun y=>Zgq x.2 y.2)).map (fun y=>(x.1,y.1))=(Zb2 (fun k=>Zgq x.2 (trU (Zao n) ps (gv (Zcq n m k)))) ((m+1)^n)).map (fun k=>(x.1,Zcq n m k)):=fun x=>by
  have:=congrArg (fun o=>o.map (fun v=>(x.1,v))) (hF x.2)
  simpa [Option.map_map,Function.comp_def] using this
 unfold Z8b
 rw[show (fun x:Cel=>((Zbc (Zao n) (m:Int) (Zak ps) ps).find? (fun y=>Zgq x.2 y.2)).map (fun y=>(x.1,y.1)))=(fun x:Cel=>(Zb2 (fun k=>Zgq x.2 (trU (Zao n) ps (gv (Zcq n m k)))) ((m+1)^n)).map (fun k=>(x.1,Zcq n m k))) from funext hG,Zrv]
 obtain⟨h1,h2⟩:=Zum (most:=(m:Int)) hk (fun t=>(Zb2 (fun k=>Zgq t (trU (Zao n) ps (gv (Zcq n m k)))) ((m+1)^n)).isSome)
 rw[Zc8 hn] at h1 h2
 rw[show (fun x:Cel=>((Zb2 (fun k=>Zgq x.2 (trU (Zao n) ps (gv (Zcq n m k)))) ((m+1)^n)).map (fun k=>(x.1,Zcq n m k))).isSome)=(fun c:Cel=>(Zb2 (fun k=>Zgq c.2 (trU (Zao n) ps (gv (Zcq n m k)))) ((m+1)^n)).isSome) from funext fun x=>Option.isSome_map]
 unfold Zkn
 cases hf:(Zbc (Zao n) (m:Int) (Zak ps) ps).find? (fun c=>(Zb2 (fun k=>Zgq c.2 (trU (Zao n) ps (gv (Zcq n m k)))) ((m+1)^n)).isSome) with
 | none =>
  have h3:=h2 hf
  rw[Zhc (fun j hj=>h3 _ ((Zld n m _).2 ⟨j,hj,rfl⟩))];rfl
 | some c =>
  obtain⟨a1,a2,a3,a4⟩:=h1 c hf
  obtain⟨k,hk',he,b1,b2⟩:=Zqx (fun v=>(Zb2 (fun k=>Zgq (trU (Zao n) ps (gv v)) (trU (Zao n) ps (gv (Zcq n m k)))) ((m+1)^n)).isSome) a1 a3 a4
  rw[Zi6 hk' b1 b2]
  show (Zb2 _ _).map _=((Zb2 _ _).map _).map _
  rw[Option.map_map]
  rw[a2,he];rfl
def Zwx (t:Nat→Bool):Nat→Nat
 | 0=>0
 | i+1=>Zwx t i+if t i=true then 2^i else 0
theorem Zpo (t:Nat→Bool):∀ i,Zwx t i<2^i
 | 0=>by show 0<2^0;decide
 | i+1=>by
  have:=Zpo t i
  unfold Zwx
  rw[Nat.pow_succ]
  split<;>omega
theorem Z0y:∀ a:Fin 16,∀ b:Fin 16,bits .xor .i64 ((a.val:Nat):Int) ((b.val:Nat):Int)=((a.val ^^^ b.val:Nat):Int):=by decide +kernel
theorem Z4m:∀ a0 a1 a2 a3 b0 b1 b2 b3:Bool,
  ((((0+if a0=true then 1 else 0)+if a1=true then 2 else 0)+if a2=true then 4 else 0)+if a3=true then 8 else 0) ^^^ ((((0+if b0=true then 1 else 0)+if b1=true then 2 else 0)+if b2=true then 4 else 0)+if b3=true then 8 else 0)=1↔((a0 != b0)&&decide ([a1,a2,a3]=[b1,b2,b3]))=true:=by decide +kernel
theorem Z0z:∀ a0 a1 a2 b0 b1 b2:Bool,
  (((0+if a0=true then 1 else 0)+if a1=true then 2 else 0)+if a2=true then 4 else 0) ^^^ (((0+if b0=true then 1 else 0)+if b1=true then 2 else 0)+if b2=true then 4 else 0)=1↔((a0 != b0)&&decide ([a1,a2]=[b1,b2]))=true:=by decide +kernel
theorem Z67:∀ a0 a1 b0 b1:Bool,
  ((0+if a0=true then 1 else 0)+if a1=true then 2 else 0) ^^^ ((0+if b0=true then 1 else 0)+if b1=true then 2 else 0)=1↔((a0 != b0)&&decide ([a1]=[b1]))=true:=by decide +kernel
theorem Z68:∀ a0 b0:Bool,
  (0+if a0=true then 1 else 0) ^^^ (0+if b0=true then 1 else 0)=1↔((a0 != b0)&&decide (([]:List Bool)=[]))=true:=by decide +kernel
theorem Zrw {α:Type}:∀ l:List α,1≤l.length→l.length≤4→(∃ a,l=[a])∨(∃ a b,l=[a,b])∨(∃ a b c,l=[a,b,c])∨∃ a b c d,l=[a,b,c,d]
 | [],h,_=>by simp at h
 | [a],_,_=>.inl ⟨a,rfl⟩
 | [a,b],_,_=>.inr (.inl ⟨a,b,rfl⟩)
 | [a,b,c],_,_=>.inr (.inr (.inl ⟨a,b,c,rfl⟩))
 | [a,b,c,d],_,_=>.inr (.inr (.inr ⟨a,b,c,d,rfl⟩))
 | a::b::c::d::e::l,_,h=>by simp at h
theorem Z69 (s t:List Bool) (hs:1≤s.length) (h4:s.length≤4) (ht:t.length=s.length) :
  (Zwx (fun i=>s.getD i false) s.length ^^^ Zwx (fun i=>t.getD i false) s.length=1)↔Zgq s t=true:=by
 unfold Zgq
 rcases Zrw s hs h4 with ⟨a,rfl⟩ | ⟨a,b,rfl⟩ | ⟨a,b,c,rfl⟩ | ⟨a,b,c,d,rfl⟩<;>rcases Zrw t (by rw[ht];exact hs) (by rw[ht];exact h4) with ⟨a',rfl⟩ | ⟨a',b',rfl⟩ | ⟨a',b',c',rfl⟩ | ⟨a',b',c',d',rfl⟩<;>first | (exfalso;revert ht;simp;done) | exact Z68 a a' | exact Z67 a b a' b' | exact Z0z a b c a' b' c' | exact Z4m a b c d a' b' c' d'
theorem Z4n (s t:List Bool) (hs:1≤s.length) (h4:s.length≤4) (ht:t.length=s.length) :
  (bits .xor .i64 ((Zwx (fun i=>s.getD i false) s.length:Nat):Int) ((Zwx (fun i=>t.getD i false) s.length:Nat):Int)==(1:Int))=Zgq s t:=by
 have hb:(2:Nat)^s.length≤2^4:=Nat.pow_le_pow_right (by decide) h4
 have h1:=Zpo (fun i=>s.getD i false) s.length
 have h2:=Zpo (fun i=>t.getD i false) s.length
 have:=Z0y ⟨_,Nat.lt_of_lt_of_le h1 hb⟩ ⟨_,Nat.lt_of_lt_of_le h2 hb⟩
 rw[this,Bool.eq_iff_iff,← Z69 s t hs h4 ht,beq_iff_eq]
 exact⟨fun h=>by exact_mod_cast h,fun h=>by rw[h];rfl⟩
theorem Z8g {ns:List (List Nat)} {L:List Prd} {u:Nat→Int} {i:Nat} {q:Prd} (h:L[i]?=some q):(trU ns L u).getD i false=Zav (fK ns u) q:=by
 unfold trU
 rw[List.getD_eq_getElem?_getD,List.getElem?_map,h];rfl
theorem Zmt {ns:List (List Nat)} {L:List Prd} {u:Nat→Int}:(trU ns L u).length=L.length:=by unfold trU;rw[List.length_map]
theorem Zbj.only {w w':World} {P p:Nat→Prop} {l:List Prd} {ao:Option Addr} (h:Zbj w P l ao) (hb:Only w w' p) (hp:∀ g,P g→¬ p g):Zbj w' P l ao:=by
 rcases h with h | ⟨g,off,h1,h2,h3,h4⟩
 ·exact .inl h
 ·exact .inr ⟨g,off,h1,h2,Nat.lt_of_lt_of_le h3 hb.size,Za1.keep (fun g hP hg=>hb.block g hg (hp g hP)) hb.size (fun g hg _=>hg) l g off h2 h3 h4⟩
theorem Zbj.mono {w:World} {P P':Nat→Prop} {l:List Prd} {ao:Option Addr} (h:Zbj w P l ao) (hp:∀ g,P g→g<w.heap.size→P' g):Zbj w P' l ao:=by
 rcases h with h | ⟨g,off,h1,h2,h3,h4⟩
 ·exact .inl h
 ·exact .inr ⟨g,off,h1,hp g h2 h3,h3,Za1.keep (fun g _ hg=>rfl) (Nat.le_refl _) hp l g off h2 h3 h4⟩
theorem Zte.asg {n m:Nat} (hn:n≤3) {w w':World} {c:Int} {r:Option (Nat×Nat)} {e:Ending} (h:Zte w (Zao n) c (r.map (fun x=>(Zcq n m x.1,Zcq n m x.2))) e w') :
  ∃ ro rc so sc,e = .returned (.tuple #[.slice ro (Z0u n m c (r.map (·.1))).length rc,.slice so (Z0u n m c (r.map (·.2))).length sc,.bool (decide (c=0)&&r.isSome),.int .i64 c])∧Za7 Zfj w' ro (Z0u n m c (r.map (·.1)))∧Za7 Zfj w' so (Z0u n m c (r.map (·.2)))∧Below w.heap.size w w':=by
 obtain⟨h1,h2⟩:=h
 unfold Z0u
 by_cases hc:c=0
 ·rw[if_pos hc] at h1
  rw[if_pos hc,if_pos hc]
  subst hc
  cases r with
  | none=>exact⟨none,0,none,0,h1,.inl rfl,.inl rfl,h2⟩
  | some x =>
   obtain⟨va,vb,h3,⟨ro,rc,rfl,h4⟩,⟨so,sc,rfl,h5⟩⟩:=h1
   rw[← Z66 hn,Zc8 hn] at h4 h5
   rw[Zc8 hn] at h3
   exact⟨ro,rc,so,sc,by rw[h3];simp[Zd4],h4.flatR Zdm (Zd4 n m x.1).symm,h5.flatR Zdm (Zd4 n m x.2).symm,h2⟩
 ·rw[if_neg hc] at h1
  rw[if_neg hc,if_neg hc]
  exact⟨none,0,none,0,by rw[h1];simp[hc],.inl rfl,.inl rfl,h2⟩
theorem Zwy {ops:Array Oper} {rest:List Oper} {o:Oper} {a:Act} {Q:Exit→Act→World→Prop} (w:World) (hg:o.guard=none) (s x:Operand) (hop:o.op=Op.call { callee:=Callee.builtin Builtin.append,args:=#[s,x],argTypes:=#[23,23] })
  (p:Prd) (vs:List Value) (P:Nat→Prop) (ls L:List Prd) (hL:p::ls=L) (A ln lc:Nat) (lo:Option Addr) (hs:a.eval s = .slice (some ⟨A,0,none⟩) 1 1) (hx:a.eval x = .slice lo ln lc) (hp:Zai w (fun _=>True) p vs) (hA:Zah w A 25 vs) (hls:Zbj w P ls lo) (hln:ln=ls.length) (hl:(ln+1)*72≤140737488355328) (pn:Nat) (hpn:pn=ln+1)
  (hK:∀ po cap w',Zbj w' (fun _=>True) L po→Below w.heap.size w w'→wpList Tryz.prog ops Q rest (a.put o.dst (.slice po pn cap)) w') :
  wpList Tryz.prog ops Q (o::rest) a w:=by
 obtain⟨i0,hi,hz0,hz1,hz2⟩:=Zgb Zdo
 subst hL
 subst hpn
 rcases Nat.eq_zero_or_pos ln with h0 | h0
 ·have hl0:ls=[]:=List.eq_nil_of_length_eq_zero (by omega)
  subst h0
  subst hl0
  have hrun:=Zha (P:=Tryz.prog) w 23 o.type 25 i0 Tryz.underlying23 hi ⟨A,0,none⟩ 1 1 lo lc (Nat.le_refl _)
  refine wpList_plain hg fun K hK'=>?_
  unfold Oper.wp
  simp[execOp,hop,resolve,invoke,builtin,hs,hx,hrun,Result.andThen]
  exact hK' _ _ (hK _ 1 w (Zi1 hp hA) (Below.refl _ _))
 ·rcases hls with hls | ⟨g,off,rfl,hPg,hgl,hkc⟩
  ·rw[hls] at hln;simp at hln;omega
  obtain⟨vss,hv1,hv2,hv3,hv4,hv5⟩:=Za1.cells ls g off hkc
  refine wpList_append_grows w hg s x 23 hop 25 i0 Znm 5 72 Tryz.underlying23 hi hz0 hz1 hz2 rfl (by omega) (some ⟨A,0,none⟩) 1 1 vs hs (fun h=>by cases h) (by rw[hp.len5]) (fun b hb j u hj=>by cases hb;exact hA.addr j u hj) ⟨g,off,none⟩ ln lc vss.flatten hx (by rw[hln];exact hv4) (fun j u hj=>by rw[Addr.add_lit];exact hv3 j u hj) hv5 (by omega)
   (by simp only[maxLen];omega) (by omega) ?_
  intro v' w' ho hgr
  obtain⟨g',cap',rfl,hw,hl',hcm,hle⟩:=OwnK.of_row ho (by omega)
  have hb:Below w.heap.size w w':=⟨hgr.os,hgr.tape,hgr.output,hgr.size,fun k hk=>hgr.block k hk (by simp)⟩
  have:=hK (some ⟨g',0,none⟩) cap' w' (.inr ⟨g',0,rfl,trivial,hw.lt,Za1.of (p::ls) (vs::vss) g' 0 (by simp[hv1]) (fun i q us hq hu=>by
   cases i with
   | zero=>simp at hq hu;subst hq;subst hu;exact hp.below hb
   | succ i=>exact ((hv2 i q us (by simpa using hq) (by simpa using hu)).below hb).wide) (by rw[List.flatten_cons];exact hw.cells)⟩) hb
  rwa [Nat.add_comm ln 1] at this
theorem Zth {bs:List Bool} {i:Nat} (h:i<bs.length):(bvs bs)[i]?=some (.bool (bs.getD i false)):=by
 unfold bvs
 rw[List.getElem?_map,List.getElem?_eq_getElem h,List.getD_eq_getElem?_getD,List.getElem?_eq_getElem h];rfl
end
end Go.Proofs.YtmkdfbelbcocpaaGreatDoor
