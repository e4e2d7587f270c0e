import Derived.Laws.IdiomStrings
import Derived.Test.YtmkdfbelbcocpaaGreatDoorCL1
set_option linter.unusedVariables false
set_option linter.unusedSimpArgs false
set_option maxHeartbeats 2000000
set_option maxRecDepth 100000
namespace Go.Proofs.YtmkdfbelbcocpaaGreatDoor
section
open Go.RowKit
theorem ħ {p:Prop} (h:p):Hid p:=h
theorem _root_.Go.RowKit.Hid.o{p:Prop}(h:Hid p):p:=h
theorem Za5 {k:IntKind} {a b:Int} (h:a=b):Ending.returned (.int k a) = .returned (.int k b):=by rw[h]
def Zad (l:List Nat):ByteArray:=⟨(l.map UInt8.ofNat).toArray⟩
theorem Zao (l:List Nat):(Zad l).size=l.length:=by
 unfold Zad
 show (l.map UInt8.ofNat).toArray.size=_
 simp
theorem Zfj (l:List Nat) (i:Nat) (hi:i<l.length) (hb:∀ y∈l,y<256) (w:World) :
  (Instr.index 9 (.string (Zad l)) (.int .i64 (i:Int))).run Tryz.prog w = .ok (.int .u8 ((l.getD i 0:Nat):Int)) w:=by
 rw[run_index_string w 9 (Zad l) .i64 i Tryz.underlying9,dif_pos ⟨by omega,by rw[Zao];omega⟩]
 have hm:=hb l[i] (List.getElem_mem hi)
 simp[Zad,List.getD,hi,ByteArray.getElem_eq_getElem_data,Nat.mod_eq_of_lt hm]
theorem Zx7 (c:Nat) (w:World) :
  Calls Tryz.prog 198 #[.int .u8 (c:Int)] w fun e w'=>e = .returned (.bool (Zgf c))∧w=w':=by
 obtain⟨x,hx⟩:∃ x,Zkj c=x:=⟨_,rfl⟩
 obtain⟨y,hy⟩:∃ x,Zdw c=x:=⟨_,rfl⟩
 have HX:=ħ hx
 have HY:=ħ hy
 clear hx hy
 go_enter Tryz.func198,Tryz.ntmps198
 go_wp2_with fail
 refine (Zev c w).mono ?_
 rintro e w1 ⟨rfl,rfl⟩
 rw[HX.o]
 cases x with
 | true =>
  go_wp2
  go_ret
  exact⟨Zaf (by unfold Zgf;rw[HX.o];rfl),rfl⟩
 | false =>
  go_wp2_with fail
  refine (Zg3 c w).mono ?_
  rintro e w2 ⟨rfl,rfl⟩
  rw[HY.o]
  cases y with
  | true =>
   go_wp2
   go_ret
   exact⟨Zaf (by unfold Zgf;rw[HX.o,HY.o];rfl),rfl⟩
  | false =>
   go_wp2
   all_goals
    go_ret
    exact⟨Zaf (by unfold Zgf;rw[HX.o,HY.o,Bool.eq_iff_iff];simp;try omega),rfl⟩
theorem Zpq (l:List Nat) (w:World) (hl:l.length≤1000000) (hb:∀ y∈l,y<256) :
  Calls Tryz.prog 195 #[.string (Zad l),Value.func (.func 198) #[] #[]] w fun e w'=>e = .returned (.int .i64 (Za2 Zgf l))∧w=w':=by
 have SZ:=ħ (Zao l)
 have HX:Hid (∀ i:Nat,i<l.length→∀ w,(Instr.index 9 (.string (Zad l)) (.int .i64 (i:Int))).run Tryz.prog w = .ok (.int .u8 ((l.getD i 0:Nat):Int)) w):=ħ (fun i hi w=>Zfj l i hi hb w)
 clear hb
 generalize Zad l=t at *
 go_enter Tryz.func195,Tryz.ntmps195
 go_wp2_with fail
 go_loop [5] (fun c=>∃ i:Nat,c = .int .i64 i∧i≤l.length∧Hid (∀ j,j<i→Zgf (l.getD j 0)=true)) (fun c=>(l.length-intOf c).toNat)
 case atStart=>exact⟨0,rfl,by omega,ħ (fun j hj=>absurd hj (Nat.not_lt_zero j))⟩
 case round =>
  obtain⟨i,rfl,hi,hz⟩:=hrel
  have hsz:=SZ.o
  have e2:IntKind.i64.wrap ((i:Int)+1)=((i+1:Nat):Int):=IntWalk.i64_in _ (by omega)
  by_cases hlt:i<l.length
  ·have hx:=HX.o i hlt
   have ii:(i:Int)<l.length:=by omega
   obtain⟨v,hv⟩:∃ v,l.getD i 0=v:=⟨_,rfl⟩
   rw[hv] at hx
   have HV:=ħ hv
   clear hv
   obtain⟨q,hq⟩:∃ q,Zgf v=q:=⟨_,rfl⟩
   have HQ:=ħ hq
   clear hq
   go_wp2_with fail
   refine (Zx7 v _).mono ?_
   rintro e w' ⟨rfl,rfl⟩
   rw[HQ.o]
   cases q with
   | true =>
    go_wp2
    go_round
    case rel=>exact⟨i+1,rfl,by omega,ħ (fun j hj=>by
     rcases Nat.lt_or_ge j i with h | h
     ·exact hz.o j h
     ·obtain rfl:j=i:=by omega
      rw[HV.o];exact HQ.o)⟩
    case measure=>simp[intOf];omega
   | false =>
    go_wp2
    go_ret
    exact⟨Za5 (congrArg (fun n:Nat=>(n:Int)) (Zgy Zgf l i hi hz.o (fun _=>by rw[HV.o];exact HQ.o))),rfl⟩
  ·obtain rfl:i=l.length:=by omega
   go_wp2
   go_ret
   exact⟨Za5 (congrArg (fun n:Nat=>(n:Int)) (Zgy Zgf l _ (Nat.le_refl _) hz.o (fun h=>absurd h (Nat.lt_irrefl _)))),rfl⟩
theorem Zpr (l:List Nat) (w:World) (hl:l.length≤1000000) (hb:∀ y∈l,y<256) :
  Calls Tryz.prog 195 #[.string (Zad l),Value.func (.func 199) #[] #[]] w fun e w'=>e = .returned (.int .i64 (Za2 Zdw l))∧w=w':=by
 have SZ:=ħ (Zao l)
 have HX:Hid (∀ i:Nat,i<l.length→∀ w,(Instr.index 9 (.string (Zad l)) (.int .i64 (i:Int))).run Tryz.prog w = .ok (.int .u8 ((l.getD i 0:Nat):Int)) w):=ħ (fun i hi w=>Zfj l i hi hb w)
 clear hb
 generalize Zad l=t at *
 go_enter Tryz.func195,Tryz.ntmps195
 go_wp2_with fail
 go_loop [5] (fun c=>∃ i:Nat,c = .int .i64 i∧i≤l.length∧Hid (∀ j,j<i→Zdw (l.getD j 0)=true)) (fun c=>(l.length-intOf c).toNat)
 case atStart=>exact⟨0,rfl,by omega,ħ (fun j hj=>absurd hj (Nat.not_lt_zero j))⟩
 case round =>
  obtain⟨i,rfl,hi,hz⟩:=hrel
  have hsz:=SZ.o
  have e2:IntKind.i64.wrap ((i:Int)+1)=((i+1:Nat):Int):=IntWalk.i64_in _ (by omega)
  by_cases hlt:i<l.length
  ·have hx:=HX.o i hlt
   have ii:(i:Int)<l.length:=by omega
   obtain⟨v,hv⟩:∃ v,l.getD i 0=v:=⟨_,rfl⟩
   rw[hv] at hx
   have HV:=ħ hv
   clear hv
   obtain⟨q,hq⟩:∃ q,Zdw v=q:=⟨_,rfl⟩
   have HQ:=ħ hq
   clear hq
   go_wp2_with fail
   refine (Zg3 v _).mono ?_
   rintro e w' ⟨rfl,rfl⟩
   rw[HQ.o]
   cases q with
   | true =>
    go_wp2
    go_round
    case rel=>exact⟨i+1,rfl,by omega,ħ (fun j hj=>by
     rcases Nat.lt_or_ge j i with h | h
     ·exact hz.o j h
     ·obtain rfl:j=i:=by omega
      rw[HV.o];exact HQ.o)⟩
    case measure=>simp[intOf];omega
   | false =>
    go_wp2
    go_ret
    exact⟨Za5 (congrArg (fun n:Nat=>(n:Int)) (Zgy Zdw l i hi hz.o (fun _=>by rw[HV.o];exact HQ.o))),rfl⟩
  ·obtain rfl:i=l.length:=by omega
   go_wp2
   go_ret
   exact⟨Za5 (congrArg (fun n:Nat=>(n:Int)) (Zgy Zdw l _ (Nat.le_refl _) hz.o (fun h=>absurd h (Nat.lt_irrefl _)))),rfl⟩
theorem Zps (l:List Nat) (w:World) (hl:l.length≤1000000) (hb:∀ y∈l,y<256) :
  Calls Tryz.prog 195 #[.string (Zad l),Value.func (.func 196) #[] #[]] w fun e w'=>e = .returned (.int .i64 (Za2 Zjg l))∧w=w':=by
 have SZ:=ħ (Zao l)
 have HX:Hid (∀ i:Nat,i<l.length→∀ w,(Instr.index 9 (.string (Zad l)) (.int .i64 (i:Int))).run Tryz.prog w = .ok (.int .u8 ((l.getD i 0:Nat):Int)) w):=ħ (fun i hi w=>Zfj l i hi hb w)
 clear hb
 generalize Zad l=t at *
 go_enter Tryz.func195,Tryz.ntmps195
 go_wp2_with fail
 go_loop [5] (fun c=>∃ i:Nat,c = .int .i64 i∧i≤l.length∧Hid (∀ j,j<i→Zjg (l.getD j 0)=true)) (fun c=>(l.length-intOf c).toNat)
 case atStart=>exact⟨0,rfl,by omega,ħ (fun j hj=>absurd hj (Nat.not_lt_zero j))⟩
 case round =>
  obtain⟨i,rfl,hi,hz⟩:=hrel
  have hsz:=SZ.o
  have e2:IntKind.i64.wrap ((i:Int)+1)=((i+1:Nat):Int):=IntWalk.i64_in _ (by omega)
  by_cases hlt:i<l.length
  ·have hx:=HX.o i hlt
   have ii:(i:Int)<l.length:=by omega
   obtain⟨v,hv⟩:∃ v,l.getD i 0=v:=⟨_,rfl⟩
   rw[hv] at hx
   have HV:=ħ hv
   clear hv
   obtain⟨q,hq⟩:∃ q,Zjg v=q:=⟨_,rfl⟩
   have HQ:=ħ hq
   clear hq
   go_wp2_with fail
   refine (Zxo v _).mono ?_
   rintro e w' ⟨rfl,rfl⟩
   rw[HQ.o]
   cases q with
   | true =>
    go_wp2
    go_round
    case rel=>exact⟨i+1,rfl,by omega,ħ (fun j hj=>by
     rcases Nat.lt_or_ge j i with h | h
     ·exact hz.o j h
     ·obtain rfl:j=i:=by omega
      rw[HV.o];exact HQ.o)⟩
    case measure=>simp[intOf];omega
   | false =>
    go_wp2
    go_ret
    exact⟨Za5 (congrArg (fun n:Nat=>(n:Int)) (Zgy Zjg l i hi hz.o (fun _=>by rw[HV.o];exact HQ.o))),rfl⟩
  ·obtain rfl:i=l.length:=by omega
   go_wp2
   go_ret
   exact⟨Za5 (congrArg (fun n:Nat=>(n:Int)) (Zgy Zjg l _ (Nat.le_refl _) hz.o (fun h=>absurd h (Nat.lt_irrefl _)))),rfl⟩
end
section
open Go.RowKit
theorem Zhr (l:List Nat) (h:l.length≠0):(Zad l).toList.isEmpty=false:=by
 rw[ByteArray.toList_eq]
 cases l with
 | nil=>exact absurd rfl h
 | cons c l=>rfl
theorem Zf8:(Zad []).toList.isEmpty=true:=by
 rw[ByteArray.toList_eq];rfl
theorem Z2p (w:World) :
  Calls Tryz.prog 147 #[.string (Zad [])] w fun e w'=>e = .returned (.bool (Zdt []))∧w=w':=by
 have hne:=Zf8
 go_enter Tryz.func147,Tryz.ntmps147
 go_wp2
 go_ret
 exact⟨rfl,rfl⟩
theorem Zx8 (l:List Nat) (h0:0<l.length) (w:World) (hl:l.length≤1000000) (hb:∀ y∈l,y<256) :
  Calls Tryz.prog 147 #[.string (Zad l)] w fun e w'=>e = .returned (.bool (Zdt l))∧w=w':=by
 have SZ:=ħ (Zao l)
 have hx:∀ w,(Instr.index 9 (.string (Zad l)) (.int .i64 0)).run Tryz.prog w = .ok (.int .u8 ((l.getD 0 0:Nat):Int)) w:=fun w=>Zfj l 0 h0 hb w
 have HR:=ħ (fun w=>Zpq l w hl hb)
 obtain⟨v,hv⟩:∃ v,l.getD 0 0=v:=⟨_,rfl⟩
 rw[hv] at hx
 have HV:=ħ hv
 obtain⟨q,hq⟩:∃ q,Zkj v=q:=⟨_,rfl⟩
 have HQ:=ħ hq
 have hne:=Zhr l (by omega)
 clear hv hq hb
 generalize Zad l=t at *
 go_enter Tryz.func147,Tryz.ntmps147
 go_wp2_with fail
 refine (Zev v w).mono ?_
 rintro e w1 ⟨rfl,rfl⟩
 rw[HQ.o]
 cases q with
 | false =>
  go_wp2
  go_ret
  exact⟨Zaf (by unfold Zdt;rw[HV.o,HQ.o];simp),rfl⟩
 | true =>
  have hsz:=SZ.o
  by_cases h20:l.length≤20
  ·have i20:(l.length:Int)≤20:=by omega
   go_wp2_with fail
   refine (HR.o _).mono ?_
   rintro e w1 ⟨rfl,rfl⟩
   go_wp2
   go_ret
   exact⟨Zaf (by unfold Zdt;rw[HV.o,HQ.o,decide_eq_true h20];cases l with
    | nil=>simp at h0
    | cons c l=>rw[Bool.eq_iff_iff];simp;omega),rfl⟩
  ·have i20:¬ ((l.length:Int)≤20):=by omega
   go_wp2
   go_ret
   exact⟨Zaf (by unfold Zdt;rw[decide_eq_false h20];simp),rfl⟩
theorem Zug (l:List Nat) (w:World) (hl:l.length≤1000000) (hb:∀ y∈l,y<256) :
  Calls Tryz.prog 147 #[.string (Zad l)] w fun e w'=>e = .returned (.bool (Zdt l))∧w=w':=by
 cases l with
 | nil=>exact Z2p w
 | cons c l=>exact Zx8 (c::l) (by simp) w hl hb
end
section
open Go.RowKit
theorem Z2q (p:Nat→Bool) (l:List Nat) (h:∀ j,1≤j→j<l.length→p (l.getD j 0)=true):l.tail.all p=true:=by
 rw[List.all_eq_true]
 intro x hx
 obtain⟨i,hi,rfl⟩:=List.getElem_of_mem hx
 rw[List.length_tail] at hi
 have:=h (i+1) (by omega) (by omega)
 rw[List.getElem_tail]
 rwa [List.getD,List.getElem?_eq_getElem (by omega)] at this
theorem Z2r (p:Nat→Bool) (l:List Nat) (j:Nat) (h1:1≤j) (h2:j<l.length) (h:p (l.getD j 0)=false):l.tail.all p=false:=by
 rw[List.all_eq_false]
 refine⟨l[j],?_,?_⟩
 ·have:l.tail[j-1]'(by rw[List.length_tail];omega)=l[j]:=by rw[List.getElem_tail];congr 1;omega
  rw[← this];exact List.getElem_mem _
 ·rw[List.getD,List.getElem?_eq_getElem h2] at h
  simpa using h
theorem Zpt (l:List Nat) (w:World) (hl:l.length≤1000000) (hb:∀ y∈l,y<256) :
  Calls Tryz.prog 149 #[.string (Zad l)] w fun e w'=>e = .returned (.bool (Zdt l))∧w=w':=by
 rw[← Z1y]
 have SZ:=ħ (Zao l)
 have HX:Hid (∀ i:Nat,i<l.length→∀ w,(Instr.index 9 (.string (Zad l)) (.int .i64 (i:Int))).run Tryz.prog w = .ok (.int .u8 ((l.getD i 0:Nat):Int)) w):=ħ (fun i hi w=>Zfj l i hi hb w)
 clear hb
 generalize Zad l=t at *
 have hsz:=SZ.o
 by_cases h0:l.length<1
 ·have i0:(l.length:Int)<1:=by omega
  go_enter Tryz.func149,Tryz.ntmps149
  go_wp2
  go_ret
  exact⟨Zaf (by unfold Zrx;rw[decide_eq_true h0];rfl),rfl⟩
 ·have i0:¬ ((l.length:Int)<1):=by omega
  by_cases h20:20<l.length
  ·have i20:(20:Int)<l.length:=by omega
   go_enter Tryz.func149,Tryz.ntmps149
   go_wp2
   go_ret
   exact⟨Zaf (by unfold Zrx;rw[decide_eq_true h20];simp),rfl⟩
  ·have i20:¬ ((20:Int)<l.length):=by omega
   have hx:∀ w,(Instr.index 9 (.string t) (.int .i64 0)).run Tryz.prog w = .ok (.int .u8 ((l.getD 0 0:Nat):Int)) w:=fun w=>HX.o 0 (by omega) w
   obtain⟨v,hv⟩:∃ v,l.getD 0 0=v:=⟨_,rfl⟩
   rw[hv] at hx
   have HV:=ħ hv
   obtain⟨q,hq⟩:∃ q,Zkj v=q:=⟨_,rfl⟩
   have HQ:=ħ hq
   clear hv hq
   go_enter Tryz.func149,Tryz.ntmps149
   go_wp2_with fail
   refine (Zk8 v w).mono ?_
   rintro e w1 ⟨rfl,rfl⟩
   rw[HQ.o]
   cases q with
   | false =>
    go_wp2
    go_ret
    exact⟨Zaf (by unfold Zrx;rw[HV.o,HQ.o];simp),rfl⟩
   | true =>
    clear hx
    go_wp2_with fail
    go_loop [3] (fun c=>∃ i:Nat,c = .int .i64 i∧1≤i∧i≤l.length∧Hid (∀ j,1≤j→j<i→Zgf (l.getD j 0)=true)) (fun c=>(l.length-intOf c).toNat)
    case atStart=>exact⟨1,rfl,by omega,by omega,ħ (fun j hj hj2=>absurd hj (by omega))⟩
    case round =>
     obtain⟨i,rfl,h1,hi,hz⟩:=hrel
     have e2:IntKind.i64.wrap ((i:Int)+1)=((i+1:Nat):Int):=IntWalk.i64_in _ (by omega)
     by_cases hlt:i<l.length
     ·have hx:=HX.o i hlt
      have ii:(i:Int)<l.length:=by omega
      obtain⟨u,hu⟩:∃ v,l.getD i 0=v:=⟨_,rfl⟩
      rw[hu] at hx
      have HU:=ħ hu
      clear hu
      have hgo:Zgf u=true→∀ j,1≤j→j<i+1→Zgf (l.getD j 0)=true:=fun hh j hj hj2=>by
       rcases Nat.lt_or_ge j i with h | h
       ·exact hz.o j hj h
       ·obtain rfl:j=i:=by omega
        rw[HU.o];exact hh
      have HGO:=ħ hgo
      clear hgo
      obtain⟨x,hx1⟩:∃ x,Zkj u=x:=⟨_,rfl⟩
      obtain⟨y,hy1⟩:∃ x,Zdw u=x:=⟨_,rfl⟩
      have HX1:=ħ hx1
      have HY1:=ħ hy1
      clear hx1 hy1
      go_wp2_with fail
      refine (Zk8 u _).mono ?_
      rintro e w' ⟨rfl,rfl⟩
      rw[HX1.o]
      cases x with
      | true =>
       go_wp2
       go_round
       case rel=>exact⟨i+1,rfl,by omega,by omega,ħ (HGO.o (Zh2 HX1.o))⟩
       case measure=>simp[intOf];omega
      | false =>
       go_wp2_with fail
       refine (Zvo u _).mono ?_
       rintro e w' ⟨rfl,rfl⟩
       rw[HY1.o]
       cases y with
       | true =>
        go_wp2
        go_round
        case rel=>exact⟨i+1,rfl,by omega,by omega,ħ (HGO.o (by unfold Zgf;rw[HX1.o,HY1.o];rfl))⟩
        case measure=>simp[intOf];omega
       | false =>
        by_cases h95:u=95
        ·have c1:(u:Int)=95:=by omega
         have c2:((u:Int)==95)=true:=by rw[beq_iff_eq];omega
         go_wp2
         go_round
         case rel=>exact⟨i+1,rfl,by omega,by omega,ħ (HGO.o (by unfold Zgf;rw[HX1.o,HY1.o,h95];rfl))⟩
         case measure=>simp[intOf];omega
        ·have c1:¬ ((u:Int)=95):=by omega
         have c2:((u:Int)==95)=false:=by rw[beq_eq_false_iff_ne];omega
         go_wp2
         go_ret
         exact⟨Zaf (by unfold Zrx;rw[Z2r Zgf l i h1 hlt (by rw[HU.o];unfold Zgf;rw[HX1.o,HY1.o,show (u==95)=false from beq_eq_false_iff_ne.mpr h95];rfl)];simp),rfl⟩
     ·obtain rfl:i=l.length:=by omega
      go_wp2
      go_ret
      exact⟨Zaf (by unfold Zrx;rw[Z2q Zgf l hz.o,HV.o,HQ.o,decide_eq_false h0,decide_eq_false h20];rfl),rfl⟩
end
section
open Go.RowKit
theorem Zj3 (l:List Nat) (a b:Nat) (hb:b≤l.length):(Zad l).extract a b=Zad ((l.take b).drop a):=by
 apply ByteArray.ext
 simp[Zad,ByteArray.data_extract,List.map_take,List.map_drop,List.drop_take]
theorem Ze7 (a b:List Nat):Zad a++Zad b=Zad (a++b):=by
 apply ByteArray.ext
 simp[Zad]
theorem Zx9 (l:List Nat) (a:Nat):(Zad l).extract a (Zad l).size=Zad (l.drop a):=by
 rw[Zao,Zj3 l a l.length (Nat.le_refl _),List.take_length]
theorem Zya (l:List Nat) (b:Nat) (hb:b≤l.length):(Zad l).extract 0 b=Zad (l.take b):=by
 rw[Zj3 l 0 b hb];rfl
end
section
open Go.RowKit
theorem Zcb (l:List Nat) (i:Nat) (h:i<l.length):l.drop i=l.getD i 0::l.drop (i+1):=by
 rw[List.drop_eq_getElem_cons h,List.getD,List.getElem?_eq_getElem h];rfl
theorem Z2s (l:List Nat) (i:Nat) (h:i<l.length) (h35:l.getD i 0=35):Zcs false (l.drop i)=Zcs true (l.drop i):=by
 rw[Zcb l i h,h35,Zcs,Zcs]
 simp[Zjg]
theorem Z7k (l:List Nat) (i:Nat) (h:i<l.length) (h10:l.getD i 0≠10):Zcs true (l.drop i)=Zcs true (l.drop (i+1))+1:=by
 rw[Zcb l i h,Zcs]
 have h2:(l.getD i 0 != 10)=true:=by rw[bne_iff_ne];exact h10
 simp only[h2,Bool.true_and,Bool.true_or,if_pos]
theorem Zuh (l:List Nat) (i:Nat) (h:i<l.length→l.getD i 0=10):Zcs true (l.drop i)=Zcs false (l.drop i):=by
 by_cases hi:i<l.length
 ·rw[Zcb l i hi,h hi,Zcs,Zcs]
  simp[Zjg]
 ·rw[List.drop_eq_nil_of_le (by omega)];rfl
theorem Zyb (l:List Nat) (i:Nat) (hb:i<l.length→Zjg (l.getD i 0)=false) (h35:i<l.length→l.getD i 0≠35):Zcs false (l.drop i)=0:=by
 by_cases hi:i<l.length
 ·rw[Zcb l i hi,Zcs,if_neg (by rw[hb hi];simp),if_neg (h35 hi)]
 ·rw[List.drop_eq_nil_of_le (by omega)];rfl
theorem Zsn (l:List Nat) (i:Nat):Zcs false (l.drop i)=Za2 Zjg (l.drop i)+Zcs false (l.drop (i+Za2 Zjg (l.drop i)))∧(i+Za2 Zjg (l.drop i)<l.length→Zjg (l.getD (i+Za2 Zjg (l.drop i)) 0)=false):=by
 constructor
 ·have h:=Zjy (l.drop i)
  rwa [List.drop_drop] at h
 ·intro h
  have h2:=Zky Zjg (l.drop i) (by rw[List.length_drop];omega)
  rwa [List.getD,List.getElem?_drop,← List.getD] at h2
end
section
open Go.RowKit
theorem Zyc (l:List Nat) (i:Nat) (h:i<l.length):l.take (i+1)=l.take i++[l.getD i 0]:=by
 rw[List.take_add_one,List.getD,List.getElem?_eq_getElem h];rfl
theorem Zlh (l:List Nat) (i:Nat) (h:i<l.length):Zkd (l.take (i+1))=10*Zkd (l.take i)+(l.getD i 0-48):=by
 rw[Zyc l i h,Zxa]
theorem Zso {c:Nat} (h:Zdw c=true):48≤c∧c≤57:=by unfold Zdw at h;simpa using h
theorem Zsp (l:List Nat):∀ i,i≤l.length→(∀ j,j<i→Zdw (l.getD j 0)=true)→Zkd (l.take i)<10^i
 | 0,_,_=>by simp[Zkd]
 | i+1,h,hd=>by
  rw[Zlh l i (by omega)]
  have h1:=Zsp l i (by omega) (fun j hj=>hd j (by omega))
  have h2:=Zso (hd i (by omega))
  rw[Nat.pow_succ]
  omega
theorem Zsq (l:List Nat) (h:Za2 Zdw l=l.length):∀ j,j<l.length→Zdw (l.getD j 0)=true:=fun j hj=>Zns Zdw l j (by rw[h];exact hj)
end
section
open Go.RowKit
def Zyd (l:List Nat):Option (List Nat×Nat):=(Zh3 l.tail).bind (fun r=>if r.1.length≤400 then some (r.1,r.2+1) else none)
def Zen (l v:List Nat) (n:Nat):Option (List Nat×Nat):=(Zh3 (l.drop n)).map (fun r=>(v++r.1,r.2+n))
theorem Zsr (l:List Nat):Zen l [] 1=(Zh3 l.tail).map (fun r=>(r.1,r.2+1)):=by
 unfold Zen;rw[List.drop_one];rfl
theorem Zye (l v:List Nat) (n:Nat) (h:¬ n<l.length):Zen l v n=none:=by
 unfold Zen;rw[List.drop_eq_nil_of_le (by omega)];rfl
theorem Z52 (l v:List Nat) (n:Nat) (h:n<l.length) (hc:l.getD n 0=34):Zen l v n=some (v,n+1):=by
 unfold Zen;rw[Zcb l n h,hc,Zh3.eq_def];simp[Nat.add_comm]
theorem Zyf (l v:List Nat) (n:Nat) (h:n<l.length) (hc:Z66 (l.getD n 0)=false):Zen l v n=none:=by
 unfold Zen;rw[Zcb l n h,Zh3.eq_def]
 have h1:l.getD n 0≠34:=by intro e;rw[e] at hc;cases hc
 have h2:l.getD n 0≠92:=by intro e;rw[e] at hc;cases hc
 simp only[h1,h2,if_false,hc];rfl
theorem Zvx (l v:List Nat) (n:Nat) (h:n<l.length) (hc:l.getD n 0=92) (h1:¬ n+1<l.length):Zen l v n=none:=by
 unfold Zen;rw[Zcb l n h,hc,List.drop_eq_nil_of_le (by omega),Zh3.eq_def];simp
theorem Zvy (l v:List Nat) (n:Nat) (h:n<l.length) (hc:l.getD n 0=92) (h1:n+1<l.length) (h2:¬ (l.getD (n+1) 0=34∨l.getD (n+1) 0=92)):Zen l v n=none:=by
 unfold Zen;rw[Zcb l n h,hc,Zcb l (n+1) h1,Zh3.eq_def];simp only[if_neg h2];simp
theorem Zpu (l v:List Nat) (n:Nat) (h:n<l.length) (hc:l.getD n 0=92) (h1:n+1<l.length) (h2:l.getD (n+1) 0=34∨l.getD (n+1) 0=92):Zen l v n=Zen l (v++[l.getD (n+1) 0]) (n+2):=by
 unfold Zen;rw[Zcb l n h,hc,Zcb l (n+1) h1,Zh3.eq_def];simp only[if_pos h2]
 cases Zh3 (l.drop (n+1+1)) with
 | none=>simp
 | some r=>simp;omega
theorem Zyg (l v:List Nat) (n:Nat) (h:n<l.length) (h34:l.getD n 0≠34) (h92:l.getD n 0≠92) (hp:Z66 (l.getD n 0)=true):Zen l v n=Zen l (v++[l.getD n 0]) (n+1):=by
 unfold Zen;rw[Zcb l n h,Zh3.eq_def];simp only[h34,h92,if_false,hp]
 cases Zh3 (l.drop (n+1)) with
 | none=>simp
 | some r=>simp;omega
theorem Zss (l:List Nat):Zyd l=(Zen l [] 1).bind (fun r=>if r.1.length≤400 then some (r.1,r.2) else none):=by
 rw[Zsr];unfold Zyd
 cases Zh3 l.tail with
 | none=>rfl
 | some r=>rfl
end
end Go.Proofs.YtmkdfbelbcocpaaGreatDoor
