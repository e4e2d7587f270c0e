import Derived.Laws.IdiomStrings
import Derived.Test.YtbcgocpihobjnaaGreatDoorCL3
set_option linter.all false
set_option maxHeartbeats 2000000
set_option maxRecDepth 100000
namespace Go.Proofs.YtbcgocpihobjnaaGreatDoor
section
open Go.RowKit
theorem bF.{u}:type_of% @Option.some.inj.{u}:=@Option.some.inj
theorem aL.{u}:type_of% @List.getElem?_eq_getElem.{u}:=@List.getElem?_eq_getElem
theorem aG:type_of% @Go.RowKit.Below.refl:=@Go.RowKit.Below.refl
theorem aO:type_of% @Nat.le_refl:=@Nat.le_refl
theorem bU.{u}:type_of% @List.mem_of_getElem?.{u}:=@List.mem_of_getElem?
theorem bR.{u}:type_of% @List.getD_eq_getElem?_getD.{u}:=@List.getD_eq_getElem?_getD
theorem fD.{u}:type_of% @List.getElem?_eq_some_iff.{u}:=@List.getElem?_eq_some_iff
theorem fU:type_of% @IntWalk.i64_in:=@IntWalk.i64_in
theorem dB:type_of% @Bool.and_eq_true:=@Bool.and_eq_true
theorem dK.{u,v}:type_of% @List.getElem?_map.{u,v}:=@List.getElem?_map
theorem cH:type_of% @Bool.true_and:=@Bool.true_and
theorem eH:type_of% @World.size_alloc:=@World.size_alloc
theorem gR:type_of% @Nat.lt_of_lt_of_le:=@Nat.lt_of_lt_of_le
theorem gL.{u}:type_of% @List.length_append.{u}:=@List.length_append
theorem dQ:type_of% @Nat.le_trans:=@Nat.le_trans
theorem lI.{u}:type_of% @Array.getElem?_eq_some_iff.{u}:=@Array.getElem?_eq_some_iff
theorem dS:type_of% @Bool.false_and:=@Bool.false_and
theorem eB.{u,v}:type_of% @List.length_map.{u,v}:=@List.length_map
theorem pV.{u}:type_of% @List.mem_iff_getElem?.{u}:=@List.mem_iff_getElem?
theorem kI.{u}:type_of% @List.mem_append.{u}:=@List.mem_append
theorem jU:type_of% @Nat.not_lt_zero:=@Nat.not_lt_zero
theorem lN.{u}:type_of% @List.take_add_one.{u}:=@List.take_add_one
theorem gQ:type_of% @Nat.lt_or_ge:=@Nat.lt_or_ge
theorem rJ:type_of% @World.cell?_of_block:=@World.cell?_of_block
theorem I{p:Prop}(h:p):Hid p:=h
theorem _root_.Go.RowKit.Hid.o{p:Prop}(h:Hid p):p:=h
theorem mI{k:IntKind}{a b:Int}(h:a=b):Ending.returned (.int k a) = .returned (.int k b):=by rw[h]
def aB(l:List Nat):ByteArray:=⟨(l.map UInt8.ofNat).toArray⟩
theorem tH(l:List Nat):(aB l).size=l.length:=by
 unfold aB;show(l.map UInt8.ofNat).toArray.size=_;simp
theorem St(l:List Nat)(i:Nat)(hi:i<l.length)(hb:∀ y∈l,y<256)(w:World) :
  (Instr.index 9 (.string (aB l)) (.int .i64 (i:Int))).run Tryz.prog w = .ok (.int .u8 ((l.getD i 0:Nat):Int)) w:=by
 rw[run_index_string w 9 (aB l) .i64 i Tryz.underlying9,dif_pos ⟨by omega,by rw[tH];omega⟩];have hm:=hb l[i] (List.getElem_mem hi);simp[aB,List.getD,hi,ByteArray.getElem_eq_getElem_data,Nat.mod_eq_of_lt hm]
theorem Zxi(c:Nat)(w:World) :
  Calls Tryz.prog 250 #[.int .u8 (c:Int)] w fun e w'=>e = .returned (.bool (jR c))/\w=w':=by
 obtain⟨x,hx⟩:∃ x,tX c=x:=⟨_,rfl⟩;obtain⟨y,hy⟩:∃ x,Ko c=x:=⟨_,rfl⟩;have HX:=I hx;have HY:=I hy;clear hx hy
 go_enter Tryz.func250,Tryz.ntmps250
 go_wp2_with fail
 refine(EE c w).mono ?_;rintro e w1 ⟨rfl,rfl⟩;rw[HX.o]
 cases x with
 | true =>
  go_wp2
  go_ret;exact⟨aF (by unfold jR;rw[HX.o];rfl),rfl⟩
 | false =>
  go_wp2_with fail
  refine(Zwn c w).mono ?_;rintro e w2 ⟨rfl,rfl⟩;rw[HY.o]
  cases y with
  | true =>
   go_wp2
   go_ret;exact⟨aF (by unfold jR;rw[HX.o,HY.o];rfl),rfl⟩
  | false =>
   go_wp2
   all_goals
    go_ret;exact⟨aF (by unfold jR;rw[HX.o,HY.o,Bool.eq_iff_iff];simp;try omega),rfl⟩
theorem Zxj(l:List Nat)(w:World)(hl:l.length<=1000000)(hb:∀ y∈l,y<256) :
  Calls Tryz.prog 249 #[.string (aB l),Value.func (.func 250) #[] #[]] w fun e w'=>e = .returned (.int .i64 (bL jR l))/\w=w':=by
 have SZ:=I (tH l);have HX:Hid (∀ i:Nat,i<l.length->∀ w,(Instr.index 9 (.string (aB l)) (.int .i64 (i:Int))).run Tryz.prog w = .ok (.int .u8 ((l.getD i 0:Nat):Int)) w):=I (fun i hi w=>St l i hi hb w);clear hb;generalize aB l=t at *
 go_enter Tryz.func249,Tryz.ntmps249
 go_wp2_with fail
 go_loop [5] (fun c=>∃ i:Nat,c = .int .i64 i/\i<=l.length/\Hid (∀ j,j<i->jR (l.getD j 0)=true)) (fun c=>(l.length-intOf c).toNat)
 case atStart=>exact⟨0,rfl,by omega,I (fun j hj=>absurd hj (Nat.not_lt_zero j))⟩
 case round =>
  obtain⟨i,rfl,hi,hz⟩:=hrel;have iK:=SZ.o;have e2:IntKind.i64.wrap ((i:Int)+1)=((i+1:Nat):Int):=IntWalk.i64_in _ (by omega);by_cases aE:i<l.length
  ·have hx:=HX.o i aE
   have ii:(i:Int)<l.length:=by omega
   obtain⟨v,hv⟩:∃ v,l.getD i 0=v:=⟨_,rfl⟩;rw[hv] at hx;have HV:=I hv;clear hv;obtain⟨q,hq⟩:∃ q,jR v=q:=⟨_,rfl⟩;have HQ:=I hq;clear hq
   go_wp2_with fail
   refine(Zxi v _).mono ?_;rintro e w' ⟨rfl,rfl⟩;rw[HQ.o]
   cases q with
   | true =>
    go_wp2
    go_round
    case rel=>exact⟨i+1,rfl,by omega,I (fun j hj=>by
     rcases Nat.lt_or_ge j i with h | h
     ·exact hz.o j h
     ·obtain rfl:j=i:=by omega
      rw[HV.o];exact HQ.o)⟩
    case measure=>simp[intOf];omega
   | false =>
    go_wp2
    go_ret;exact⟨mI (congrArg (fun n:Nat=>(n:Int)) (ky jR l i hi hz.o (fun _=>by rw[HV.o];exact HQ.o))),rfl⟩
  ·obtain rfl:i=l.length:=by omega
   go_wp2
   go_ret;exact⟨mI (congrArg (fun n:Nat=>(n:Int)) (ky jR l _ (Nat.le_refl _) hz.o (fun h=>absurd h (Nat.lt_irrefl _)))),rfl⟩
end
section
open Go.RowKit
theorem Hp(l:List Nat)(h:l.length≠0):(aB l).toList.isEmpty=false:=by
 rw[ByteArray.toList_eq]
 cases l with
 | nil=>exact absurd rfl h
 | cons c l=>rfl
theorem Kz:(aB []).toList.isEmpty=true:=by
 rw[ByteArray.toList_eq];rfl
theorem Z0g(w:World) :
  Calls Tryz.prog 211 #[.string (aB [])] w fun e w'=>e = .returned (.bool (nD []))/\w=w':=by
 have cT:=Kz
 go_enter Tryz.func211,Tryz.ntmps211
 go_wp2
 go_ret;exact⟨rfl,rfl⟩
theorem Zxk(l:List Nat)(h0:0<l.length)(w:World)(hl:l.length<=1000000)(hb:∀ y∈l,y<256) :
  Calls Tryz.prog 211 #[.string (aB l)] w fun e w'=>e = .returned (.bool (nD l))/\w=w':=by
 have SZ:=I (tH l)
 have hx:∀ w,(Instr.index 9 (.string (aB l)) (.int .i64 0)).run Tryz.prog w = .ok (.int .u8 ((l.getD 0 0:Nat):Int)) w:=fun w=>St l 0 h0 hb w
 have HR:=I (fun w=>Zxj l w hl hb);obtain⟨v,hv⟩:∃ v,l.getD 0 0=v:=⟨_,rfl⟩;rw[hv] at hx;have HV:=I hv;obtain⟨q,hq⟩:∃ q,tX v=q:=⟨_,rfl⟩;have HQ:=I hq;have cT:=Hp l (by omega);clear hv hq hb;generalize aB l=t at *
 go_enter Tryz.func211,Tryz.ntmps211
 go_wp2_with fail
 refine(EE v w).mono ?_;rintro e w1 ⟨rfl,rfl⟩;rw[HQ.o]
 cases q with
 | false =>
  go_wp2
  go_ret;exact⟨aF (by unfold nD;rw[HV.o,HQ.o];simp),rfl⟩
 | true =>
  have iK:=SZ.o;by_cases Cd:l.length<=20
  ·have Tw:(l.length:Int)<=20:=by omega
   go_wp2_with fail
   refine(HR.o _).mono ?_;rintro e w1 ⟨rfl,rfl⟩
   go_wp2
   go_ret
   exact⟨aF (by unfold nD;rw[HV.o,HQ.o,decide_eq_true Cd];cases l with
    | nil=>simp at h0
    | cons c l=>rw[Bool.eq_iff_iff];simp;omega),rfl⟩
  ·have Tw:¬ ((l.length:Int)<=20):=by omega
   go_wp2
   go_ret;exact⟨aF (by unfold nD;rw[decide_eq_false Cd];simp),rfl⟩
theorem WA(l:List Nat)(w:World)(hl:l.length<=1000000)(hb:∀ y∈l,y<256) :
  Calls Tryz.prog 211 #[.string (aB l)] w fun e w'=>e = .returned (.bool (nD l))/\w=w':=by
 cases l with
 | nil=>exact Z0g w
 | cons c l=>exact Zxk (c::l) (by simp) w hl hb
end
section
open Go.RowKit
theorem WJ(p:Nat->Bool)(l:List Nat)(h:∀ j,1<=j->j<l.length->p (l.getD j 0)=true):l.tail.all p=true:=by
 rw[List.all_eq_true];intro x hx;obtain⟨i,hi,rfl⟩:=List.getElem_of_mem hx;rw[List.length_tail] at hi;have:=h (i+1) (by omega) (by omega);rw[List.getElem_tail]
 rwa [List.getD,List.getElem?_eq_getElem (by omega)] at this
theorem WI(p:Nat->Bool)(l:List Nat)(j:Nat)(h1:1<=j)(h2:j<l.length)(h:p (l.getD j 0)=false):l.tail.all p=false:=by
 rw[List.all_eq_false];refine⟨l[j],?_,?_⟩
 ·have:l.tail[j-1]'(by rw[List.length_tail];omega)=l[j]:=by rw[List.getElem_tail];congr 1;omega
  rw[<- this];exact List.getElem_mem _
 ·rw[List.getD,List.getElem?_eq_getElem h2] at h
  simpa using h
theorem Zxl(l:List Nat)(w:World)(hl:l.length<=1000000)(hb:∀ y∈l,y<256) :
  Calls Tryz.prog 233 #[.string (aB l)] w fun e w'=>e = .returned (.bool (nD l))/\w=w':=by
 rw[<- PY];have SZ:=I (tH l);have HX:Hid (∀ i:Nat,i<l.length->∀ w,(Instr.index 9 (.string (aB l)) (.int .i64 (i:Int))).run Tryz.prog w = .ok (.int .u8 ((l.getD i 0:Nat):Int)) w):=I (fun i hi w=>St l i hi hb w);clear hb;generalize aB l=t at *;have iK:=SZ.o;by_cases h0:l.length<1
 ·have i0:(l.length:Int)<1:=by omega
  go_enter Tryz.func233,Tryz.ntmps233
  go_wp2
  go_ret;exact⟨aF (by unfold zQ;rw[decide_eq_true h0];rfl),rfl⟩
 ·have i0:¬ ((l.length:Int)<1):=by omega
  by_cases Cd:20<l.length
  ·have Tw:(20:Int)<l.length:=by omega
   go_enter Tryz.func233,Tryz.ntmps233
   go_wp2
   go_ret;exact⟨aF (by unfold zQ;rw[decide_eq_true Cd];simp),rfl⟩
  ·have Tw:¬ ((20:Int)<l.length):=by omega
   have hx:∀ w,(Instr.index 9 (.string t) (.int .i64 0)).run Tryz.prog w = .ok (.int .u8 ((l.getD 0 0:Nat):Int)) w:=fun w=>HX.o 0 (by omega) w
   obtain⟨v,hv⟩:∃ v,l.getD 0 0=v:=⟨_,rfl⟩;rw[hv] at hx;have HV:=I hv;obtain⟨q,hq⟩:∃ q,tX v=q:=⟨_,rfl⟩;have HQ:=I hq;clear hv hq
   go_enter Tryz.func233,Tryz.ntmps233
   go_wp2_with fail
   refine(nr v w).mono ?_;rintro e w1 ⟨rfl,rfl⟩;rw[HQ.o]
   cases q with
   | false =>
    go_wp2
    go_ret;exact⟨aF (by unfold zQ;rw[HV.o,HQ.o];simp),rfl⟩
   | true =>
    clear hx
    go_wp2_with fail
    go_loop [3] (fun c=>∃ i:Nat,c = .int .i64 i/\1<=i/\i<=l.length/\Hid (∀ j,1<=j->j<i->jR (l.getD j 0)=true)) (fun c=>(l.length-intOf c).toNat)
    case atStart=>exact⟨1,rfl,by omega,by omega,I (fun j hj nJ=>absurd hj (by omega))⟩
    case round =>
     obtain⟨i,rfl,h1,hi,hz⟩:=hrel;have e2:IntKind.i64.wrap ((i:Int)+1)=((i+1:Nat):Int):=IntWalk.i64_in _ (by omega);by_cases aE:i<l.length
     ·have hx:=HX.o i aE
      have ii:(i:Int)<l.length:=by omega
      obtain⟨u,hu⟩:∃ v,l.getD i 0=v:=⟨_,rfl⟩;rw[hu] at hx;have HU:=I hu;clear hu
      have Jg:jR u=true->∀ j,1<=j->j<i+1->jR (l.getD j 0)=true:=fun hh j hj nJ=>by
       rcases Nat.lt_or_ge j i with h | h
       ·exact hz.o j hj h
       ·obtain rfl:j=i:=by omega
        rw[HU.o];exact hh
      have Pu:=I Jg;clear Jg;obtain⟨x,sM⟩:∃ x,tX u=x:=⟨_,rfl⟩;obtain⟨y,Xj⟩:∃ x,Ko u=x:=⟨_,rfl⟩;have Ce:=I sM;have Jh:=I Xj;clear sM Xj
      go_wp2_with fail
      refine(nr u _).mono ?_;rintro e w' ⟨rfl,rfl⟩;rw[Ce.o]
      cases x with
      | true =>
       go_wp2
       go_round
       case rel=>exact⟨i+1,rfl,by omega,by omega,I (Pu.o (BK Ce.o))⟩
       case measure=>simp[intOf];omega
      | false =>
       go_wp2_with fail
       refine(WH u _).mono ?_;rintro e w' ⟨rfl,rfl⟩;rw[Jh.o]
       cases y with
       | true =>
        go_wp2
        go_round
        case rel=>exact⟨i+1,rfl,by omega,by omega,I (Pu.o (by unfold jR;rw[Ce.o,Jh.o];rfl))⟩
        case measure=>simp[intOf];omega
       | false =>
        by_cases Xk:u=95
        ·have c1:(u:Int)=95:=by omega
         have c2:((u:Int)==95)=true:=by rw[beq_iff_eq];omega
         go_wp2
         go_round
         case rel=>exact⟨i+1,rfl,by omega,by omega,I (Pu.o (by unfold jR;rw[Ce.o,Jh.o,Xk];rfl))⟩
         case measure=>simp[intOf];omega
        ·have c1:¬ ((u:Int)=95):=by omega
         have c2:((u:Int)==95)=false:=by rw[beq_eq_false_iff_ne];omega
         go_wp2
         go_ret;exact⟨aF (by unfold zQ;rw[WI jR l i h1 aE (by rw[HU.o];unfold jR;rw[Ce.o,Jh.o,show(u==95)=false from beq_eq_false_iff_ne.mpr Xk];rfl)];simp),rfl⟩
     ·obtain rfl:i=l.length:=by omega
      go_wp2
      go_ret;exact⟨aF (by unfold zQ;rw[WJ jR l hz.o,HV.o,HQ.o,decide_eq_false h0,decide_eq_false Cd];rfl),rfl⟩
end
section
open Go.RowKit
theorem YW(l:List Nat)(a b:Nat)(hb:b<=l.length):(aB l).extract a b=aB ((l.take b).drop a):=by
 apply ByteArray.ext;simp[aB,ByteArray.data_extract,List.map_take,List.map_drop,List.drop_take]
theorem VZ(l:List Nat)(a:Nat):(aB l).extract a (aB l).size=aB (l.drop a):=by
 rw[tH,YW l a l.length (Nat.le_refl _),List.take_length]
theorem VY(l:List Nat)(b:Nat)(hb:b<=l.length):(aB l).extract 0 b=aB (l.take b):=by
 rw[YW l 0 b hb];rfl
end
end Go.Proofs.YtbcgocpihobjnaaGreatDoor
