import Derived.Laws.IdiomStrings
import Derived.Test.YtbcgocpihobjnaaGreatDoorCC3
set_option linter.all false
set_option maxHeartbeats 2000000
set_option maxRecDepth 100000
namespace Go.Proofs.YtbcgocpihobjnaaGreatDoor
section
open Go.RowKit
theorem đa.{u}:type_of% @Option.some.inj.{u}:=@Option.some.inj
theorem đb.{u}:type_of% @List.getElem?_eq_getElem.{u}:=@List.getElem?_eq_getElem
theorem đc:type_of% @Go.RowKit.Below.refl:=@Go.RowKit.Below.refl
theorem đd:type_of% @Nat.le_refl:=@Nat.le_refl
theorem đe.{u}:type_of% @List.mem_of_getElem?.{u}:=@List.mem_of_getElem?
theorem đf.{u}:type_of% @List.getD_eq_getElem?_getD.{u}:=@List.getD_eq_getElem?_getD
theorem đg.{u}:type_of% @List.getElem?_eq_some_iff.{u}:=@List.getElem?_eq_some_iff
theorem đh:type_of% @IntWalk.i64_in:=@IntWalk.i64_in
theorem đi:type_of% @Bool.and_eq_true:=@Bool.and_eq_true
theorem đj.{u,v}:type_of% @List.getElem?_map.{u,v}:=@List.getElem?_map
theorem đk:type_of% @Bool.true_and:=@Bool.true_and
theorem đl:type_of% @World.size_alloc:=@World.size_alloc
theorem đm:type_of% @Nat.lt_of_lt_of_le:=@Nat.lt_of_lt_of_le
theorem đn.{u}:type_of% @List.length_append.{u}:=@List.length_append
theorem đo:type_of% @Nat.le_trans:=@Nat.le_trans
theorem đp.{u}:type_of% @Array.getElem?_eq_some_iff.{u}:=@Array.getElem?_eq_some_iff
theorem đq:type_of% @Bool.false_and:=@Bool.false_and
theorem đr.{u,v}:type_of% @List.length_map.{u,v}:=@List.length_map
theorem đs.{u}:type_of% @List.mem_iff_getElem?.{u}:=@List.mem_iff_getElem?
theorem đt.{u}:type_of% @List.mem_append.{u}:=@List.mem_append
theorem đu:type_of% @Nat.not_lt_zero:=@Nat.not_lt_zero
theorem đv.{u}:type_of% @List.take_add_one.{u}:=@List.take_add_one
theorem đw:type_of% @Nat.lt_or_ge:=@Nat.lt_or_ge
theorem đx:type_of% @World.cell?_of_block:=@World.cell?_of_block
theorem ħ{p:Prop}(h:p):Hid p:=h
theorem _root_.Go.RowKit.Hid.o{p:Prop}(h:Hid p):p:=h
theorem Zbb{k:IntKind}{a b:Int}(h:a=b):Ending.returned (.int k a) = .returned (.int k b):=by rw[h]
def Zad(l:List Nat):ByteArray:=⟨(l.map UInt8.ofNat).toArray⟩
theorem Zbc(l:List Nat):(Zad l).size=l.length:=by
 unfold Zad;show(l.map UInt8.ofNat).toArray.size=_;simp
theorem Zj2(l:List Nat)(i:Nat)(hi:i<l.length)(hb:∀ y∈l,y<256)(w:World) :
  (Instr.index 9 (.string (Zad l)) (.int .i64 (i:Int))).run Tryz.prog w = .ok (.int .u8 ((l.getD i 0:Nat):Int)) w:=by
 rw[run_index_string w 9 (Zad l) .i64 i Tryz.underlying9,dif_pos ⟨by omega,by rw[Zbc];omega⟩];have hm:=hb l[i] (List.getElem_mem hi);simp[Zad,List.getD,hi,ByteArray.getElem_eq_getElem_data,Nat.mod_eq_of_lt hm]
theorem Zxb(c:Nat)(w:World) :
  Calls Tryz.prog 250 #[.int .u8 (c:Int)] w fun e w'=>e = .returned (.bool (Zf4 c))/\w=w':=by
 obtain⟨x,hx⟩:∃ x,Znn c=x:=⟨_,rfl⟩;obtain⟨y,hy⟩:∃ x,Zy1 c=x:=⟨_,rfl⟩;have HX:=ħ hx;have HY:=ħ hy;clear hx hy
 go_enter Tryz.func250,Tryz.ntmps250
 go_wp2_with fail
 refine(Zht c w).mono ?_;rintro e w1 ⟨rfl,rfl⟩;rw[HX.o]
 cases x with
 | true =>
  go_wp2
  go_ret;exact⟨Zac (by unfold Zf4;rw[HX.o];rfl),rfl⟩
 | false =>
  go_wp2_with fail
  refine(Zwh c w).mono ?_;rintro e w2 ⟨rfl,rfl⟩;rw[HY.o]
  cases y with
  | true =>
   go_wp2
   go_ret;exact⟨Zac (by unfold Zf4;rw[HX.o,HY.o];rfl),rfl⟩
  | false =>
   go_wp2
   all_goals
    go_ret;exact⟨Zac (by unfold Zf4;rw[HX.o,HY.o,Bool.eq_iff_iff];simp;try omega),rfl⟩
theorem Zxc(l:List Nat)(w:World)(hl:l.length<=1000000)(hb:∀ y∈l,y<256) :
  Calls Tryz.prog 249 #[.string (Zad l),Value.func (.func 250) #[] #[]] w fun e w'=>e = .returned (.int .i64 (Zbh Zf4 l))/\w=w':=by
 have SZ:=ħ (Zbc l);have HX:Hid (∀ i:Nat,i<l.length->∀ w,(Instr.index 9 (.string (Zad l)) (.int .i64 (i:Int))).run Tryz.prog w = .ok (.int .u8 ((l.getD i 0:Nat):Int)) w):=ħ (fun i hi w=>Zj2 l i hi hb w);clear hb;generalize Zad l=t at *
 go_enter Tryz.func249,Tryz.ntmps249
 go_wp2_with fail
 go_loop [5] (fun c=>∃ i:Nat,c = .int .i64 i/\i<=l.length/\Hid (∀ j,j<i->Zf4 (l.getD j 0)=true)) (fun c=>(l.length-intOf c).toNat)
 case atStart=>exact⟨0,rfl,by omega,ħ (fun j hj=>absurd hj (Nat.not_lt_zero j))⟩
 case round =>
  obtain⟨i,rfl,hi,hz⟩:=hrel;have hsz:=SZ.o;have e2:IntKind.i64.wrap ((i:Int)+1)=((i+1:Nat):Int):=IntWalk.i64_in _ (by omega);by_cases hlt:i<l.length
  ·have hx:=HX.o i hlt
   have ii:(i:Int)<l.length:=by omega
   obtain⟨v,hv⟩:∃ v,l.getD i 0=v:=⟨_,rfl⟩;rw[hv] at hx;have HV:=ħ hv;clear hv;obtain⟨q,hq⟩:∃ q,Zf4 v=q:=⟨_,rfl⟩;have HQ:=ħ hq;clear hq
   go_wp2_with fail
   refine(Zxb v _).mono ?_;rintro e w' ⟨rfl,rfl⟩;rw[HQ.o]
   cases q with
   | true =>
    go_wp2
    go_round
    case rel=>exact⟨i+1,rfl,by omega,ħ (fun j hj=>by
     rcases Nat.lt_or_ge j i with h | h
     ·exact hz.o j h
     ·obtain rfl:j=i:=by omega
      rw[HV.o];exact HQ.o)⟩
    case measure=>simp[intOf];omega
   | false =>
    go_wp2
    go_ret;exact⟨Zbb (congrArg (fun n:Nat=>(n:Int)) (Zmj Zf4 l i hi hz.o (fun _=>by rw[HV.o];exact HQ.o))),rfl⟩
  ·obtain rfl:i=l.length:=by omega
   go_wp2
   go_ret;exact⟨Zbb (congrArg (fun n:Nat=>(n:Int)) (Zmj Zf4 l _ (Nat.le_refl _) hz.o (fun h=>absurd h (Nat.lt_irrefl _)))),rfl⟩
end
section
open Go.RowKit
theorem Zdf(l:List Nat)(h:l.length≠0):(Zad l).toList.isEmpty=false:=by
 rw[ByteArray.toList_eq]
 cases l with
 | nil=>exact absurd rfl h
 | cons c l=>rfl
theorem Zc3:(Zad []).toList.isEmpty=true:=by
 rw[ByteArray.toList_eq];rfl
theorem Z0j(w:World) :
  Calls Tryz.prog 211 #[.string (Zad [])] w fun e w'=>e = .returned (.bool (Zdo []))/\w=w':=by
 have hne:=Zc3
 go_enter Tryz.func211,Tryz.ntmps211
 go_wp2
 go_ret;exact⟨rfl,rfl⟩
theorem Zxd(l:List Nat)(h0:0<l.length)(w:World)(hl:l.length<=1000000)(hb:∀ y∈l,y<256) :
  Calls Tryz.prog 211 #[.string (Zad l)] w fun e w'=>e = .returned (.bool (Zdo l))/\w=w':=by
 have SZ:=ħ (Zbc l)
 have hx:∀ w,(Instr.index 9 (.string (Zad l)) (.int .i64 0)).run Tryz.prog w = .ok (.int .u8 ((l.getD 0 0:Nat):Int)) w:=fun w=>Zj2 l 0 h0 hb w
 have HR:=ħ (fun w=>Zxc l w hl hb);obtain⟨v,hv⟩:∃ v,l.getD 0 0=v:=⟨_,rfl⟩;rw[hv] at hx;have HV:=ħ hv;obtain⟨q,hq⟩:∃ q,Znn v=q:=⟨_,rfl⟩;have HQ:=ħ hq;have hne:=Zdf l (by omega);clear hv hq hb;generalize Zad l=t at *
 go_enter Tryz.func211,Tryz.ntmps211
 go_wp2_with fail
 refine(Zht v w).mono ?_;rintro e w1 ⟨rfl,rfl⟩;rw[HQ.o]
 cases q with
 | false =>
  go_wp2
  go_ret;exact⟨Zac (by unfold Zdo;rw[HV.o,HQ.o];simp),rfl⟩
 | true =>
  have hsz:=SZ.o;by_cases h20:l.length<=20
  ·have i20:(l.length:Int)<=20:=by omega
   go_wp2_with fail
   refine(HR.o _).mono ?_;rintro e w1 ⟨rfl,rfl⟩
   go_wp2
   go_ret
   exact⟨Zac (by unfold Zdo;rw[HV.o,HQ.o,decide_eq_true h20];cases l with
    | nil=>simp at h0
    | cons c l=>rw[Bool.eq_iff_iff];simp;omega),rfl⟩
  ·have i20:¬ ((l.length:Int)<=20):=by omega
   go_wp2
   go_ret;exact⟨Zac (by unfold Zdo;rw[decide_eq_false h20];simp),rfl⟩
theorem Zsc(l:List Nat)(w:World)(hl:l.length<=1000000)(hb:∀ y∈l,y<256) :
  Calls Tryz.prog 211 #[.string (Zad l)] w fun e w'=>e = .returned (.bool (Zdo l))/\w=w':=by
 cases l with
 | nil=>exact Z0j w
 | cons c l=>exact Zxd (c::l) (by simp) w hl hb
end
section
open Go.RowKit
theorem Zsd(p:Nat->Bool)(l:List Nat)(h:∀ j,1<=j->j<l.length->p (l.getD j 0)=true):l.tail.all p=true:=by
 rw[List.all_eq_true];intro x hx;obtain⟨i,hi,rfl⟩:=List.getElem_of_mem hx;rw[List.length_tail] at hi;have:=h (i+1) (by omega) (by omega);rw[List.getElem_tail]
 rwa [List.getD,List.getElem?_eq_getElem (by omega)] at this
theorem Zse(p:Nat->Bool)(l:List Nat)(j:Nat)(h1:1<=j)(h2:j<l.length)(h:p (l.getD j 0)=false):l.tail.all p=false:=by
 rw[List.all_eq_false];refine⟨l[j],?_,?_⟩
 ·have:l.tail[j-1]'(by rw[List.length_tail];omega)=l[j]:=by rw[List.getElem_tail];congr 1;omega
  rw[<- this];exact List.getElem_mem _
 ·rw[List.getD,List.getElem?_eq_getElem h2] at h
  simpa using h
theorem Zxe(l:List Nat)(w:World)(hl:l.length<=1000000)(hb:∀ y∈l,y<256) :
  Calls Tryz.prog 233 #[.string (Zad l)] w fun e w'=>e = .returned (.bool (Zdo l))/\w=w':=by
 rw[<- Zq1];have SZ:=ħ (Zbc l);have HX:Hid (∀ i:Nat,i<l.length->∀ w,(Instr.index 9 (.string (Zad l)) (.int .i64 (i:Int))).run Tryz.prog w = .ok (.int .u8 ((l.getD i 0:Nat):Int)) w):=ħ (fun i hi w=>Zj2 l i hi hb w);clear hb;generalize Zad l=t at *;have hsz:=SZ.o;by_cases h0:l.length<1
 ·have i0:(l.length:Int)<1:=by omega
  go_enter Tryz.func233,Tryz.ntmps233
  go_wp2
  go_ret;exact⟨Zac (by unfold Zih;rw[decide_eq_true h0];rfl),rfl⟩
 ·have i0:¬ ((l.length:Int)<1):=by omega
  by_cases h20:20<l.length
  ·have i20:(20:Int)<l.length:=by omega
   go_enter Tryz.func233,Tryz.ntmps233
   go_wp2
   go_ret;exact⟨Zac (by unfold Zih;rw[decide_eq_true h20];simp),rfl⟩
  ·have i20:¬ ((20:Int)<l.length):=by omega
   have hx:∀ w,(Instr.index 9 (.string t) (.int .i64 0)).run Tryz.prog w = .ok (.int .u8 ((l.getD 0 0:Nat):Int)) w:=fun w=>HX.o 0 (by omega) w
   obtain⟨v,hv⟩:∃ v,l.getD 0 0=v:=⟨_,rfl⟩;rw[hv] at hx;have HV:=ħ hv;obtain⟨q,hq⟩:∃ q,Znn v=q:=⟨_,rfl⟩;have HQ:=ħ hq;clear hv hq
   go_enter Tryz.func233,Tryz.ntmps233
   go_wp2_with fail
   refine(Ze9 v w).mono ?_;rintro e w1 ⟨rfl,rfl⟩;rw[HQ.o]
   cases q with
   | false =>
    go_wp2
    go_ret;exact⟨Zac (by unfold Zih;rw[HV.o,HQ.o];simp),rfl⟩
   | true =>
    clear hx
    go_wp2_with fail
    go_loop [3] (fun c=>∃ i:Nat,c = .int .i64 i/\1<=i/\i<=l.length/\Hid (∀ j,1<=j->j<i->Zf4 (l.getD j 0)=true)) (fun c=>(l.length-intOf c).toNat)
    case atStart=>exact⟨1,rfl,by omega,by omega,ħ (fun j hj hj2=>absurd hj (by omega))⟩
    case round =>
     obtain⟨i,rfl,h1,hi,hz⟩:=hrel;have e2:IntKind.i64.wrap ((i:Int)+1)=((i+1:Nat):Int):=IntWalk.i64_in _ (by omega);by_cases hlt:i<l.length
     ·have hx:=HX.o i hlt
      have ii:(i:Int)<l.length:=by omega
      obtain⟨u,hu⟩:∃ v,l.getD i 0=v:=⟨_,rfl⟩;rw[hu] at hx;have HU:=ħ hu;clear hu
      have hgo:Zf4 u=true->∀ j,1<=j->j<i+1->Zf4 (l.getD j 0)=true:=fun hh j hj hj2=>by
       rcases Nat.lt_or_ge j i with h | h
       ·exact hz.o j hj h
       ·obtain rfl:j=i:=by omega
        rw[HU.o];exact hh
      have HGO:=ħ hgo;clear hgo;obtain⟨x,hx1⟩:∃ x,Znn u=x:=⟨_,rfl⟩;obtain⟨y,hy1⟩:∃ x,Zy1 u=x:=⟨_,rfl⟩;have HX1:=ħ hx1;have HY1:=ħ hy1;clear hx1 hy1
      go_wp2_with fail
      refine(Ze9 u _).mono ?_;rintro e w' ⟨rfl,rfl⟩;rw[HX1.o]
      cases x with
      | true =>
       go_wp2
       go_round
       case rel=>exact⟨i+1,rfl,by omega,by omega,ħ (HGO.o (Zga HX1.o))⟩
       case measure=>simp[intOf];omega
      | false =>
       go_wp2_with fail
       refine(Zl2 u _).mono ?_;rintro e w' ⟨rfl,rfl⟩;rw[HY1.o]
       cases y with
       | true =>
        go_wp2
        go_round
        case rel=>exact⟨i+1,rfl,by omega,by omega,ħ (HGO.o (by unfold Zf4;rw[HX1.o,HY1.o];rfl))⟩
        case measure=>simp[intOf];omega
       | false =>
        by_cases h95:u=95
        ·have c1:(u:Int)=95:=by omega
         have c2:((u:Int)==95)=true:=by rw[beq_iff_eq];omega
         go_wp2
         go_round
         case rel=>exact⟨i+1,rfl,by omega,by omega,ħ (HGO.o (by unfold Zf4;rw[HX1.o,HY1.o,h95];rfl))⟩
         case measure=>simp[intOf];omega
        ·have c1:¬ ((u:Int)=95):=by omega
         have c2:((u:Int)==95)=false:=by rw[beq_eq_false_iff_ne];omega
         go_wp2
         go_ret;exact⟨Zac (by unfold Zih;rw[Zse Zf4 l i h1 hlt (by rw[HU.o];unfold Zf4;rw[HX1.o,HY1.o,show(u==95)=false from beq_eq_false_iff_ne.mpr h95];rfl)];simp),rfl⟩
     ·obtain rfl:i=l.length:=by omega
      go_wp2
      go_ret;exact⟨Zac (by unfold Zih;rw[Zsd Zf4 l hz.o,HV.o,HQ.o,decide_eq_false h0,decide_eq_false h20];rfl),rfl⟩
end
section
open Go.RowKit
theorem Zie(l:List Nat)(a b:Nat)(hb:b<=l.length):(Zad l).extract a b=Zad ((l.take b).drop a):=by
 apply ByteArray.ext;simp[Zad,ByteArray.data_extract,List.map_take,List.map_drop,List.drop_take]
theorem Zo8(l:List Nat)(a:Nat):(Zad l).extract a (Zad l).size=Zad (l.drop a):=by
 rw[Zbc,Zie l a l.length (Nat.le_refl _),List.take_length]
theorem Zo9(l:List Nat)(b:Nat)(hb:b<=l.length):(Zad l).extract 0 b=Zad (l.take b):=by
 rw[Zie l 0 b hb];rfl
end
end Go.Proofs.YtbcgocpihobjnaaGreatDoor
