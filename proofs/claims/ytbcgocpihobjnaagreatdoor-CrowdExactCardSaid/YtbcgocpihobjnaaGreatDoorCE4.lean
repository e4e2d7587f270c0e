import Derived.Laws.IdiomStrings
import Derived.Test.YtbcgocpihobjnaaGreatDoorCE3
set_option linter.all false
set_option maxHeartbeats 2000000
set_option maxRecDepth 100000
namespace Go.Proofs.YtbcgocpihobjnaaGreatDoor
section
open Go.RowKit
theorem ħ {p:Prop} (h:p):Hid p:=h
theorem _root_.Go.RowKit.Hid.o{p:Prop}(h:Hid p):p:=h
theorem Za5 {k:IntKind} {a b:Int} (h:a=b):Ending.returned (.int k a) = .returned (.int k b):=by rw[h]
def Zag (l:List Nat):ByteArray:=⟨(l.map UInt8.ofNat).toArray⟩
theorem Zby (l:List Nat):(Zag l).size=l.length:=by
 unfold Zag;show (l.map UInt8.ofNat).toArray.size=_;simp
theorem Zvr (l:List Nat) (i:Nat) (hi:i<l.length) (hb:∀ y∈l,y<256) (w:World) :
  (Instr.index 9 (.string (Zag l)) (.int .i64 (i:Int))).run Tryz.prog w = .ok (.int .u8 ((l.getD i 0:Nat):Int)) w:=by
 rw[run_index_string w 9 (Zag l) .i64 i Tryz.underlying9,dif_pos ⟨by omega,by rw[Zby];omega⟩];have hm:=hb l[i] (List.getElem_mem hi);simp[Zag,List.getD,hi,ByteArray.getElem_eq_getElem_data,Nat.mod_eq_of_lt hm]
theorem Zvs (c:Nat) (w:World) :
  Calls Tryz.prog 250 #[.int .u8 (c:Int)] w fun e w'=>e = .returned (.bool (Zrq c))∧w=w':=by
 obtain⟨x,hx⟩:∃ x,Zz2 c=x:=⟨_,rfl⟩;obtain⟨y,hy⟩:∃ x,Z13 c=x:=⟨_,rfl⟩;have HX:=ħ hx;have HY:=ħ hy;clear hx hy
 go_enter Tryz.func250,Tryz.ntmps250
 go_wp2_with fail
 refine (Zg4 c w).mono ?_;rintro e w1 ⟨rfl,rfl⟩;rw[HX.o]
 cases x with
 | true =>
  go_wp2
  go_ret;exact⟨Zac (by unfold Zrq;rw[HX.o];rfl),rfl⟩
 | false =>
  go_wp2_with fail
  refine (Zu0 c w).mono ?_;rintro e w2 ⟨rfl,rfl⟩;rw[HY.o]
  cases y with
  | true =>
   go_wp2
   go_ret;exact⟨Zac (by unfold Zrq;rw[HX.o,HY.o];rfl),rfl⟩
  | false =>
   go_wp2
   all_goals
    go_ret;exact⟨Zac (by unfold Zrq;rw[HX.o,HY.o,Bool.eq_iff_iff];simp;try omega),rfl⟩
theorem Zvt (l:List Nat) (w:World) (hl:l.length≤1000000) (hb:∀ y∈l,y<256) :
  Calls Tryz.prog 249 #[.string (Zag l),Value.func (.func 250) #[] #[]] w fun e w'=>e = .returned (.int .i64 (Zbh Zrq l))∧w=w':=by
 have SZ:=ħ (Zby l);have HX:Hid (∀ i:Nat,i<l.length→∀ w,(Instr.index 9 (.string (Zag l)) (.int .i64 (i:Int))).run Tryz.prog w = .ok (.int .u8 ((l.getD i 0:Nat):Int)) w):=ħ (fun i hi w=>Zvr l i hi hb w);clear hb;generalize Zag l=t at *
 go_enter Tryz.func249,Tryz.ntmps249
 go_wp2_with fail
 go_loop [5] (fun c=>∃ i:Nat,c = .int .i64 i∧i≤l.length∧Hid (∀ j,j<i→Zrq (l.getD j 0)=true)) (fun c=>(l.length-intOf c).toNat)
 case atStart=>exact⟨0,rfl,by omega,ħ (fun j hj=>absurd hj (Nat.not_lt_zero j))⟩
 case round =>
  obtain⟨i,rfl,hi,hz⟩:=hrel;have hsz:=SZ.o;have e2:IntKind.i64.wrap ((i:Int)+1)=((i+1:Nat):Int):=IntWalk.i64_in _ (by omega);by_cases hlt:i<l.length
  ·have hx:=HX.o i hlt
   have ii:(i:Int)<l.length:=by omega
   obtain⟨v,hv⟩:∃ v,l.getD i 0=v:=⟨_,rfl⟩;rw[hv] at hx;have HV:=ħ hv;clear hv;obtain⟨q,hq⟩:∃ q,Zrq v=q:=⟨_,rfl⟩;have HQ:=ħ hq;clear hq
   go_wp2_with fail
   refine (Zvs v _).mono ?_;rintro e w' ⟨rfl,rfl⟩;rw[HQ.o]
   cases q with
   | true =>
    go_wp2
    go_round
    case rel=>exact⟨i+1,rfl,by omega,ħ (fun j hj=>by
     rcases Nat.lt_or_ge j i with h | h
     ·exact hz.o j h
     ·obtain rfl:j=i:=by omega
      rw[HV.o];exact HQ.o)⟩
    case measure=>simp[intOf];omega
   | false =>
    go_wp2
    go_ret;exact⟨Za5 (congrArg (fun n:Nat=>(n:Int)) (Ztf Zrq l i hi hz.o (fun _=>by rw[HV.o];exact HQ.o))),rfl⟩
  ·obtain rfl:i=l.length:=by omega
   go_wp2
   go_ret;exact⟨Za5 (congrArg (fun n:Nat=>(n:Int)) (Ztf Zrq l _ (Nat.le_refl _) hz.o (fun h=>absurd h (Nat.lt_irrefl _)))),rfl⟩
end
section
open Go.RowKit
theorem Zgh (l:List Nat) (h:l.length≠0):(Zag l).toList.isEmpty=false:=by
 rw[ByteArray.toList_eq]
 cases l with
 | nil=>exact absurd rfl h
 | cons c l=>rfl
theorem Zgi:(Zag []).toList.isEmpty=true:=by
 rw[ByteArray.toList_eq];rfl
theorem Zy5 (w:World) :
  Calls Tryz.prog 211 #[.string (Zag [])] w fun e w'=>e = .returned (.bool (Zev []))∧w=w':=by
 have hne:=Zgi
 go_enter Tryz.func211,Tryz.ntmps211
 go_wp2
 go_ret;exact⟨rfl,rfl⟩
theorem Zvu (l:List Nat) (h0:0<l.length) (w:World) (hl:l.length≤1000000) (hb:∀ y∈l,y<256) :
  Calls Tryz.prog 211 #[.string (Zag l)] w fun e w'=>e = .returned (.bool (Zev l))∧w=w':=by
 have SZ:=ħ (Zby l)
 have hx:∀ w,(Instr.index 9 (.string (Zag l)) (.int .i64 0)).run Tryz.prog w = .ok (.int .u8 ((l.getD 0 0:Nat):Int)) w:=fun w=>Zvr l 0 h0 hb w
 have HR:=ħ (fun w=>Zvt l w hl hb);obtain⟨v,hv⟩:∃ v,l.getD 0 0=v:=⟨_,rfl⟩;rw[hv] at hx;have HV:=ħ hv;obtain⟨q,hq⟩:∃ q,Zz2 v=q:=⟨_,rfl⟩;have HQ:=ħ hq;have hne:=Zgh l (by omega);clear hv hq hb;generalize Zag l=t at *
 go_enter Tryz.func211,Tryz.ntmps211
 go_wp2_with fail
 refine (Zg4 v w).mono ?_;rintro e w1 ⟨rfl,rfl⟩;rw[HQ.o]
 cases q with
 | false =>
  go_wp2
  go_ret;exact⟨Zac (by unfold Zev;rw[HV.o,HQ.o];simp),rfl⟩
 | true =>
  have hsz:=SZ.o;by_cases h20:l.length≤20
  ·have i20:(l.length:Int)≤20:=by omega
   go_wp2_with fail
   refine (HR.o _).mono ?_;rintro e w1 ⟨rfl,rfl⟩
   go_wp2
   go_ret
   exact⟨Zac (by unfold Zev;rw[HV.o,HQ.o,decide_eq_true h20];cases l with
    | nil=>simp at h0
    | cons c l=>rw[Bool.eq_iff_iff];simp;omega),rfl⟩
  ·have i20:¬ ((l.length:Int)≤20):=by omega
   go_wp2
   go_ret;exact⟨Zac (by unfold Zev;rw[decide_eq_false h20];simp),rfl⟩
theorem Zra (l:List Nat) (w:World) (hl:l.length≤1000000) (hb:∀ y∈l,y<256) :
  Calls Tryz.prog 211 #[.string (Zag l)] w fun e w'=>e = .returned (.bool (Zev l))∧w=w':=by
 cases l with
 | nil=>exact Zy5 w
 | cons c l=>exact Zvu (c::l) (by simp) w hl hb
end
section
open Go.RowKit
theorem Zhm (l:List Nat) (a b:Nat) (hb:b≤l.length):(Zag l).extract a b=Zag ((l.take b).drop a):=by
 apply ByteArray.ext;simp[Zag,ByteArray.data_extract,List.map_take,List.map_drop,List.drop_take]
theorem Zvv (l:List Nat) (a:Nat):(Zag l).extract a (Zag l).size=Zag (l.drop a):=by
 rw[Zby,Zhm l a l.length (Nat.le_refl _),List.take_length]
theorem Zvw (l:List Nat) (b:Nat) (hb:b≤l.length):(Zag l).extract 0 b=Zag (l.take b):=by
 rw[Zhm l 0 b hb];rfl
end
end Go.Proofs.YtbcgocpihobjnaaGreatDoor
