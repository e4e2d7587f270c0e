import Derived.Laws.IdiomStrings
import Derived.Test.YtmkdfbelbcocpaaGreatDoorCD1
set_option linter.unusedVariables false
set_option linter.unusedSimpArgs false
set_option maxHeartbeats 2000000
set_option maxRecDepth 100000
namespace Go.Proofs.YtmkdfbelbcocpaaGreatDoor
section
open Go.RowKit
theorem ħ {p:Prop} (h:p):Hid p:=h
theorem _root_.Go.RowKit.Hid.o{p:Prop}(h:Hid p):p:=h
theorem Za2 {k:IntKind} {a b:Int} (h:a=b):Ending.returned (.int k a) = .returned (.int k b):=by rw[h]
def Zad (l:List Nat):ByteArray:=⟨(l.map UInt8.ofNat).toArray⟩
theorem Zaq (l:List Nat):(Zad l).size=l.length:=by
 unfold Zad
 show (l.map UInt8.ofNat).toArray.size=_
 simp
theorem Zf1 (l:List Nat) (i:Nat) (hi:i<l.length) (hb:∀ y∈l,y<256) (w:World) :
  (Instr.index 9 (.string (Zad l)) (.int .i64 (i:Int))).run Tryz.prog w = .ok (.int .u8 ((l.getD i 0:Nat):Int)) w:=by
 rw[run_index_string w 9 (Zad l) .i64 i Tryz.underlying9,dif_pos ⟨by omega,by rw[Zaq];omega⟩]
 have hm:=hb l[i] (List.getElem_mem hi)
 simp[Zad,List.getD,hi,ByteArray.getElem_eq_getElem_data,Nat.mod_eq_of_lt hm]
theorem Zyd (c:Nat) (w:World) :
  Calls Tryz.prog 198 #[.int .u8 (c:Int)] w fun e w'=>e = .returned (.bool (Zia c))∧w=w':=by
 obtain⟨x,hx⟩:∃ x,Zoq c=x:=⟨_,rfl⟩
 obtain⟨y,hy⟩:∃ x,Zd7 c=x:=⟨_,rfl⟩
 have HX:=ħ hx
 have HY:=ħ hy
 clear hx hy
 go_enter Tryz.func198,Tryz.ntmps198
 go_wp2_with fail
 refine (Zdz c w).mono ?_
 rintro e w1 ⟨rfl,rfl⟩
 rw[HX.o]
 cases x with
 | true =>
  go_wp2
  go_ret
  exact⟨Zag (by unfold Zia;rw[HX.o];rfl),rfl⟩
 | false =>
  go_wp2_with fail
  refine (Zgx c w).mono ?_
  rintro e w2 ⟨rfl,rfl⟩
  rw[HY.o]
  cases y with
  | true =>
   go_wp2
   go_ret
   exact⟨Zag (by unfold Zia;rw[HX.o,HY.o];rfl),rfl⟩
  | false =>
   go_wp2
   all_goals
    go_ret
    exact⟨Zag (by unfold Zia;rw[HX.o,HY.o,Bool.eq_iff_iff];simp;try omega),rfl⟩
theorem Zqm (l:List Nat) (w:World) (hl:l.length≤1000000) (hb:∀ y∈l,y<256) :
  Calls Tryz.prog 195 #[.string (Zad l),Value.func (.func 198) #[] #[]] w fun e w'=>e = .returned (.int .i64 (Zax Zia l))∧w=w':=by
 have SZ:=ħ (Zaq l)
 have HX:Hid (∀ i:Nat,i<l.length→∀ w,(Instr.index 9 (.string (Zad l)) (.int .i64 (i:Int))).run Tryz.prog w = .ok (.int .u8 ((l.getD i 0:Nat):Int)) w):=ħ (fun i hi w=>Zf1 l i hi hb w)
 clear hb
 generalize Zad l=t at *
 go_enter Tryz.func195,Tryz.ntmps195
 go_wp2_with fail
 go_loop [5] (fun c=>∃ i:Nat,c = .int .i64 i∧i≤l.length∧Hid (∀ j,j<i→Zia (l.getD j 0)=true)) (fun c=>(l.length-intOf c).toNat)
 case atStart=>exact⟨0,rfl,by omega,ħ (fun j hj=>absurd hj (Nat.not_lt_zero j))⟩
 case round =>
  obtain⟨i,rfl,hi,hz⟩:=hrel
  have hsz:=SZ.o
  have e2:IntKind.i64.wrap ((i:Int)+1)=((i+1:Nat):Int):=IntWalk.i64_in _ (by omega)
  by_cases hlt:i<l.length
  ·have hx:=HX.o i hlt
   have ii:(i:Int)<l.length:=by omega
   obtain⟨v,hv⟩:∃ v,l.getD i 0=v:=⟨_,rfl⟩
   rw[hv] at hx
   have HV:=ħ hv
   clear hv
   obtain⟨q,hq⟩:∃ q,Zia v=q:=⟨_,rfl⟩
   have HQ:=ħ hq
   clear hq
   go_wp2_with fail
   refine (Zyd v _).mono ?_
   rintro e w' ⟨rfl,rfl⟩
   rw[HQ.o]
   cases q with
   | true =>
    go_wp2
    go_round
    case rel=>exact⟨i+1,rfl,by omega,ħ (fun j hj=>by
     rcases Nat.lt_or_ge j i with h | h
     ·exact hz.o j h
     ·obtain rfl:j=i:=by omega
      rw[HV.o];exact HQ.o)⟩
    case measure=>simp[intOf];omega
   | false =>
    go_wp2
    go_ret
    exact⟨Za2 (congrArg (fun n:Nat=>(n:Int)) (Zjj Zia l i hi hz.o (fun _=>by rw[HV.o];exact HQ.o))),rfl⟩
  ·obtain rfl:i=l.length:=by omega
   go_wp2
   go_ret
   exact⟨Za2 (congrArg (fun n:Nat=>(n:Int)) (Zjj Zia l _ (Nat.le_refl _) hz.o (fun h=>absurd h (Nat.lt_irrefl _)))),rfl⟩
theorem Zqn (l:List Nat) (w:World) (hl:l.length≤1000000) (hb:∀ y∈l,y<256) :
  Calls Tryz.prog 195 #[.string (Zad l),Value.func (.func 199) #[] #[]] w fun e w'=>e = .returned (.int .i64 (Zax Zd7 l))∧w=w':=by
 have SZ:=ħ (Zaq l)
 have HX:Hid (∀ i:Nat,i<l.length→∀ w,(Instr.index 9 (.string (Zad l)) (.int .i64 (i:Int))).run Tryz.prog w = .ok (.int .u8 ((l.getD i 0:Nat):Int)) w):=ħ (fun i hi w=>Zf1 l i hi hb w)
 clear hb
 generalize Zad l=t at *
 go_enter Tryz.func195,Tryz.ntmps195
 go_wp2_with fail
 go_loop [5] (fun c=>∃ i:Nat,c = .int .i64 i∧i≤l.length∧Hid (∀ j,j<i→Zd7 (l.getD j 0)=true)) (fun c=>(l.length-intOf c).toNat)
 case atStart=>exact⟨0,rfl,by omega,ħ (fun j hj=>absurd hj (Nat.not_lt_zero j))⟩
 case round =>
  obtain⟨i,rfl,hi,hz⟩:=hrel
  have hsz:=SZ.o
  have e2:IntKind.i64.wrap ((i:Int)+1)=((i+1:Nat):Int):=IntWalk.i64_in _ (by omega)
  by_cases hlt:i<l.length
  ·have hx:=HX.o i hlt
   have ii:(i:Int)<l.length:=by omega
   obtain⟨v,hv⟩:∃ v,l.getD i 0=v:=⟨_,rfl⟩
   rw[hv] at hx
   have HV:=ħ hv
   clear hv
   obtain⟨q,hq⟩:∃ q,Zd7 v=q:=⟨_,rfl⟩
   have HQ:=ħ hq
   clear hq
   go_wp2_with fail
   refine (Zgx v _).mono ?_
   rintro e w' ⟨rfl,rfl⟩
   rw[HQ.o]
   cases q with
   | true =>
    go_wp2
    go_round
    case rel=>exact⟨i+1,rfl,by omega,ħ (fun j hj=>by
     rcases Nat.lt_or_ge j i with h | h
     ·exact hz.o j h
     ·obtain rfl:j=i:=by omega
      rw[HV.o];exact HQ.o)⟩
    case measure=>simp[intOf];omega
   | false =>
    go_wp2
    go_ret
    exact⟨Za2 (congrArg (fun n:Nat=>(n:Int)) (Zjj Zd7 l i hi hz.o (fun _=>by rw[HV.o];exact HQ.o))),rfl⟩
  ·obtain rfl:i=l.length:=by omega
   go_wp2
   go_ret
   exact⟨Za2 (congrArg (fun n:Nat=>(n:Int)) (Zjj Zd7 l _ (Nat.le_refl _) hz.o (fun h=>absurd h (Nat.lt_irrefl _)))),rfl⟩
theorem Zqo (l:List Nat) (w:World) (hl:l.length≤1000000) (hb:∀ y∈l,y<256) :
  Calls Tryz.prog 195 #[.string (Zad l),Value.func (.func 196) #[] #[]] w fun e w'=>e = .returned (.int .i64 (Zax Zjg l))∧w=w':=by
 have SZ:=ħ (Zaq l)
 have HX:Hid (∀ i:Nat,i<l.length→∀ w,(Instr.index 9 (.string (Zad l)) (.int .i64 (i:Int))).run Tryz.prog w = .ok (.int .u8 ((l.getD i 0:Nat):Int)) w):=ħ (fun i hi w=>Zf1 l i hi hb w)
 clear hb
 generalize Zad l=t at *
 go_enter Tryz.func195,Tryz.ntmps195
 go_wp2_with fail
 go_loop [5] (fun c=>∃ i:Nat,c = .int .i64 i∧i≤l.length∧Hid (∀ j,j<i→Zjg (l.getD j 0)=true)) (fun c=>(l.length-intOf c).toNat)
 case atStart=>exact⟨0,rfl,by omega,ħ (fun j hj=>absurd hj (Nat.not_lt_zero j))⟩
 case round =>
  obtain⟨i,rfl,hi,hz⟩:=hrel
  have hsz:=SZ.o
  have e2:IntKind.i64.wrap ((i:Int)+1)=((i+1:Nat):Int):=IntWalk.i64_in _ (by omega)
  by_cases hlt:i<l.length
  ·have hx:=HX.o i hlt
   have ii:(i:Int)<l.length:=by omega
   obtain⟨v,hv⟩:∃ v,l.getD i 0=v:=⟨_,rfl⟩
   rw[hv] at hx
   have HV:=ħ hv
   clear hv
   obtain⟨q,hq⟩:∃ q,Zjg v=q:=⟨_,rfl⟩
   have HQ:=ħ hq
   clear hq
   go_wp2_with fail
   refine (Zxs v _).mono ?_
   rintro e w' ⟨rfl,rfl⟩
   rw[HQ.o]
   cases q with
   | true =>
    go_wp2
    go_round
    case rel=>exact⟨i+1,rfl,by omega,ħ (fun j hj=>by
     rcases Nat.lt_or_ge j i with h | h
     ·exact hz.o j h
     ·obtain rfl:j=i:=by omega
      rw[HV.o];exact HQ.o)⟩
    case measure=>simp[intOf];omega
   | false =>
    go_wp2
    go_ret
    exact⟨Za2 (congrArg (fun n:Nat=>(n:Int)) (Zjj Zjg l i hi hz.o (fun _=>by rw[HV.o];exact HQ.o))),rfl⟩
  ·obtain rfl:i=l.length:=by omega
   go_wp2
   go_ret
   exact⟨Za2 (congrArg (fun n:Nat=>(n:Int)) (Zjj Zjg l _ (Nat.le_refl _) hz.o (fun h=>absurd h (Nat.lt_irrefl _)))),rfl⟩
end
section
open Go.RowKit
theorem Zgg (l:List Nat) (h:l.length≠0):(Zad l).toList.isEmpty=false:=by
 rw[ByteArray.toList_eq]
 cases l with
 | nil=>exact absurd rfl h
 | cons c l=>rfl
theorem Zf2:(Zad []).toList.isEmpty=true:=by
 rw[ByteArray.toList_eq];rfl
theorem Z2z (w:World) :
  Calls Tryz.prog 147 #[.string (Zad [])] w fun e w'=>e = .returned (.bool (Zek []))∧w=w':=by
 have hne:=Zf2
 go_enter Tryz.func147,Tryz.ntmps147
 go_wp2
 go_ret
 exact⟨rfl,rfl⟩
theorem Zye (l:List Nat) (h0:0<l.length) (w:World) (hl:l.length≤1000000) (hb:∀ y∈l,y<256) :
  Calls Tryz.prog 147 #[.string (Zad l)] w fun e w'=>e = .returned (.bool (Zek l))∧w=w':=by
 have SZ:=ħ (Zaq l)
 have hx:∀ w,(Instr.index 9 (.string (Zad l)) (.int .i64 0)).run Tryz.prog w = .ok (.int .u8 ((l.getD 0 0:Nat):Int)) w:=fun w=>Zf1 l 0 h0 hb w
 have HR:=ħ (fun w=>Zqm l w hl hb)
 obtain⟨v,hv⟩:∃ v,l.getD 0 0=v:=⟨_,rfl⟩
 rw[hv] at hx
 have HV:=ħ hv
 obtain⟨q,hq⟩:∃ q,Zoq v=q:=⟨_,rfl⟩
 have HQ:=ħ hq
 have hne:=Zgg l (by omega)
 clear hv hq hb
 generalize Zad l=t at *
 go_enter Tryz.func147,Tryz.ntmps147
 go_wp2_with fail
 refine (Zdz v w).mono ?_
 rintro e w1 ⟨rfl,rfl⟩
 rw[HQ.o]
 cases q with
 | false =>
  go_wp2
  go_ret
  exact⟨Zag (by unfold Zek;rw[HV.o,HQ.o];simp),rfl⟩
 | true =>
  have hsz:=SZ.o
  by_cases h20:l.length≤20
  ·have i20:(l.length:Int)≤20:=by omega
   go_wp2_with fail
   refine (HR.o _).mono ?_
   rintro e w1 ⟨rfl,rfl⟩
   go_wp2
   go_ret
   exact⟨Zag (by unfold Zek;rw[HV.o,HQ.o,decide_eq_true h20];cases l with
    | nil=>simp at h0
    | cons c l=>rw[Bool.eq_iff_iff];simp;omega),rfl⟩
  ·have i20:¬ ((l.length:Int)≤20):=by omega
   go_wp2
   go_ret
   exact⟨Zag (by unfold Zek;rw[decide_eq_false h20];simp),rfl⟩
theorem Zo8 (l:List Nat) (w:World) (hl:l.length≤1000000) (hb:∀ y∈l,y<256) :
  Calls Tryz.prog 147 #[.string (Zad l)] w fun e w'=>e = .returned (.bool (Zek l))∧w=w':=by
 cases l with
 | nil=>exact Z2z w
 | cons c l=>exact Zye (c::l) (by simp) w hl hb
end
section
open Go.RowKit
theorem Zj7 (l:List Nat) (a b:Nat) (hb:b≤l.length):(Zad l).extract a b=Zad ((l.take b).drop a):=by
 apply ByteArray.ext
 simp[Zad,ByteArray.data_extract,List.map_take,List.map_drop,List.drop_take]
theorem Ze3 (a b:List Nat):Zad a++Zad b=Zad (a++b):=by
 apply ByteArray.ext
 simp[Zad]
theorem Zqp (l:List Nat) (a:Nat):(Zad l).extract a (Zad l).size=Zad (l.drop a):=by
 rw[Zaq,Zj7 l a l.length (Nat.le_refl _),List.take_length]
theorem Zqq (l:List Nat) (b:Nat) (hb:b≤l.length):(Zad l).extract 0 b=Zad (l.take b):=by
 rw[Zj7 l 0 b hb];rfl
end
section
open Go.RowKit
theorem Zcb (l:List Nat) (i:Nat) (h:i<l.length):l.drop i=l.getD i 0::l.drop (i+1):=by
 rw[List.drop_eq_getElem_cons h,List.getD,List.getElem?_eq_getElem h];rfl
theorem Z20 (l:List Nat) (i:Nat) (h:i<l.length) (h35:l.getD i 0=35):Zct false (l.drop i)=Zct true (l.drop i):=by
 rw[Zcb l i h,h35,Zct,Zct]
 simp[Zjg]
theorem Z73 (l:List Nat) (i:Nat) (h:i<l.length) (h10:l.getD i 0≠10):Zct true (l.drop i)=Zct true (l.drop (i+1))+1:=by
 rw[Zcb l i h,Zct]
 have h2:(l.getD i 0 != 10)=true:=by rw[bne_iff_ne];exact h10
 simp only[h2,Bool.true_and,Bool.true_or,if_pos]
theorem Zuj (l:List Nat) (i:Nat) (h:i<l.length→l.getD i 0=10):Zct true (l.drop i)=Zct false (l.drop i):=by
 by_cases hi:i<l.length
 ·rw[Zcb l i hi,h hi,Zct,Zct]
  simp[Zjg]
 ·rw[List.drop_eq_nil_of_le (by omega)];rfl
theorem Zyf (l:List Nat) (i:Nat) (hb:i<l.length→Zjg (l.getD i 0)=false) (h35:i<l.length→l.getD i 0≠35):Zct false (l.drop i)=0:=by
 by_cases hi:i<l.length
 ·rw[Zcb l i hi,Zct,if_neg (by rw[hb hi];simp),if_neg (h35 hi)]
 ·rw[List.drop_eq_nil_of_le (by omega)];rfl
theorem Zsz (l:List Nat) (i:Nat):Zct false (l.drop i)=Zax Zjg (l.drop i)+Zct false (l.drop (i+Zax Zjg (l.drop i)))∧(i+Zax Zjg (l.drop i)<l.length→Zjg (l.getD (i+Zax Zjg (l.drop i)) 0)=false):=by
 constructor
 ·have h:=Zj3 (l.drop i)
  rwa [List.drop_drop] at h
 ·intro h
  have h2:=Zln Zjg (l.drop i) (by rw[List.length_drop];omega)
  rwa [List.getD,List.getElem?_drop,← List.getD] at h2
end
section
open Go.RowKit
theorem Zyg (l:List Nat) (i:Nat) (h:i<l.length):l.take (i+1)=l.take i++[l.getD i 0]:=by
 rw[List.take_add_one,List.getD,List.getElem?_eq_getElem h];rfl
theorem Zl5 (l:List Nat) (i:Nat) (h:i<l.length):Zkg (l.take (i+1))=10*Zkg (l.take i)+(l.getD i 0-48):=by
 rw[Zyg l i h,Zxe]
theorem Zs0 {c:Nat} (h:Zd7 c=true):48≤c∧c≤57:=by unfold Zd7 at h;simpa using h
theorem Zs1 (l:List Nat):∀ i,i≤l.length→(∀ j,j<i→Zd7 (l.getD j 0)=true)→Zkg (l.take i)<10^i
 | 0,_,_=>by simp[Zkg]
 | i+1,h,hd=>by
  rw[Zl5 l i (by omega)]
  have h1:=Zs1 l i (by omega) (fun j hj=>hd j (by omega))
  have h2:=Zs0 (hd i (by omega))
  rw[Nat.pow_succ]
  omega
theorem Zs2 (l:List Nat) (h:Zax Zd7 l=l.length):∀ j,j<l.length→Zd7 (l.getD j 0)=true:=fun j hj=>Zor Zd7 l j (by rw[h];exact hj)
end
section
open Go.RowKit
def Zyh (l:List Nat):Option (List Nat×Nat):=(Zhy l.tail).bind (fun r=>if r.1.length≤400 then some (r.1,r.2+1) else none)
def Zen (l v:List Nat) (n:Nat):Option (List Nat×Nat):=(Zhy (l.drop n)).map (fun r=>(v++r.1,r.2+n))
theorem Zs3 (l:List Nat):Zen l [] 1=(Zhy l.tail).map (fun r=>(r.1,r.2+1)):=by
 unfold Zen;rw[List.drop_one];rfl
theorem Zyi (l v:List Nat) (n:Nat) (h:¬ n<l.length):Zen l v n=none:=by
 unfold Zen;rw[List.drop_eq_nil_of_le (by omega)];rfl
theorem Z6f (l v:List Nat) (n:Nat) (h:n<l.length) (hc:l.getD n 0=34):Zen l v n=some (v,n+1):=by
 unfold Zen;rw[Zcb l n h,hc,Zhy.eq_def];simp[Nat.add_comm]
theorem Zyj (l v:List Nat) (n:Nat) (h:n<l.length) (hc:Z7p (l.getD n 0)=false):Zen l v n=none:=by
 unfold Zen;rw[Zcb l n h,Zhy.eq_def]
 have h1:l.getD n 0≠34:=by intro e;rw[e] at hc;cases hc
 have h2:l.getD n 0≠92:=by intro e;rw[e] at hc;cases hc
 simp only[h1,h2,if_false,hc];rfl
theorem Zv0 (l v:List Nat) (n:Nat) (h:n<l.length) (hc:l.getD n 0=92) (h1:¬ n+1<l.length):Zen l v n=none:=by
 unfold Zen;rw[Zcb l n h,hc,List.drop_eq_nil_of_le (by omega),Zhy.eq_def];simp
theorem Zv1 (l v:List Nat) (n:Nat) (h:n<l.length) (hc:l.getD n 0=92) (h1:n+1<l.length) (h2:¬ (l.getD (n+1) 0=34∨l.getD (n+1) 0=92)):Zen l v n=none:=by
 unfold Zen;rw[Zcb l n h,hc,Zcb l (n+1) h1,Zhy.eq_def];simp only[if_neg h2];simp
theorem Zqr (l v:List Nat) (n:Nat) (h:n<l.length) (hc:l.getD n 0=92) (h1:n+1<l.length) (h2:l.getD (n+1) 0=34∨l.getD (n+1) 0=92):Zen l v n=Zen l (v++[l.getD (n+1) 0]) (n+2):=by
 unfold Zen;rw[Zcb l n h,hc,Zcb l (n+1) h1,Zhy.eq_def];simp only[if_pos h2]
 cases Zhy (l.drop (n+1+1)) with
 | none=>simp
 | some r=>simp;omega
theorem Zyk (l v:List Nat) (n:Nat) (h:n<l.length) (h34:l.getD n 0≠34) (h92:l.getD n 0≠92) (hp:Z7p (l.getD n 0)=true):Zen l v n=Zen l (v++[l.getD n 0]) (n+1):=by
 unfold Zen;rw[Zcb l n h,Zhy.eq_def];simp only[h34,h92,if_false,hp]
 cases Zhy (l.drop (n+1)) with
 | none=>simp
 | some r=>simp;omega
theorem Zs4 (l:List Nat):Zyh l=(Zen l [] 1).bind (fun r=>if r.1.length≤400 then some (r.1,r.2) else none):=by
 rw[Zs3];unfold Zyh
 cases Zhy l.tail with
 | none=>rfl
 | some r=>rfl
end
end Go.Proofs.YtmkdfbelbcocpaaGreatDoor
