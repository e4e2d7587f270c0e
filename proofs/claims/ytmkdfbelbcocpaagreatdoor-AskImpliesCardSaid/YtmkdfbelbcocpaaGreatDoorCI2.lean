import Derived.Laws.IdiomStrings
import Derived.Test.YtmkdfbelbcocpaaGreatDoorCI1
set_option linter.unusedVariables false
set_option linter.unusedSimpArgs false
set_option maxHeartbeats 2000000
set_option maxRecDepth 100000
namespace Go.Proofs.YtmkdfbelbcocpaaGreatDoor
section
open Go.RowKit
theorem ħ {p:Prop} (h:p):Hid p:=h
theorem _root_.Go.RowKit.Hid.o{p:Prop}(h:Hid p):p:=h
theorem Za2 {k:IntKind} {a b:Int} (h:a=b):Ending.returned (.int k a) = .returned (.int k b):=by rw[h]
def Zad (l:List Nat):ByteArray:=⟨(l.map UInt8.ofNat).toArray⟩
theorem Zaq (l:List Nat):(Zad l).size=l.length:=by
 unfold Zad
 show (l.map UInt8.ofNat).toArray.size=_
 simp
theorem Zf3 (l:List Nat) (i:Nat) (hi:i<l.length) (hb:∀ y∈l,y<256) (w:World) :
  (Instr.index 9 (.string (Zad l)) (.int .i64 (i:Int))).run Tryz.prog w = .ok (.int .u8 ((l.getD i 0:Nat):Int)) w:=by
 rw[run_index_string w 9 (Zad l) .i64 i Tryz.underlying9,dif_pos ⟨by omega,by rw[Zaq];omega⟩]
 have hm:=hb l[i] (List.getElem_mem hi)
 simp[Zad,List.getD,hi,ByteArray.getElem_eq_getElem_data,Nat.mod_eq_of_lt hm]
theorem Zx1 (c:Nat) (w:World) :
  Calls Tryz.prog 198 #[.int .u8 (c:Int)] w fun e w'=>e = .returned (.bool (Zh7 c))∧w=w':=by
 obtain⟨x,hx⟩:∃ x,Zoh c=x:=⟨_,rfl⟩
 obtain⟨y,hy⟩:∃ x,Zd5 c=x:=⟨_,rfl⟩
 have HX:=ħ hx
 have HY:=ħ hy
 clear hx hy
 go_enter Tryz.func198,Tryz.ntmps198
 go_wp2_with fail
 refine (Zdx c w).mono ?_
 rintro e w1 ⟨rfl,rfl⟩
 rw[HX.o]
 cases x with
 | true =>
  go_wp2
  go_ret
  exact⟨Zag (by unfold Zh7;rw[HX.o];rfl),rfl⟩
 | false =>
  go_wp2_with fail
  refine (Zgw c w).mono ?_
  rintro e w2 ⟨rfl,rfl⟩
  rw[HY.o]
  cases y with
  | true =>
   go_wp2
   go_ret
   exact⟨Zag (by unfold Zh7;rw[HX.o,HY.o];rfl),rfl⟩
  | false =>
   go_wp2
   all_goals
    go_ret
    exact⟨Zag (by unfold Zh7;rw[HX.o,HY.o,Bool.eq_iff_iff];simp;try omega),rfl⟩
theorem Zqm (l:List Nat) (w:World) (hl:l.length≤1000000) (hb:∀ y∈l,y<256) :
  Calls Tryz.prog 195 #[.string (Zad l),Value.func (.func 198) #[] #[]] w fun e w'=>e = .returned (.int .i64 (Zax Zh7 l))∧w=w':=by
 have SZ:=ħ (Zaq l)
 have HX:Hid (∀ i:Nat,i<l.length→∀ w,(Instr.index 9 (.string (Zad l)) (.int .i64 (i:Int))).run Tryz.prog w = .ok (.int .u8 ((l.getD i 0:Nat):Int)) w):=ħ (fun i hi w=>Zf3 l i hi hb w)
 clear hb
 generalize Zad l=t at *
 go_enter Tryz.func195,Tryz.ntmps195
 go_wp2_with fail
 go_loop [5] (fun c=>∃ i:Nat,c = .int .i64 i∧i≤l.length∧Hid (∀ j,j<i→Zh7 (l.getD j 0)=true)) (fun c=>(l.length-intOf c).toNat)
 case atStart=>exact⟨0,rfl,by omega,ħ (fun j hj=>absurd hj (Nat.not_lt_zero j))⟩
 case round =>
  obtain⟨i,rfl,hi,hz⟩:=hrel
  have hsz:=SZ.o
  have e2:IntKind.i64.wrap ((i:Int)+1)=((i+1:Nat):Int):=IntWalk.i64_in _ (by omega)
  by_cases hlt:i<l.length
  ·have hx:=HX.o i hlt
   have ii:(i:Int)<l.length:=by omega
   obtain⟨v,hv⟩:∃ v,l.getD i 0=v:=⟨_,rfl⟩
   rw[hv] at hx
   have HV:=ħ hv
   clear hv
   obtain⟨q,hq⟩:∃ q,Zh7 v=q:=⟨_,rfl⟩
   have HQ:=ħ hq
   clear hq
   go_wp2_with fail
   refine (Zx1 v _).mono ?_
   rintro e w' ⟨rfl,rfl⟩
   rw[HQ.o]
   cases q with
   | true =>
    go_wp2
    go_round
    case rel=>exact⟨i+1,rfl,by omega,ħ (fun j hj=>by
     rcases Nat.lt_or_ge j i with h | h
     ·exact hz.o j h
     ·obtain rfl:j=i:=by omega
      rw[HV.o];exact HQ.o)⟩
    case measure=>simp[intOf];omega
   | false =>
    go_wp2
    go_ret
    exact⟨Za2 (congrArg (fun n:Nat=>(n:Int)) (Zjb Zh7 l i hi hz.o (fun _=>by rw[HV.o];exact HQ.o))),rfl⟩
  ·obtain rfl:i=l.length:=by omega
   go_wp2
   go_ret
   exact⟨Za2 (congrArg (fun n:Nat=>(n:Int)) (Zjb Zh7 l _ (Nat.le_refl _) hz.o (fun h=>absurd h (Nat.lt_irrefl _)))),rfl⟩
theorem Zqn (l:List Nat) (w:World) (hl:l.length≤1000000) (hb:∀ y∈l,y<256) :
  Calls Tryz.prog 195 #[.string (Zad l),Value.func (.func 199) #[] #[]] w fun e w'=>e = .returned (.int .i64 (Zax Zd5 l))∧w=w':=by
 have SZ:=ħ (Zaq l)
 have HX:Hid (∀ i:Nat,i<l.length→∀ w,(Instr.index 9 (.string (Zad l)) (.int .i64 (i:Int))).run Tryz.prog w = .ok (.int .u8 ((l.getD i 0:Nat):Int)) w):=ħ (fun i hi w=>Zf3 l i hi hb w)
 clear hb
 generalize Zad l=t at *
 go_enter Tryz.func195,Tryz.ntmps195
 go_wp2_with fail
 go_loop [5] (fun c=>∃ i:Nat,c = .int .i64 i∧i≤l.length∧Hid (∀ j,j<i→Zd5 (l.getD j 0)=true)) (fun c=>(l.length-intOf c).toNat)
 case atStart=>exact⟨0,rfl,by omega,ħ (fun j hj=>absurd hj (Nat.not_lt_zero j))⟩
 case round =>
  obtain⟨i,rfl,hi,hz⟩:=hrel
  have hsz:=SZ.o
  have e2:IntKind.i64.wrap ((i:Int)+1)=((i+1:Nat):Int):=IntWalk.i64_in _ (by omega)
  by_cases hlt:i<l.length
  ·have hx:=HX.o i hlt
   have ii:(i:Int)<l.length:=by omega
   obtain⟨v,hv⟩:∃ v,l.getD i 0=v:=⟨_,rfl⟩
   rw[hv] at hx
   have HV:=ħ hv
   clear hv
   obtain⟨q,hq⟩:∃ q,Zd5 v=q:=⟨_,rfl⟩
   have HQ:=ħ hq
   clear hq
   go_wp2_with fail
   refine (Zgw v _).mono ?_
   rintro e w' ⟨rfl,rfl⟩
   rw[HQ.o]
   cases q with
   | true =>
    go_wp2
    go_round
    case rel=>exact⟨i+1,rfl,by omega,ħ (fun j hj=>by
     rcases Nat.lt_or_ge j i with h | h
     ·exact hz.o j h
     ·obtain rfl:j=i:=by omega
      rw[HV.o];exact HQ.o)⟩
    case measure=>simp[intOf];omega
   | false =>
    go_wp2
    go_ret
    exact⟨Za2 (congrArg (fun n:Nat=>(n:Int)) (Zjb Zd5 l i hi hz.o (fun _=>by rw[HV.o];exact HQ.o))),rfl⟩
  ·obtain rfl:i=l.length:=by omega
   go_wp2
   go_ret
   exact⟨Za2 (congrArg (fun n:Nat=>(n:Int)) (Zjb Zd5 l _ (Nat.le_refl _) hz.o (fun h=>absurd h (Nat.lt_irrefl _)))),rfl⟩
theorem Zqo (l:List Nat) (w:World) (hl:l.length≤1000000) (hb:∀ y∈l,y<256) :
  Calls Tryz.prog 195 #[.string (Zad l),Value.func (.func 196) #[] #[]] w fun e w'=>e = .returned (.int .i64 (Zax Zi7 l))∧w=w':=by
 have SZ:=ħ (Zaq l)
 have HX:Hid (∀ i:Nat,i<l.length→∀ w,(Instr.index 9 (.string (Zad l)) (.int .i64 (i:Int))).run Tryz.prog w = .ok (.int .u8 ((l.getD i 0:Nat):Int)) w):=ħ (fun i hi w=>Zf3 l i hi hb w)
 clear hb
 generalize Zad l=t at *
 go_enter Tryz.func195,Tryz.ntmps195
 go_wp2_with fail
 go_loop [5] (fun c=>∃ i:Nat,c = .int .i64 i∧i≤l.length∧Hid (∀ j,j<i→Zi7 (l.getD j 0)=true)) (fun c=>(l.length-intOf c).toNat)
 case atStart=>exact⟨0,rfl,by omega,ħ (fun j hj=>absurd hj (Nat.not_lt_zero j))⟩
 case round =>
  obtain⟨i,rfl,hi,hz⟩:=hrel
  have hsz:=SZ.o
  have e2:IntKind.i64.wrap ((i:Int)+1)=((i+1:Nat):Int):=IntWalk.i64_in _ (by omega)
  by_cases hlt:i<l.length
  ·have hx:=HX.o i hlt
   have ii:(i:Int)<l.length:=by omega
   obtain⟨v,hv⟩:∃ v,l.getD i 0=v:=⟨_,rfl⟩
   rw[hv] at hx
   have HV:=ħ hv
   clear hv
   obtain⟨q,hq⟩:∃ q,Zi7 v=q:=⟨_,rfl⟩
   have HQ:=ħ hq
   clear hq
   go_wp2_with fail
   refine (Zxg v _).mono ?_
   rintro e w' ⟨rfl,rfl⟩
   rw[HQ.o]
   cases q with
   | true =>
    go_wp2
    go_round
    case rel=>exact⟨i+1,rfl,by omega,ħ (fun j hj=>by
     rcases Nat.lt_or_ge j i with h | h
     ·exact hz.o j h
     ·obtain rfl:j=i:=by omega
      rw[HV.o];exact HQ.o)⟩
    case measure=>simp[intOf];omega
   | false =>
    go_wp2
    go_ret
    exact⟨Za2 (congrArg (fun n:Nat=>(n:Int)) (Zjb Zi7 l i hi hz.o (fun _=>by rw[HV.o];exact HQ.o))),rfl⟩
  ·obtain rfl:i=l.length:=by omega
   go_wp2
   go_ret
   exact⟨Za2 (congrArg (fun n:Nat=>(n:Int)) (Zjb Zi7 l _ (Nat.le_refl _) hz.o (fun h=>absurd h (Nat.lt_irrefl _)))),rfl⟩
end
section
open Go.RowKit
theorem Zgg (l:List Nat) (h:l.length≠0):(Zad l).toList.isEmpty=false:=by
 rw[ByteArray.toList_eq]
 cases l with
 | nil=>exact absurd rfl h
 | cons c l=>rfl
theorem Zf4:(Zad []).toList.isEmpty=true:=by
 rw[ByteArray.toList_eq];rfl
theorem Z20 (w:World) :
  Calls Tryz.prog 147 #[.string (Zad [])] w fun e w'=>e = .returned (.bool (Zem []))∧w=w':=by
 have hne:=Zf4
 go_enter Tryz.func147,Tryz.ntmps147
 go_wp2
 go_ret
 exact⟨rfl,rfl⟩
theorem Zx2 (l:List Nat) (h0:0<l.length) (w:World) (hl:l.length≤1000000) (hb:∀ y∈l,y<256) :
  Calls Tryz.prog 147 #[.string (Zad l)] w fun e w'=>e = .returned (.bool (Zem l))∧w=w':=by
 have SZ:=ħ (Zaq l)
 have hx:∀ w,(Instr.index 9 (.string (Zad l)) (.int .i64 0)).run Tryz.prog w = .ok (.int .u8 ((l.getD 0 0:Nat):Int)) w:=fun w=>Zf3 l 0 h0 hb w
 have HR:=ħ (fun w=>Zqm l w hl hb)
 obtain⟨v,hv⟩:∃ v,l.getD 0 0=v:=⟨_,rfl⟩
 rw[hv] at hx
 have HV:=ħ hv
 obtain⟨q,hq⟩:∃ q,Zoh v=q:=⟨_,rfl⟩
 have HQ:=ħ hq
 have hne:=Zgg l (by omega)
 clear hv hq hb
 generalize Zad l=t at *
 go_enter Tryz.func147,Tryz.ntmps147
 go_wp2_with fail
 refine (Zdx v w).mono ?_
 rintro e w1 ⟨rfl,rfl⟩
 rw[HQ.o]
 cases q with
 | false =>
  go_wp2
  go_ret
  exact⟨Zag (by unfold Zem;rw[HV.o,HQ.o];simp),rfl⟩
 | true =>
  have hsz:=SZ.o
  by_cases h20:l.length≤20
  ·have i20:(l.length:Int)≤20:=by omega
   go_wp2_with fail
   refine (HR.o _).mono ?_
   rintro e w1 ⟨rfl,rfl⟩
   go_wp2
   go_ret
   exact⟨Zag (by unfold Zem;rw[HV.o,HQ.o,decide_eq_true h20];cases l with
    | nil=>simp at h0
    | cons c l=>rw[Bool.eq_iff_iff];simp;omega),rfl⟩
  ·have i20:¬ ((l.length:Int)≤20):=by omega
   go_wp2
   go_ret
   exact⟨Zag (by unfold Zem;rw[decide_eq_false h20];simp),rfl⟩
theorem Zo0 (l:List Nat) (w:World) (hl:l.length≤1000000) (hb:∀ y∈l,y<256) :
  Calls Tryz.prog 147 #[.string (Zad l)] w fun e w'=>e = .returned (.bool (Zem l))∧w=w':=by
 cases l with
 | nil=>exact Z20 w
 | cons c l=>exact Zx2 (c::l) (by simp) w hl hb
end
section
open Go.RowKit
theorem Zjz (l:List Nat) (a b:Nat) (hb:b≤l.length):(Zad l).extract a b=Zad ((l.take b).drop a):=by
 apply ByteArray.ext
 simp[Zad,ByteArray.data_extract,List.map_take,List.map_drop,List.drop_take]
theorem Ze6 (a b:List Nat):Zad a++Zad b=Zad (a++b):=by
 apply ByteArray.ext
 simp[Zad]
theorem Zqp (l:List Nat) (a:Nat):(Zad l).extract a (Zad l).size=Zad (l.drop a):=by
 rw[Zaq,Zjz l a l.length (Nat.le_refl _),List.take_length]
theorem Zqq (l:List Nat) (b:Nat) (hb:b≤l.length):(Zad l).extract 0 b=Zad (l.take b):=by
 rw[Zjz l 0 b hb];rfl
end
section
open Go.RowKit
theorem Zcb (l:List Nat) (i:Nat) (h:i<l.length):l.drop i=l.getD i 0::l.drop (i+1):=by
 rw[List.drop_eq_getElem_cons h,List.getD,List.getElem?_eq_getElem h];rfl
theorem Z21 (l:List Nat) (i:Nat) (h:i<l.length) (h35:l.getD i 0=35):Zct false (l.drop i)=Zct true (l.drop i):=by
 rw[Zcb l i h,h35,Zct,Zct]
 simp[Zi7]
theorem Z7z (l:List Nat) (i:Nat) (h:i<l.length) (h10:l.getD i 0≠10):Zct true (l.drop i)=Zct true (l.drop (i+1))+1:=by
 rw[Zcb l i h,Zct]
 have h2:(l.getD i 0 != 10)=true:=by rw[bne_iff_ne];exact h10
 simp only[h2,Bool.true_and,Bool.true_or,if_pos]
theorem Zue (l:List Nat) (i:Nat) (h:i<l.length→l.getD i 0=10):Zct true (l.drop i)=Zct false (l.drop i):=by
 by_cases hi:i<l.length
 ·rw[Zcb l i hi,h hi,Zct,Zct]
  simp[Zi7]
 ·rw[List.drop_eq_nil_of_le (by omega)];rfl
theorem Zx3 (l:List Nat) (i:Nat) (hb:i<l.length→Zi7 (l.getD i 0)=false) (h35:i<l.length→l.getD i 0≠35):Zct false (l.drop i)=0:=by
 by_cases hi:i<l.length
 ·rw[Zcb l i hi,Zct,if_neg (by rw[hb hi];simp),if_neg (h35 hi)]
 ·rw[List.drop_eq_nil_of_le (by omega)];rfl
theorem Zsx (l:List Nat) (i:Nat):Zct false (l.drop i)=Zax Zi7 (l.drop i)+Zct false (l.drop (i+Zax Zi7 (l.drop i)))∧(i+Zax Zi7 (l.drop i)<l.length→Zi7 (l.getD (i+Zax Zi7 (l.drop i)) 0)=false):=by
 constructor
 ·have h:=Zjv (l.drop i)
  rwa [List.drop_drop] at h
 ·intro h
  have h2:=Zku Zi7 (l.drop i) (by rw[List.length_drop];omega)
  rwa [List.getD,List.getElem?_drop,← List.getD] at h2
end
section
open Go.RowKit
theorem Zx4 (l:List Nat) (i:Nat) (h:i<l.length):l.take (i+1)=l.take i++[l.getD i 0]:=by
 rw[List.take_add_one,List.getD,List.getElem?_eq_getElem h];rfl
theorem Zlc (l:List Nat) (i:Nat) (h:i<l.length):Zj8 (l.take (i+1))=10*Zj8 (l.take i)+(l.getD i 0-48):=by
 rw[Zx4 l i h,Zw2]
theorem Zsy {c:Nat} (h:Zd5 c=true):48≤c∧c≤57:=by unfold Zd5 at h;simpa using h
theorem Zsz (l:List Nat):∀ i,i≤l.length→(∀ j,j<i→Zd5 (l.getD j 0)=true)→Zj8 (l.take i)<10^i
 | 0,_,_=>by simp[Zj8]
 | i+1,h,hd=>by
  rw[Zlc l i (by omega)]
  have h1:=Zsz l i (by omega) (fun j hj=>hd j (by omega))
  have h2:=Zsy (hd i (by omega))
  rw[Nat.pow_succ]
  omega
theorem Zs0 (l:List Nat) (h:Zax Zd5 l=l.length):∀ j,j<l.length→Zd5 (l.getD j 0)=true:=fun j hj=>Zoi Zd5 l j (by rw[h];exact hj)
end
section
open Go.RowKit
def Zx5 (l:List Nat):Option (List Nat×Nat):=(Zhw l.tail).bind (fun r=>if r.1.length≤400 then some (r.1,r.2+1) else none)
def Zep (l v:List Nat) (n:Nat):Option (List Nat×Nat):=(Zhw (l.drop n)).map (fun r=>(v++r.1,r.2+n))
theorem Zs1 (l:List Nat):Zep l [] 1=(Zhw l.tail).map (fun r=>(r.1,r.2+1)):=by
 unfold Zep;rw[List.drop_one];rfl
theorem Zx6 (l v:List Nat) (n:Nat) (h:¬ n<l.length):Zep l v n=none:=by
 unfold Zep;rw[List.drop_eq_nil_of_le (by omega)];rfl
theorem Z6h (l v:List Nat) (n:Nat) (h:n<l.length) (hc:l.getD n 0=34):Zep l v n=some (v,n+1):=by
 unfold Zep;rw[Zcb l n h,hc,Zhw.eq_def];simp[Nat.add_comm]
theorem Zx7 (l v:List Nat) (n:Nat) (h:n<l.length) (hc:Z7m (l.getD n 0)=false):Zep l v n=none:=by
 unfold Zep;rw[Zcb l n h,Zhw.eq_def]
 have h1:l.getD n 0≠34:=by intro e;rw[e] at hc;cases hc
 have h2:l.getD n 0≠92:=by intro e;rw[e] at hc;cases hc
 simp only[h1,h2,if_false,hc];rfl
theorem Zvu (l v:List Nat) (n:Nat) (h:n<l.length) (hc:l.getD n 0=92) (h1:¬ n+1<l.length):Zep l v n=none:=by
 unfold Zep;rw[Zcb l n h,hc,List.drop_eq_nil_of_le (by omega),Zhw.eq_def];simp
theorem Zvv (l v:List Nat) (n:Nat) (h:n<l.length) (hc:l.getD n 0=92) (h1:n+1<l.length) (h2:¬ (l.getD (n+1) 0=34∨l.getD (n+1) 0=92)):Zep l v n=none:=by
 unfold Zep;rw[Zcb l n h,hc,Zcb l (n+1) h1,Zhw.eq_def];simp only[if_neg h2];simp
theorem Zqr (l v:List Nat) (n:Nat) (h:n<l.length) (hc:l.getD n 0=92) (h1:n+1<l.length) (h2:l.getD (n+1) 0=34∨l.getD (n+1) 0=92):Zep l v n=Zep l (v++[l.getD (n+1) 0]) (n+2):=by
 unfold Zep;rw[Zcb l n h,hc,Zcb l (n+1) h1,Zhw.eq_def];simp only[if_pos h2]
 cases Zhw (l.drop (n+1+1)) with
 | none=>simp
 | some r=>simp;omega
theorem Zx8 (l v:List Nat) (n:Nat) (h:n<l.length) (h34:l.getD n 0≠34) (h92:l.getD n 0≠92) (hp:Z7m (l.getD n 0)=true):Zep l v n=Zep l (v++[l.getD n 0]) (n+1):=by
 unfold Zep;rw[Zcb l n h,Zhw.eq_def];simp only[h34,h92,if_false,hp]
 cases Zhw (l.drop (n+1)) with
 | none=>simp
 | some r=>simp;omega
theorem Zs2 (l:List Nat):Zx5 l=(Zep l [] 1).bind (fun r=>if r.1.length≤400 then some (r.1,r.2) else none):=by
 rw[Zs1];unfold Zx5
 cases Zhw l.tail with
 | none=>rfl
 | some r=>rfl
end
end Go.Proofs.YtmkdfbelbcocpaaGreatDoor
