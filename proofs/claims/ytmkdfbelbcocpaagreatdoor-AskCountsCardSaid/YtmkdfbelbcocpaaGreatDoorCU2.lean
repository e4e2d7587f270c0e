import Derived.Laws.IdiomStrings
import Derived.Test.YtmkdfbelbcocpaaGreatDoorCU1
set_option linter.unusedVariables false
set_option linter.unusedSimpArgs false
set_option maxHeartbeats 2000000
set_option maxRecDepth 100000
namespace Go.Proofs.YtmkdfbelbcocpaaGreatDoor
section
open Go.RowKit
theorem ħ {p:Prop} (h:p):Hid p:=h
theorem _root_.Go.RowKit.Hid.o{p:Prop}(h:Hid p):p:=h
theorem ret_int {k:IntKind} {a b:Int} (h:a=b):Ending.returned (.int k a) = .returned (.int k b):=by rw[h]
def strN (l:List Nat):ByteArray:=⟨(l.map UInt8.ofNat).toArray⟩
theorem strN_size (l:List Nat):(strN l).size=l.length:=by
 unfold strN
 show (l.map UInt8.ofNat).toArray.size=_
 simp
theorem str_at (l:List Nat) (i:Nat) (hi:i<l.length) (hb:∀ y∈l,y<256) (w:World) :
  (Instr.index 9 (.string (strN l)) (.int .i64 (i:Int))).run Tryz.prog w = .ok (.int .u8 ((l.getD i 0:Nat):Int)) w:=by
 rw[run_index_string w 9 (strN l) .i64 i Tryz.underlying9,dif_pos ⟨by omega,by rw[strN_size];omega⟩]
 have hm:=hb l[i] (List.getElem_mem hi)
 simp[strN,List.getD,hi,ByteArray.getElem_eq_getElem_data,Nat.mod_eq_of_lt hm]
theorem inner_any (c:Nat) (w:World) :
  Calls Tryz.prog 198 #[.int .u8 (c:Int)] w fun e w'=>e = .returned (.bool (innB c))∧w=w':=by
 obtain⟨x,hx⟩:∃ x,letB c=x:=⟨_,rfl⟩
 obtain⟨y,hy⟩:∃ x,digB c=x:=⟨_,rfl⟩
 have HX:=ħ hx
 have HY:=ħ hy
 clear hx hy
 go_enter Tryz.func198,Tryz.ntmps198
 go_wp2_with fail
 refine (letter_any c w).mono ?_
 rintro e w1 ⟨rfl,rfl⟩
 rw[HX.o]
 cases x with
 | true =>
  go_wp2
  go_ret
  exact⟨ret_bool (by unfold innB;rw[HX.o];rfl),rfl⟩
 | false =>
  go_wp2_with fail
  refine (digit_any c w).mono ?_
  rintro e w2 ⟨rfl,rfl⟩
  rw[HY.o]
  cases y with
  | true =>
   go_wp2
   go_ret
   exact⟨ret_bool (by unfold innB;rw[HX.o,HY.o];rfl),rfl⟩
  | false =>
   go_wp2
   all_goals
    go_ret
    exact⟨ret_bool (by unfold innB;rw[HX.o,HY.o,Bool.eq_iff_iff];simp;try omega),rfl⟩
theorem run_inner (l:List Nat) (w:World) (hl:l.length≤1000000) (hb:∀ y∈l,y<256) :
  Calls Tryz.prog 195 #[.string (strN l),Value.func (.func 198) #[] #[]] w fun e w'=>e = .returned (.int .i64 (runN innB l))∧w=w':=by
 have SZ:=ħ (strN_size l)
 have HX:Hid (∀ i:Nat,i<l.length→∀ w,(Instr.index 9 (.string (strN l)) (.int .i64 (i:Int))).run Tryz.prog w = .ok (.int .u8 ((l.getD i 0:Nat):Int)) w):=ħ (fun i hi w=>str_at l i hi hb w)
 clear hb
 generalize strN l=t at *
 go_enter Tryz.func195,Tryz.ntmps195
 go_wp2_with fail
 go_loop [5] (fun c=>∃ i:Nat,c = .int .i64 i∧i≤l.length∧Hid (∀ j,j<i→innB (l.getD j 0)=true)) (fun c=>(l.length-intOf c).toNat)
 case atStart=>exact⟨0,rfl,by omega,ħ (fun j hj=>absurd hj (Nat.not_lt_zero j))⟩
 case round =>
  obtain⟨i,rfl,hi,hz⟩:=hrel
  have hsz:=SZ.o
  have e2:IntKind.i64.wrap ((i:Int)+1)=((i+1:Nat):Int):=IntWalk.i64_in _ (by omega)
  by_cases hlt:i<l.length
  ·have hx:=HX.o i hlt
   have ii:(i:Int)<l.length:=by omega
   obtain⟨v,hv⟩:∃ v,l.getD i 0=v:=⟨_,rfl⟩
   rw[hv] at hx
   have HV:=ħ hv
   clear hv
   obtain⟨q,hq⟩:∃ q,innB v=q:=⟨_,rfl⟩
   have HQ:=ħ hq
   clear hq
   go_wp2_with fail
   refine (inner_any v _).mono ?_
   rintro e w' ⟨rfl,rfl⟩
   rw[HQ.o]
   cases q with
   | true =>
    go_wp2
    go_round
    case rel=>exact⟨i+1,rfl,by omega,ħ (fun j hj=>by
     rcases Nat.lt_or_ge j i with h | h
     ·exact hz.o j h
     ·obtain rfl:j=i:=by omega
      rw[HV.o];exact HQ.o)⟩
    case measure=>simp[intOf];omega
   | false =>
    go_wp2
    go_ret
    exact⟨ret_int (congrArg (fun n:Nat=>(n:Int)) (runN_eq innB l i hi hz.o (fun _=>by rw[HV.o];exact HQ.o))),rfl⟩
  ·obtain rfl:i=l.length:=by omega
   go_wp2
   go_ret
   exact⟨ret_int (congrArg (fun n:Nat=>(n:Int)) (runN_eq innB l _ (Nat.le_refl _) hz.o (fun h=>absurd h (Nat.lt_irrefl _)))),rfl⟩
theorem run_digit (l:List Nat) (w:World) (hl:l.length≤1000000) (hb:∀ y∈l,y<256) :
  Calls Tryz.prog 195 #[.string (strN l),Value.func (.func 199) #[] #[]] w fun e w'=>e = .returned (.int .i64 (runN digB l))∧w=w':=by
 have SZ:=ħ (strN_size l)
 have HX:Hid (∀ i:Nat,i<l.length→∀ w,(Instr.index 9 (.string (strN l)) (.int .i64 (i:Int))).run Tryz.prog w = .ok (.int .u8 ((l.getD i 0:Nat):Int)) w):=ħ (fun i hi w=>str_at l i hi hb w)
 clear hb
 generalize strN l=t at *
 go_enter Tryz.func195,Tryz.ntmps195
 go_wp2_with fail
 go_loop [5] (fun c=>∃ i:Nat,c = .int .i64 i∧i≤l.length∧Hid (∀ j,j<i→digB (l.getD j 0)=true)) (fun c=>(l.length-intOf c).toNat)
 case atStart=>exact⟨0,rfl,by omega,ħ (fun j hj=>absurd hj (Nat.not_lt_zero j))⟩
 case round =>
  obtain⟨i,rfl,hi,hz⟩:=hrel
  have hsz:=SZ.o
  have e2:IntKind.i64.wrap ((i:Int)+1)=((i+1:Nat):Int):=IntWalk.i64_in _ (by omega)
  by_cases hlt:i<l.length
  ·have hx:=HX.o i hlt
   have ii:(i:Int)<l.length:=by omega
   obtain⟨v,hv⟩:∃ v,l.getD i 0=v:=⟨_,rfl⟩
   rw[hv] at hx
   have HV:=ħ hv
   clear hv
   obtain⟨q,hq⟩:∃ q,digB v=q:=⟨_,rfl⟩
   have HQ:=ħ hq
   clear hq
   go_wp2_with fail
   refine (digit_any v _).mono ?_
   rintro e w' ⟨rfl,rfl⟩
   rw[HQ.o]
   cases q with
   | true =>
    go_wp2
    go_round
    case rel=>exact⟨i+1,rfl,by omega,ħ (fun j hj=>by
     rcases Nat.lt_or_ge j i with h | h
     ·exact hz.o j h
     ·obtain rfl:j=i:=by omega
      rw[HV.o];exact HQ.o)⟩
    case measure=>simp[intOf];omega
   | false =>
    go_wp2
    go_ret
    exact⟨ret_int (congrArg (fun n:Nat=>(n:Int)) (runN_eq digB l i hi hz.o (fun _=>by rw[HV.o];exact HQ.o))),rfl⟩
  ·obtain rfl:i=l.length:=by omega
   go_wp2
   go_ret
   exact⟨ret_int (congrArg (fun n:Nat=>(n:Int)) (runN_eq digB l _ (Nat.le_refl _) hz.o (fun h=>absurd h (Nat.lt_irrefl _)))),rfl⟩
theorem run_blank (l:List Nat) (w:World) (hl:l.length≤1000000) (hb:∀ y∈l,y<256) :
  Calls Tryz.prog 195 #[.string (strN l),Value.func (.func 196) #[] #[]] w fun e w'=>e = .returned (.int .i64 (runN blkB l))∧w=w':=by
 have SZ:=ħ (strN_size l)
 have HX:Hid (∀ i:Nat,i<l.length→∀ w,(Instr.index 9 (.string (strN l)) (.int .i64 (i:Int))).run Tryz.prog w = .ok (.int .u8 ((l.getD i 0:Nat):Int)) w):=ħ (fun i hi w=>str_at l i hi hb w)
 clear hb
 generalize strN l=t at *
 go_enter Tryz.func195,Tryz.ntmps195
 go_wp2_with fail
 go_loop [5] (fun c=>∃ i:Nat,c = .int .i64 i∧i≤l.length∧Hid (∀ j,j<i→blkB (l.getD j 0)=true)) (fun c=>(l.length-intOf c).toNat)
 case atStart=>exact⟨0,rfl,by omega,ħ (fun j hj=>absurd hj (Nat.not_lt_zero j))⟩
 case round =>
  obtain⟨i,rfl,hi,hz⟩:=hrel
  have hsz:=SZ.o
  have e2:IntKind.i64.wrap ((i:Int)+1)=((i+1:Nat):Int):=IntWalk.i64_in _ (by omega)
  by_cases hlt:i<l.length
  ·have hx:=HX.o i hlt
   have ii:(i:Int)<l.length:=by omega
   obtain⟨v,hv⟩:∃ v,l.getD i 0=v:=⟨_,rfl⟩
   rw[hv] at hx
   have HV:=ħ hv
   clear hv
   obtain⟨q,hq⟩:∃ q,blkB v=q:=⟨_,rfl⟩
   have HQ:=ħ hq
   clear hq
   go_wp2_with fail
   refine (blank_any v _).mono ?_
   rintro e w' ⟨rfl,rfl⟩
   rw[HQ.o]
   cases q with
   | true =>
    go_wp2
    go_round
    case rel=>exact⟨i+1,rfl,by omega,ħ (fun j hj=>by
     rcases Nat.lt_or_ge j i with h | h
     ·exact hz.o j h
     ·obtain rfl:j=i:=by omega
      rw[HV.o];exact HQ.o)⟩
    case measure=>simp[intOf];omega
   | false =>
    go_wp2
    go_ret
    exact⟨ret_int (congrArg (fun n:Nat=>(n:Int)) (runN_eq blkB l i hi hz.o (fun _=>by rw[HV.o];exact HQ.o))),rfl⟩
  ·obtain rfl:i=l.length:=by omega
   go_wp2
   go_ret
   exact⟨ret_int (congrArg (fun n:Nat=>(n:Int)) (runN_eq blkB l _ (Nat.le_refl _) hz.o (fun h=>absurd h (Nat.lt_irrefl _)))),rfl⟩
end
section
open Go.RowKit
theorem strN_isE (l:List Nat) (h:l.length≠0):(strN l).toList.isEmpty=false:=by
 rw[ByteArray.toList_eq]
 cases l with
 | nil=>exact absurd rfl h
 | cons c l=>rfl
theorem strN_isE0:(strN []).toList.isEmpty=true:=by
 rw[ByteArray.toList_eq];rfl
theorem name_nil (w:World) :
  Calls Tryz.prog 147 #[.string (strN [])] w fun e w'=>e = .returned (.bool (nameB []))∧w=w':=by
 have hne:=strN_isE0
 go_enter Tryz.func147,Tryz.ntmps147
 go_wp2
 go_ret
 exact⟨rfl,rfl⟩
theorem name_cons (l:List Nat) (h0:0<l.length) (w:World) (hl:l.length≤1000000) (hb:∀ y∈l,y<256) :
  Calls Tryz.prog 147 #[.string (strN l)] w fun e w'=>e = .returned (.bool (nameB l))∧w=w':=by
 have SZ:=ħ (strN_size l)
 have hx:∀ w,(Instr.index 9 (.string (strN l)) (.int .i64 0)).run Tryz.prog w = .ok (.int .u8 ((l.getD 0 0:Nat):Int)) w:=fun w=>str_at l 0 h0 hb w
 have HR:=ħ (fun w=>run_inner l w hl hb)
 obtain⟨v,hv⟩:∃ v,l.getD 0 0=v:=⟨_,rfl⟩
 rw[hv] at hx
 have HV:=ħ hv
 obtain⟨q,hq⟩:∃ q,letB v=q:=⟨_,rfl⟩
 have HQ:=ħ hq
 have hne:=strN_isE l (by omega)
 clear hv hq hb
 generalize strN l=t at *
 go_enter Tryz.func147,Tryz.ntmps147
 go_wp2_with fail
 refine (letter_any v w).mono ?_
 rintro e w1 ⟨rfl,rfl⟩
 rw[HQ.o]
 cases q with
 | false =>
  go_wp2
  go_ret
  exact⟨ret_bool (by unfold nameB;rw[HV.o,HQ.o];simp),rfl⟩
 | true =>
  have hsz:=SZ.o
  by_cases h20:l.length≤20
  ·have i20:(l.length:Int)≤20:=by omega
   go_wp2_with fail
   refine (HR.o _).mono ?_
   rintro e w1 ⟨rfl,rfl⟩
   go_wp2
   go_ret
   exact⟨ret_bool (by unfold nameB;rw[HV.o,HQ.o,decide_eq_true h20];cases l with
    | nil=>simp at h0
    | cons c l=>rw[Bool.eq_iff_iff];simp;omega),rfl⟩
  ·have i20:¬ ((l.length:Int)≤20):=by omega
   go_wp2
   go_ret
   exact⟨ret_bool (by unfold nameB;rw[decide_eq_false h20];simp),rfl⟩
theorem name_any (l:List Nat) (w:World) (hl:l.length≤1000000) (hb:∀ y∈l,y<256) :
  Calls Tryz.prog 147 #[.string (strN l)] w fun e w'=>e = .returned (.bool (nameB l))∧w=w':=by
 cases l with
 | nil=>exact name_nil w
 | cons c l=>exact name_cons (c::l) (by simp) w hl hb
end
section
open Go.RowKit
theorem strN_extract (l:List Nat) (a b:Nat) (hb:b≤l.length):(strN l).extract a b=strN ((l.take b).drop a):=by
 apply ByteArray.ext
 simp[strN,ByteArray.data_extract,List.map_take,List.map_drop,List.drop_take]
theorem strN_append (a b:List Nat):strN a++strN b=strN (a++b):=by
 apply ByteArray.ext
 simp[strN]
theorem strN_drop (l:List Nat) (a:Nat):(strN l).extract a (strN l).size=strN (l.drop a):=by
 rw[strN_size,strN_extract l a l.length (Nat.le_refl _),List.take_length]
theorem strN_take (l:List Nat) (b:Nat) (hb:b≤l.length):(strN l).extract 0 b=strN (l.take b):=by
 rw[strN_extract l 0 b hb];rfl
end
section
open Go.RowKit
theorem drop_cons (l:List Nat) (i:Nat) (h:i<l.length):l.drop i=l.getD i 0::l.drop (i+1):=by
 rw[List.drop_eq_getElem_cons h,List.getD,List.getElem?_eq_getElem h];rfl
theorem gap_open (l:List Nat) (i:Nat) (h:i<l.length) (h35:l.getD i 0=35):skipC false (l.drop i)=skipC true (l.drop i):=by
 rw[drop_cons l i h,h35,skipC,skipC]
 simp[blkB]
theorem gap_in (l:List Nat) (i:Nat) (h:i<l.length) (h10:l.getD i 0≠10):skipC true (l.drop i)=skipC true (l.drop (i+1))+1:=by
 rw[drop_cons l i h,skipC]
 have h2:(l.getD i 0 != 10)=true:=by rw[bne_iff_ne];exact h10
 simp only[h2,Bool.true_and,Bool.true_or,if_pos]
theorem gap_shut (l:List Nat) (i:Nat) (h:i<l.length→l.getD i 0=10):skipC true (l.drop i)=skipC false (l.drop i):=by
 by_cases hi:i<l.length
 ·rw[drop_cons l i hi,h hi,skipC,skipC]
  simp[blkB]
 ·rw[List.drop_eq_nil_of_le (by omega)];rfl
theorem gap_end (l:List Nat) (i:Nat) (hb:i<l.length→blkB (l.getD i 0)=false) (h35:i<l.length→l.getD i 0≠35):skipC false (l.drop i)=0:=by
 by_cases hi:i<l.length
 ·rw[drop_cons l i hi,skipC,if_neg (by rw[hb hi];simp),if_neg (h35 hi)]
 ·rw[List.drop_eq_nil_of_le (by omega)];rfl
theorem gap_run (l:List Nat) (i:Nat):skipC false (l.drop i)=runN blkB (l.drop i)+skipC false (l.drop (i+runN blkB (l.drop i)))∧(i+runN blkB (l.drop i)<l.length→blkB (l.getD (i+runN blkB (l.drop i)) 0)=false):=by
 constructor
 ·have h:=skipC_blanks (l.drop i)
  rwa [List.drop_drop] at h
 ·intro h
  have h2:=runN_stop blkB (l.drop i) (by rw[List.length_drop];omega)
  rwa [List.getD,List.getElem?_drop,← List.getD] at h2
end
section
open Go.RowKit
theorem take_snoc (l:List Nat) (i:Nat) (h:i<l.length):l.take (i+1)=l.take i++[l.getD i 0]:=by
 rw[List.take_add_one,List.getD,List.getElem?_eq_getElem h];rfl
theorem numV_take (l:List Nat) (i:Nat) (h:i<l.length):numV (l.take (i+1))=10*numV (l.take i)+(l.getD i 0-48):=by
 rw[take_snoc l i h,numV_snoc]
theorem digB_le {c:Nat} (h:digB c=true):48≤c∧c≤57:=by unfold digB at h;simpa using h
theorem numV_lt (l:List Nat):∀ i,i≤l.length→(∀ j,j<i→digB (l.getD j 0)=true)→numV (l.take i)<10^i
 | 0,_,_=>by simp[numV]
 | i+1,h,hd=>by
  rw[numV_take l i (by omega)]
  have h1:=numV_lt l i (by omega) (fun j hj=>hd j (by omega))
  have h2:=digB_le (hd i (by omega))
  rw[Nat.pow_succ]
  omega
theorem digs_of_run (l:List Nat) (h:runN digB l=l.length):∀ j,j<l.length→digB (l.getD j 0)=true:=fun j hj=>runN_yes digB l j (by rw[h];exact hj)
end
section
open Go.RowKit
def quoP (l:List Nat):Option (List Nat×Nat):=(quoF l.tail).bind (fun r=>if r.1.length≤400 then some (r.1,r.2+1) else none)
def quoAt (l v:List Nat) (n:Nat):Option (List Nat×Nat):=(quoF (l.drop n)).map (fun r=>(v++r.1,r.2+n))
theorem quoAt_start (l:List Nat):quoAt l [] 1=(quoF l.tail).map (fun r=>(r.1,r.2+1)):=by
 unfold quoAt;rw[List.drop_one];rfl
theorem quoAt_end (l v:List Nat) (n:Nat) (h:¬ n<l.length):quoAt l v n=none:=by
 unfold quoAt;rw[List.drop_eq_nil_of_le (by omega)];rfl
theorem quoAt_q (l v:List Nat) (n:Nat) (h:n<l.length) (hc:l.getD n 0=34):quoAt l v n=some (v,n+1):=by
 unfold quoAt;rw[drop_cons l n h,hc,quoF.eq_def];simp[Nat.add_comm]
theorem quoAt_bad (l v:List Nat) (n:Nat) (h:n<l.length) (hc:plnB (l.getD n 0)=false):quoAt l v n=none:=by
 unfold quoAt;rw[drop_cons l n h,quoF.eq_def]
 have h1:l.getD n 0≠34:=by intro e;rw[e] at hc;cases hc
 have h2:l.getD n 0≠92:=by intro e;rw[e] at hc;cases hc
 simp only[h1,h2,if_false,hc];rfl
theorem quoAt_esc0 (l v:List Nat) (n:Nat) (h:n<l.length) (hc:l.getD n 0=92) (h1:¬ n+1<l.length):quoAt l v n=none:=by
 unfold quoAt;rw[drop_cons l n h,hc,List.drop_eq_nil_of_le (by omega),quoF.eq_def];simp
theorem quoAt_esc1 (l v:List Nat) (n:Nat) (h:n<l.length) (hc:l.getD n 0=92) (h1:n+1<l.length) (h2:¬ (l.getD (n+1) 0=34∨l.getD (n+1) 0=92)):quoAt l v n=none:=by
 unfold quoAt;rw[drop_cons l n h,hc,drop_cons l (n+1) h1,quoF.eq_def];simp only[if_neg h2];simp
theorem quoAt_esc (l v:List Nat) (n:Nat) (h:n<l.length) (hc:l.getD n 0=92) (h1:n+1<l.length) (h2:l.getD (n+1) 0=34∨l.getD (n+1) 0=92):quoAt l v n=quoAt l (v++[l.getD (n+1) 0]) (n+2):=by
 unfold quoAt;rw[drop_cons l n h,hc,drop_cons l (n+1) h1,quoF.eq_def];simp only[if_pos h2]
 cases quoF (l.drop (n+1+1)) with
 | none=>simp
 | some r=>simp;omega
theorem quoAt_chr (l v:List Nat) (n:Nat) (h:n<l.length) (h34:l.getD n 0≠34) (h92:l.getD n 0≠92) (hp:plnB (l.getD n 0)=true):quoAt l v n=quoAt l (v++[l.getD n 0]) (n+1):=by
 unfold quoAt;rw[drop_cons l n h,quoF.eq_def];simp only[h34,h92,if_false,hp]
 cases quoF (l.drop (n+1)) with
 | none=>simp
 | some r=>simp;omega
theorem quoP_of (l:List Nat):quoP l=(quoAt l [] 1).bind (fun r=>if r.1.length≤400 then some (r.1,r.2) else none):=by
 rw[quoAt_start];unfold quoP
 cases quoF l.tail with
 | none=>rfl
 | some r=>rfl
end
end Go.Proofs.YtmkdfbelbcocpaaGreatDoor
