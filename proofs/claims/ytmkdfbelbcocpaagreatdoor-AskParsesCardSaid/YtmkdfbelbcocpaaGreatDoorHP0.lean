set_option linter.unusedVariables false
set_option linter.unusedSimpArgs false
namespace Go.Proofs.YtmkdfbelbcocpaaGreatDoor
section
def letB (c:Nat):Bool:=(decide (97≤c)&&decide (c≤122))||(decide (65≤c)&&decide (c≤90))
def digB (c:Nat):Bool:=decide (48≤c)&&decide (c≤57)
def innB (c:Nat):Bool:=letB c||digB c||c==95
def blkB (c:Nat):Bool:=c==32||c==9||c==10
def plnB (c:Nat):Bool:=decide (32≤c)&&decide (c≤126)
theorem innB_of_let {c:Nat} (h:letB c=true):innB c=true:=by unfold innB;rw[h];rfl
def runN (p:Nat→Bool) (l:List Nat):Nat:=(l.takeWhile p).length
theorem runN_le (p:Nat→Bool):∀ l,runN p l≤l.length
 | []=>Nat.le_refl _
 | c::l=>by
  unfold runN
  rw[List.takeWhile_cons]
  cases p c with
  | false=>exact Nat.zero_le _
  | true=>exact Nat.succ_le_succ (runN_le p l)
theorem runN_yes (p:Nat→Bool):∀ (l:List Nat) (i:Nat),i<runN p l→p (l.getD i 0)=true
 | [],i,h=>by simp[runN] at h
 | c::l,i,h=>by
  unfold runN at h
  rw[List.takeWhile_cons] at h
  cases hp:p c with
  | false=>rw[hp] at h;simp at h
  | true =>
   rw[hp] at h
   cases i with
   | zero=>simpa using hp
   | succ i=>simpa using runN_yes p l i (by simpa [runN] using h)
theorem runN_stop (p:Nat→Bool):∀ (l:List Nat),runN p l<l.length→p (l.getD (runN p l) 0)=false
 | [],h=>by simp at h
 | c::l,h=>by
  unfold runN at h ⊢
  rw[List.takeWhile_cons] at h ⊢
  cases hp:p c with
  | false=>simpa using hp
  | true =>
   rw[hp] at h
   simp only[if_pos,List.length_cons] at h ⊢
   have h2:=runN_stop p l (by unfold runN;omega)
   unfold runN at h2
   simpa using h2
theorem runN_eq (p:Nat→Bool) (l:List Nat) (n:Nat) (hn:n≤l.length) (hy:∀ i,i<n→p (l.getD i 0)=true) (hs:n<l.length→p (l.getD n 0)=false):n=runN p l:=by
 rcases Nat.lt_trichotomy n (runN p l) with h | h | h
 ·have h1:=runN_yes p l n h
  have h2:=hs (Nat.lt_of_lt_of_le h (runN_le p l))
  rw[h1] at h2;exact absurd h2 (by simp)
 ·exact h
 ·have h1:=hy _ h
  have h2:=runN_stop p l (Nat.lt_of_lt_of_le h hn)
  rw[h1] at h2;exact absurd h2 (by simp)
theorem runN_all (p:Nat→Bool):∀ l:List Nat,(runN p l==l.length)=l.all p
 | []=>rfl
 | c::l=>by
  unfold runN
  rw[List.takeWhile_cons,List.all_cons]
  cases hp:p c with
  | false=>simp
  | true =>
   have:=runN_all p l
   unfold runN at this
   simp only[if_pos,List.length_cons,Bool.true_and]
   rw[← this]
   rw[Bool.eq_iff_iff];simp
def nameB (l:List Nat):Bool:=(l != [])&&letB (l.getD 0 0)&&decide (l.length≤20)&&(runN innB l==l.length)
def nameR (l:List Nat):Bool:=!(decide (l.length<1)||decide (20<l.length)||!letB (l.getD 0 0))&&l.tail.all innB
theorem nameR_eq (l:List Nat):nameR l=nameB l:=by
 unfold nameR nameB
 rw[runN_all]
 cases l with
 | nil=>rfl
 | cons c l =>
  simp only[List.getD_cons_zero,List.tail_cons,List.all_cons,List.length_cons]
  cases hl:letB c with
  | false=>simp
  | true =>
   rw[innB_of_let hl]
   have h1:decide (l.length+1<1)=false:=by simp
   rw[h1]
   by_cases h:20<l.length+1
   ·rw[decide_eq_true h,decide_eq_false (by omega:¬ l.length+1≤20)];simp
   ·rw[decide_eq_false h,decide_eq_true (by omega:l.length+1≤20)];simp
def numV (l:List Nat):Nat:=l.foldl (fun n c=>10*n+(c-48)) 0
def numOk (l:List Nat):Bool:=!((l==[])||(runN digB l != l.length)||((l.getD 0 0==48)&&(l != [48]))||decide (13<l.length))&&decide (numV l≤1099511627776)
def numF (l:List Nat):Nat:=if numOk l then numV l else 0
theorem numV_snoc (l:List Nat) (c:Nat):numV (l++[c])=10*numV l+(c-48):=by unfold numV;rw[List.foldl_append];rfl
theorem numV_ge:∀ (l:List Nat) (a:Nat),a*10^l.length≤l.foldl (fun n c=>10*n+(c-48)) a
 | [],a=>by simp
 | c::l,a=>by
  have h:=numV_ge l (10*a+(c-48))
  rw[List.foldl_cons,List.length_cons,Nat.pow_succ]
  refine Nat.le_trans ?_ h
  rw[show a*(10^l.length*10)=(10*a)*10^l.length by rw[Nat.mul_comm (10^l.length) 10,← Nat.mul_assoc,Nat.mul_comm a 10]]
  exact Nat.mul_le_mul_right _ (Nat.le_add_right _ _)
theorem numV_long (l:List Nat) (h13:13<l.length) (hd:l.all digB=true) (h0:l.getD 0 0≠48):1099511627776<numV l:=by
 cases l with
 | nil=>simp at h13
 | cons c l =>
  have hc:digB c=true:=by rw[List.all_cons,Bool.and_eq_true] at hd;exact hd.1
  have h1:1≤c-48:=by
   unfold digB at hc
   simp at hc h0
   omega
  unfold numV
  rw[List.foldl_cons]
  refine Nat.lt_of_lt_of_le ?_ (numV_ge l _)
  have h2:10^13≤10^l.length:=Nat.pow_le_pow_right (by omega) (by simp at h13;omega)
  have h3:(10*0+(c-48))*10^l.length≥1*10^l.length:=Nat.mul_le_mul_right _ (by omega)
  omega
def numOkR (l:List Nat):Bool:=l.all digB&&decide (numV l≤1099511627776)&&!(decide (l.length<1)||(decide (1<l.length)&&(l.getD 0 0==48)))
theorem numOkR_eq (l:List Nat):numOkR l=numOk l:=by
 unfold numOkR numOk
 have hr:(runN digB l != l.length)=!l.all digB:=by rw[← runN_all];rfl
 rw[hr]
 cases l with
 | nil=>simp
 | cons c l =>
  cases ha:(c::l).all digB with
  | false=>simp
  | true =>
   by_cases h0:c=48
   ·subst h0
    cases l with
    | nil=>simp
    | cons d l=>simp
   ·by_cases h13:13<(c::l).length
    ·have:=numV_long (c::l) h13 ha (by simpa using h0)
     rw[decide_eq_false (by omega:¬ numV (c::l)≤1099511627776)];simp
    ·rw[decide_eq_false h13]
     have e:((c::l).getD 0 0==48)=false:=by simpa using h0
     rw[e]
     simp
def wordsL:List (List Nat):=[[113,117,101,115,116,105,111,110],[97,110,100],[111,114],[110,111,116],[97,116],[108,101,97,115,116],[111,102],[105,110]]
def freeB (l:List Nat):Bool:=nameB l&&!wordsL.contains l
def notDot (c:Nat):Bool:=c != 46
def validN (l:List Nat):Bool:=decide (runN notDot l<l.length)&&(freeB (l.take (runN notDot l))&&freeB (l.drop (runN notDot l+1)))
end
section
def quoF:List Nat→Option (List Nat×Nat)
 | []=>none
 | c::l=>if c=34 then some ([],1) else if c=92 then
   (match l with
    | []=>none
    | d::l=>if d=34∨d=92 then (quoF l).map (fun r=>(d::r.1,r.2+2)) else none)
  else if plnB c=true then (quoF l).map (fun r=>(c::r.1,r.2+1)) else none
def quoR:List Nat→Option (List Nat×Nat)
 | []=>none
 | c::l=>if c=34 then some ([],1) else if c=92 then
   (match l with
    | []=>none
    | d::l=>if d=34∨d=92 then (quoR l).map (fun r=>(d::r.1,r.2+2)) else none)
  else (quoR l).map (fun r=>(c::r.1,r.2+1))
theorem quoF_eq:∀ l:List Nat,quoF l=(quoR l).bind (fun r=>if r.1.all plnB=true then some r else none)
 | []=>by simp[quoF,quoR]
 | [c]=>by
  unfold quoF quoR
  by_cases h1:c=34
  ·simp[h1]
  ·by_cases h2:c=92
   ·simp[h2]
   ·simp[h1,h2,quoF,quoR]
 | c::d::l=>by
  unfold quoF quoR
  by_cases h1:c=34
  ·simp[h1]
  ·by_cases h2:c=92
   ·simp only[h1,h2,if_true,if_false]
    by_cases h3:d=34∨d=92
    ·have hd:plnB d=true:=by rcases h3 with h | h<;>subst h<;>rfl
     rw[if_neg (by omega),if_pos h3,if_neg (by omega),if_pos h3,quoF_eq l]
     cases quoR l with
     | none=>rfl
     | some r =>
      simp only[Option.bind_some,Option.map_some,List.all_cons,hd,Bool.true_and]
      split<;>simp_all
    ·simp[h3]
   ·rw[if_neg h1,if_neg h2,if_neg h1,if_neg h2,quoF_eq (d::l)]
    cases quoR (d::l) with
    | none=>simp
    | some r =>
     have e:(c::r.1).all plnB=(plnB c&&r.1.all plnB):=rfl
     show (if plnB c=true then Option.map (fun r=>(c::r.1,r.2+1)) (if r.1.all plnB=true then some r else none) else none)=(if (c::r.1).all plnB=true then some (c::r.1,r.2+1) else none)
     by_cases h4:plnB c=true
     ·by_cases h5:r.1.all plnB=true
      ·rw[if_pos h4,if_pos h5,if_pos (by rw[e,h4,h5];rfl)];rfl
      ·rw[if_pos h4,if_neg h5,if_neg (by rw[e,h4];simpa using h5)];rfl
     ·rw[if_neg h4,if_neg (by rw[e];simp[h4])]
def skipC:Bool→List Nat→Nat
 | _,[]=>0
 | com,c::l=>if (com&&c != 10)||blkB c then skipC (com&&c != 10) l+1 else if c=35 then skipC true l+1 else 0
def gapN (l:List Nat):Nat:=skipC false l
theorem skipC_le:∀ (l:List Nat) (b:Bool),skipC b l≤l.length
 | [],b=>by cases b<;>simp[skipC]
 | c::l,b=>by
  unfold skipC
  have h1:=skipC_le l (b&&c != 10)
  have h2:=skipC_le l true
  split
  ·simp;omega
  ·split
   ·simp;omega
   ·simp
theorem skipC_blanks:∀ l:List Nat,skipC false l=runN blkB l+skipC false (l.drop (runN blkB l))
 | []=>rfl
 | c::l=>by
  unfold runN
  rw[List.takeWhile_cons]
  cases h:blkB c with
  | false=>simp
  | true =>
   have ih:=skipC_blanks l
   unfold runN at ih
   simp only[if_pos,List.length_cons,List.drop_succ_cons]
   rw[skipC]
   simp only[h,Bool.false_and,Bool.false_or,if_pos]
   omega
end
section
def sgnsP:List (List Nat):=[[46,46],[33,61],[60,61],[62,61],[40],[41],[123],[125],[44],[59],[58],[46],[61],[60],[62],[43],[45],[42],[47]]
def sgnsR:List (List Nat):=[[40],[41],[123],[125],[44],[59],[58],[46],[46,46],[61],[33,61],[60],[60,61],[62],[62,61],[43],[45],[42],[47]]
def firstS:List (List Nat)→List Nat→Nat
 | [],_=>0
 | t::ts,l=>if t.isPrefixOf l=true then t.length else firstS ts l
def longS:List (List Nat)→Nat→List Nat→Nat
 | [],o,_=>o
 | t::ts,o,l=>longS ts (if o<t.length∧t.isPrefixOf l=true then t.length else o) l
def sgnF (l:List Nat):Nat:=firstS sgnsP l
def sgnR (l:List Nat):Nat:=longS sgnsR 0 l
theorem sgnR_eq:∀ l:List Nat,sgnR l=sgnF l
 | []=>rfl
 | [a]=>by
  by_cases h:a∈[46,33,60,62,40,41,123,125,44,59,58,61,43,45,42,47]
  ·simp only[List.mem_cons,List.not_mem_nil,or_false] at h
   rcases h with h | h | h | h | h | h | h | h | h | h | h | h | h | h | h | h<;>subst h<;>rfl
  ·simp only[List.mem_cons,List.not_mem_nil,or_false,not_or] at h
   obtain⟨h1,h2,h3,h4,h5,h6,h7,h8,h9,h10,h11,h12,h13,h14,h15,h16⟩:=h
   simp[sgnR,sgnF,sgnsR,sgnsP,longS,firstS,List.isPrefixOf,Ne.symm h1,Ne.symm h2,Ne.symm h3,Ne.symm h4,Ne.symm h5,Ne.symm h6,Ne.symm h7,Ne.symm h8,Ne.symm h9,Ne.symm h10,Ne.symm h11,Ne.symm h12,Ne.symm h13,Ne.symm h14,Ne.symm h15,Ne.symm h16]
 | a::b::l=>by
  by_cases h:a∈[46,33,60,62,40,41,123,125,44,59,58,61,43,45,42,47]
  ·simp only[List.mem_cons,List.not_mem_nil,or_false] at h
   by_cases hb:b=46
   ·subst hb
    rcases h with h | h | h | h | h | h | h | h | h | h | h | h | h | h | h | h<;>subst h<;>simp[sgnR,sgnF,sgnsR,sgnsP,longS,firstS,List.isPrefixOf]
   ·by_cases hb2:b=61
    ·subst hb2
     rcases h with h | h | h | h | h | h | h | h | h | h | h | h | h | h | h | h<;>subst h<;>simp[sgnR,sgnF,sgnsR,sgnsP,longS,firstS,List.isPrefixOf]
    ·rcases h with h | h | h | h | h | h | h | h | h | h | h | h | h | h | h | h<;>subst h<;>simp[sgnR,sgnF,sgnsR,sgnsP,longS,firstS,List.isPrefixOf,Ne.symm hb,Ne.symm hb2]
  ·simp only[List.mem_cons,List.not_mem_nil,or_false,not_or] at h
   obtain⟨h1,h2,h3,h4,h5,h6,h7,h8,h9,h10,h11,h12,h13,h14,h15,h16⟩:=h
   simp[sgnR,sgnF,sgnsR,sgnsP,longS,firstS,List.isPrefixOf,Ne.symm h1,Ne.symm h2,Ne.symm h3,Ne.symm h4,Ne.symm h5,Ne.symm h6,Ne.symm h7,Ne.symm h8,Ne.symm h9,Ne.symm h10,Ne.symm h11,Ne.symm h12,Ne.symm h13,Ne.symm h14,Ne.symm h15,Ne.symm h16]
theorem firstS_le:∀ (ts:List (List Nat)) (l:List Nat),firstS ts l≤l.length
 | [],l=>Nat.zero_le _
 | t::ts,l=>by
  unfold firstS
  split
  ·rename_i h
   exact (List.isPrefixOf_iff_prefix.1 h).length_le
  ·exact firstS_le ts l
theorem quoF_le:∀ (l:List Nat) (r:List Nat×Nat),quoF l=some r→1≤r.2∧r.2≤l.length
 | [],r,h=>by simp[quoF] at h
 | [c],r,h=>by
  unfold quoF at h
  split at h
  ·cases h;simp
  ·split at h
   ·simp at h
   ·simp[quoF] at h
 | c::d::l,r,h=>by
  unfold quoF at h
  split at h
  ·cases h;simp
  ·split at h
   ·simp only at h
    split at h
    ·cases hq:quoF l with
     | none=>rw[hq] at h;simp at h
     | some r0 =>
      rw[hq] at h
      have:=quoF_le l r0 hq
      simp only[Option.map_some,Option.some.injEq] at h
      subst h;simp;omega
    ·simp at h
   ·split at h
    ·cases hq:quoF (d::l) with
     | none=>rw[hq] at h;simp at h
     | some r0 =>
      rw[hq] at h
      have:=quoF_le (d::l) r0 hq
      simp only[Option.map_some,Option.some.injEq] at h
      subst h;simp at *;omega
    ·simp at h
structure Tok where
 k:Int
 t:List Nat
 n:Nat
 p:Nat
def nextF (l:List Nat):Except Int (Tok×Nat) :=
 if letB (l.getD 0 0)=true then
  (if nameB (l.take (runN innB l))=true then .ok (⟨0,l.take (runN innB l),0,0⟩,runN innB l) else .error 3)
 else if digB (l.getD 0 0)=true then
  (if numOk (l.take (runN digB l))=true then .ok (⟨1,l.take (runN digB l),numV (l.take (runN digB l)),0⟩,runN digB l) else .error 3)
 else if l.getD 0 0=34 then
  (match quoF l.tail with
   | some r=>if r.1.length≤400 then .ok (⟨2,r.1,0,0⟩,r.2+1) else .error 2
   | none=>.error 2)
 else if sgnF l=0 then .error 10 else .ok (⟨3,l.take (sgnF l),0,0⟩,sgnF l)
theorem runN_pos (p:Nat→Bool) (c:Nat) (l:List Nat) (h:p c=true):0<runN p (c::l):=by
 unfold runN;rw[List.takeWhile_cons,h];simp
theorem nextF_len (l:List Nat) (h0:l≠[]) (r:Tok×Nat) (h:nextF l = .ok r):1≤r.2∧r.2≤l.length:=by
 cases l with
 | nil=>exact absurd rfl h0
 | cons c l =>
  unfold nextF at h
  split at h
  ·rename_i hl
   split at h
   ·cases h
    exact⟨runN_pos _ _ _ (innB_of_let hl),runN_le _ _⟩
   ·cases h
  ·split at h
   ·rename_i hl
    split at h
    ·cases h
     exact⟨runN_pos _ _ _ hl,runN_le _ _⟩
    ·cases h
   ·split at h
    ·split at h
     ·rename_i r0 hq
      have:=quoF_le _ _ hq
      split at h
      ·cases h
       simp at *;omega
      ·cases h
     ·cases h
    ·split at h
     ·cases h
     ·cases h
      exact⟨by show 1≤sgnF (c::l);omega,firstS_le _ _⟩
def scanG:Nat→Nat→List Nat→List Tok→List Tok×Nat×Int
 | 0,_,_,acc=>(acc,0,0)
 | f+1,a,l,acc =>
  if gapN l=l.length then (acc,0,0)
  else match nextF (l.drop (gapN l)) with
   | .error e=>([],a+gapN l,e)
   | .ok r=>scanG f (a+gapN l+r.2) (l.drop (gapN l+r.2)) (acc++[{ r.1 with p:=a+gapN l }])
theorem scanG_fuel:∀ (f g a:Nat) (l:List Nat) (acc:List Tok),l.length<f→l.length<g→scanG f a l acc=scanG g a l acc
 | 0,g,a,l,acc,hf,hg=>absurd hf (Nat.not_lt_zero _)
 | f+1,0,a,l,acc,hf,hg=>absurd hg (Nat.not_lt_zero _)
 | f+1,g+1,a,l,acc,hf,hg=>by
  unfold scanG
  by_cases h:gapN l=l.length
  ·rw[if_pos h,if_pos h]
  ·rw[if_neg h,if_neg h]
   have hle:gapN l≤l.length:=skipC_le l false
   cases hn:nextF (l.drop (gapN l)) with
   | error e=>rfl
   | ok r =>
    have hr:=nextF_len (l.drop (gapN l)) (by intro h2;have:=congrArg List.length h2;simp at this;omega) r hn
    rw[List.length_drop] at hr
    exact scanG_fuel f g _ _ _ (by rw[List.length_drop];omega) (by rw[List.length_drop];omega)
def scanF (l:List Nat):List Tok×Nat×Int:=if 4000<l.length then ([],0,6) else scanG (l.length+1) 0 l []
end
section
def scanC (com:Bool) (a:Nat) (l:List Nat) (acc:List Tok):List Tok×Nat×Int :=
 if skipC com l=l.length then (acc,0,0)
 else match nextF (l.drop (skipC com l)) with
  | .error e=>([],a+skipC com l,e)
  | .ok r=>scanG (l.length+1) (a+skipC com l+r.2) (l.drop (skipC com l+r.2)) (acc++[{ r.1 with p:=a+skipC com l }])
theorem scanG_C (f a:Nat) (l:List Nat) (acc:List Tok) (h:l.length<f):scanG f a l acc=scanC false a l acc:=by
 cases f with
 | zero=>exact absurd h (Nat.not_lt_zero _)
 | succ f =>
  unfold scanC
  rw[scanG]
  unfold gapN
  by_cases h1:skipC false l=l.length
  ·rw[if_pos h1,if_pos h1]
  ·rw[if_neg h1,if_neg h1]
   have hle:=skipC_le l false
   cases hn:nextF (l.drop (skipC false l)) with
   | error e=>rfl
   | ok r =>
    have hr:=nextF_len _ (by intro h2;have:=congrArg List.length h2;simp at this;omega) r hn
    rw[List.length_drop] at hr
    exact scanG_fuel _ _ _ _ _ (by rw[List.length_drop];omega) (by rw[List.length_drop];omega)
theorem scanF_C (l:List Nat) (h:l.length≤4000):scanF l=scanC false 0 l []:=by
 unfold scanF
 rw[if_neg (by omega)]
 exact scanG_C _ _ _ _ (by omega)
theorem scanC_nil (com:Bool) (a:Nat) (acc:List Tok):scanC com a [] acc=(acc,0,0):=by cases com<;>rfl
theorem scanC_skip (com:Bool) (a c:Nat) (l:List Nat) (acc:List Tok) (h:((com&&c != 10)||blkB c)=true):scanC com a (c::l) acc=scanC (com&&c != 10) (a+1) l acc:=by
 have hs:skipC com (c::l)=skipC (com&&c != 10) l+1:=by rw[skipC,if_pos h]
 unfold scanC
 rw[hs]
 generalize hk:skipC (com&&c != 10) l=k
 have hle:k≤l.length:=by rw[← hk];exact skipC_le _ _
 by_cases h1:k=l.length
 ·rw[if_pos (by rw[h1];rfl),if_pos h1]
 ·rw[if_neg (by rw[List.length_cons];omega),if_neg h1]
  rw[List.drop_succ_cons]
  cases hn:nextF (l.drop k) with
  | error e=>simp only[Prod.mk.injEq,true_and,and_true];omega
  | ok r =>
   have hr:=nextF_len _ (by intro h2;have:=congrArg List.length h2;simp at this;omega) r hn
   rw[List.length_drop] at hr
   show scanG ((c::l).length+1) (a+(k+1)+r.2) ((c::l).drop (k+1+r.2)) _=_
   rw[show k+1+r.2=(k+r.2)+1 by omega,List.drop_succ_cons,show a+(k+1)=a+1+k by omega]
   exact scanG_fuel _ _ _ _ _ (by rw[List.length_drop,List.length_cons];omega) (by rw[List.length_drop];omega)
theorem scanC_open (com:Bool) (a:Nat) (l:List Nat) (acc:List Tok) (h:com=false):scanC com a (35::l) acc=scanC true a (35::l) acc:=by
 subst h
 have h1:skipC false (35::l)=skipC true (35::l):=by
  rw[skipC,skipC]
  simp[blkB]
 unfold scanC
 rw[h1]
theorem scanC_tok (com:Bool) (a c:Nat) (l:List Nat) (acc:List Tok) (h:((com&&c != 10)||blkB c)=false) (h35:c≠35) :
  scanC com a (c::l) acc=match nextF (c::l) with
   | .error e=>([],a,e)
   | .ok r=>scanC false (a+r.2) ((c::l).drop r.2) (acc++[{ r.1 with p:=a }]):=by
 have hs:skipC com (c::l)=0:=by
  rw[skipC,if_neg (by rw[h];simp),if_neg h35]
 unfold scanC
 rw[hs,if_neg (by simp)]
 rw[List.drop_zero]
 cases hn:nextF (c::l) with
 | error e=>rfl
 | ok r =>
  have hr:=nextF_len _ (by simp) r hn
  show scanG ((c::l).length+1) (a+0+r.2) ((c::l).drop (0+r.2)) (acc++[{ r.1 with p:=a+0 }])=scanC false (a+r.2) ((c::l).drop r.2) (acc++[{ r.1 with p:=a }])
  rw[Nat.zero_add,Nat.add_zero]
  exact scanG_C _ _ _ _ (by rw[List.length_drop];omega)
end
section
inductive Prd where
 | mk (k:Int) (l r:List Nat) (c:Int) (ks:List Prd):Prd
namespace Prd
def k:Prd→Int | mk k _ _ _ _=>k
def l:Prd→List Nat | mk _ l _ _ _=>l
def r:Prd→List Nat | mk _ _ r _ _=>r
def c:Prd→Int | mk _ _ _ c _=>c
def ks:Prd→List Prd | mk _ _ _ _ ks=>ks
end Prd
def prd0:Prd:=.mk 0 [] [] 0 []
abbrev PR (α:Type):=Except (Int×Nat) (α×Nat)
def offP (ts:List Tok) (sz i:Nat):Nat:=match ts[i]? with
 | some t=>t.p
 | none=>sz
def isP (ts:List Tok) (s:List Nat) (i:Nat):Bool:=match ts[i]? with
 | some t=>(t.k==3||t.k==0)&&t.t==s
 | none=>false
def takeP (ts:List Tok) (sz:Nat) (s:List Nat) (i:Nat):Except (Int×Nat) Nat :=
 if isP ts s i=true then .ok (i+1) else .error (12,offP ts sz i)
def isNamP (ts:List Tok) (i:Nat):Bool:=match ts[i]? with
 | some t=>t.k==0&&freeB t.t
 | none=>false
def isNumP (ts:List Tok) (i:Nat):Bool:=match ts[i]? with
 | some t=>t.k==1
 | none=>false
def txtP (ts:List Tok) (i:Nat):List Nat:=match ts[i]? with
 | some t=>t.t
 | none=>[]
def valP (ts:List Tok) (i:Nat):Nat:=match ts[i]? with
 | some t=>t.n
 | none=>0
def nameP (ts:List Tok) (sz i:Nat):PR (List Nat) :=
 if isNamP ts i=true then .ok (txtP ts i,i+1) else .error (12,offP ts sz i)
def numP (ts:List Tok) (sz i:Nat):PR Nat :=
 if isNumP ts i=true then .ok (valP ts i,i+1) else .error (12,offP ts sz i)
abbrev SumV:=List Nat×Int
def sumP (ts:List Tok) (sz i:Nat):PR SumV :=
 if isP ts [45] i=true then (numP ts sz (i+1)).bind (fun m=>.ok (([],-(m.1:Int)),m.2))
 else if isNumP ts i=true then .ok (([],(valP ts i:Int)),i+1)
 else (nameP ts sz i).bind (fun a=>(takeP ts sz [46] a.2).bind (fun j=>(nameP ts sz j).bind (fun b =>
  if isP ts [43] b.2=true then (numP ts sz (b.2+1)).bind (fun m=>.ok ((a.1++46::b.1,(m.1:Int)),m.2))
  else if isP ts [45] b.2=true then (numP ts sz (b.2+1)).bind (fun m=>.ok ((a.1++46::b.1,-(m.1:Int)),m.2))
  else .ok ((a.1++46::b.1,0),b.2))))
def mostP (a b:SumV) (less:Int):Prd:=.mk 0 a.1 b.1 (b.2-a.2-less) []
def inP (p:Prd):Bool:=decide (-1099511627776≤p.c)&&decide (p.c<1099511627776)
def cmpP (ts:List Tok) (i:Nat):Option Nat :=
 if isP ts [60,61] i=true then some 0 else if isP ts [60] i=true then some 1 else if isP ts [62,61] i=true then some 2
 else if isP ts [62] i=true then some 3 else if isP ts [61] i=true then some 4 else if isP ts [33,61] i=true then some 5 else none
def makeP (n:Nat) (a b:SumV):Prd :=
 if n=0 then mostP a b 0 else if n=1 then mostP a b 1 else if n=2 then mostP b a 0 else if n=3 then mostP b a 1
 else if n=4 then .mk 1 [] [] 0 [mostP a b 0,mostP b a 0] else .mk 2 [] [] 0 [mostP a b 1,mostP b a 1]
def okP (n:Nat) (a b:SumV):Bool :=
 if n=0 then inP (mostP a b 0) else if n=1 then inP (mostP a b 1) else if n=2 then inP (mostP b a 0) else if n=3 then inP (mostP b a 1)
 else if n=4 then inP (mostP a b 0)&&inP (mostP b a 0) else inP (mostP a b 1)&&inP (mostP b a 1)
def compareP (ts:List Tok) (sz:Nat) (a:SumV) (u i:Nat):PR Prd:=match cmpP ts i with
 | none=>.error (12,offP ts sz i)
 | some n=>(sumP ts sz (i+1)).bind (fun b=>if okP n a b.1=true then .ok (makeP n a b.1,b.2) else .error (3,offP ts sz u))
def oneP (k:Int) (ps:List Prd):Prd:=match ps with
 | [p]=>p
 | _=>.mk k [] [] 0 ps
def rangesP (ts:List Tok) (sz:Nat):Nat→Nat→List (Nat×Nat)→PR (List (Nat×Nat))
 | 0,_,_=>.error (0,0)
 | f+1,i,acc=>(numP ts sz i).bind (fun m =>
   (if isP ts [46,46] m.2=true then numP ts sz (m.2+1) else .ok m).bind (fun n =>
    if n.1<m.1 then .error (3,offP ts sz i)
    else if isP ts [44] n.2=true then rangesP ts sz f (n.2+1) (acc++[(m.1,n.1)])
    else .ok (acc++[(m.1,n.1)],n.2)))
def rngP (a:SumV) (m:Nat×Nat):Prd:=.mk 1 [] [] 0 [mostP ([],(m.1:Int)) a 0,mostP a ([],(m.2:Int)) 0]
def rngOk (a:SumV) (m:Nat×Nat):Bool:=inP (mostP ([],(m.1:Int)) a 0)&&inP (mostP a ([],(m.2:Int)) 0)
def memberP (ts:List Tok) (sz:Nat) (a:SumV) (u i:Nat):PR Prd :=
 (takeP ts sz [123] i).bind (fun j=>(rangesP ts sz (ts.length+1) j []).bind (fun r=>(takeP ts sz [125] r.2).bind (fun k =>
  if r.1.all (rngOk a)=true then .ok (oneP 2 (r.1.map (rngP a)),k) else .error (3,offP ts sz u))))
def listP (ts:List Tok) (word:List Nat) (el:Nat→PR Prd):Nat→Nat→List Prd→PR (List Prd)
 | 0,_,_=>.error (0,0)
 | f+1,i,acc=>(el i).bind (fun p=>if isP ts word p.2=true then listP ts word el f (p.2+1) (acc++[p.1]) else .ok (acc++[p.1],p.2))
def allP (ts:List Tok) (unit:Nat→PR Prd) (i:Nat):PR Prd:=(listP ts [97,110,100] unit (ts.length+1) i []).bind (fun r=>.ok (oneP 1 r.1,r.2))
def someP (ts:List Tok) (unit:Nat→PR Prd) (i:Nat):PR Prd:=(listP ts [111,114] (allP ts unit) (ts.length+1) i []).bind (fun r=>.ok (oneP 2 r.1,r.2))
def leastP (ts:List Tok) (sz:Nat) (unit:Nat→PR Prd) (u i:Nat):PR Prd :=
 (takeP ts sz [108,101,97,115,116] i).bind (fun j=>(numP ts sz j).bind (fun n=>(takeP ts sz [111,102] n.2).bind (fun j=>(takeP ts sz [40] j).bind (fun j =>
  (listP ts [44] (someP ts unit) (ts.length+1) j []).bind (fun r=>(takeP ts sz [41] r.2).bind (fun j =>
   if 1≤n.1∧n.1≤r.1.length then .ok (.mk 3 [] [] (n.1:Int) r.1,j) else .error (3,offP ts sz u)))))))
def w64 (x:Int):Int:=(x+9223372036854775808)%18446744073709551616-9223372036854775808
theorem w64_in (x:Int) (h1:-9223372036854775808≤x) (h2:x≤9223372036854775807):w64 x=x:=by unfold w64;omega
mutual
def negP:Prd→Prd
 | .mk k l r c ks=>if k=0 then .mk 0 r l (w64 (w64 (-c)-1)) [] else
   .mk (if k=1 then 2 else if k=2 then 1 else k) [] [] (if k=3 then w64 (w64 ((ks.length:Int)-c)+1) else 0) (negL ks)
def negL:List Prd→List Prd
 | []=>[]
 | p::ps=>negP p::negL ps
end
def unitP (ts:List Tok) (sz:Nat):Nat→Nat→PR Prd
 | 0,_=>.error (0,0)
 | f+1,i =>
  if isP ts [110,111,116] i=true then (unitP ts sz f (i+1)).bind (fun p=>.ok (negP p.1,p.2))
  else if isP ts [40] i=true then (someP ts (unitP ts sz f) (i+1)).bind (fun p=>(takeP ts sz [41] p.2).bind (fun j=>.ok (p.1,j)))
  else if isP ts [97,116] i=true then leastP ts sz (unitP ts sz f) i (i+1)
  else (sumP ts sz i).bind (fun a=>if isP ts [105,110] a.2=true then memberP ts sz a.1 i (a.2+1) else compareP ts sz a.1 i a.2)
mutual
def cntP:Prd→Nat
 | .mk _ _ _ _ ks=>1+cntL ks
def cntL:List Prd→Nat
 | []=>0
 | p::ps=>cntP p+cntL ps
end
mutual
def depP:Prd→Nat
 | .mk _ _ _ _ ks=>1+depL ks
def depL:List Prd→Nat
 | []=>0
 | p::ps=>max (depP p) (depL ps)
end
def smallP (p:Prd):Bool:=decide (cntP p≤100)&&decide (depP p≤12)
def questP (ts:List Tok) (sz:Nat):Except (Int×Nat) (List Nat×Prd) :=
 (takeP ts sz [113,117,101,115,116,105,111,110] 0).bind (fun j=>(nameP ts sz j).bind (fun n=>(takeP ts sz [123] n.2).bind (fun j =>
  (someP ts (unitP ts sz (ts.length+1)) j).bind (fun p=>(takeP ts sz [125] p.2).bind (fun j =>
   if j<ts.length then .error (12,offP ts sz j)
   else if smallP p.1=true then .ok (n.1,p.1) else .error (6,0))))))
def parseF (s:List Nat):List Nat×Prd×Nat×Int :=
 if (scanF s).2.2=0 then (match questP (scanF s).1 s.length with
  | .ok r=>(r.1,r.2,0,0)
  | .error e=>([],prd0,e.2,e.1))
 else ([],prd0,(scanF s).2.1,(scanF s).2.2)
end
section
structure TokOk (t:Tok):Prop where
 name:t.k=0→nameB t.t=true
 n:t.n≤1099511627776
 p:t.p≤1000000
 len:t.t.length≤1000000
 byte:∀ y∈t.t,y<256
 k0:0≤t.k
 k3:t.k≤3
theorem quoF_byte:∀ (l:List Nat) (r:List Nat×Nat),quoF l=some r→(∀ y∈l,y<256)→∀ y∈r.1,y<256
 | [],r,h,_=>by simp[quoF] at h
 | [c],r,h,hb=>by
  unfold quoF at h
  split at h
  ·cases h;simp
  ·split at h
   ·simp at h
   ·simp[quoF] at h
 | c::d::l,r,h,hb=>by
  unfold quoF at h
  split at h
  ·cases h;simp
  ·split at h
   ·simp only at h
    split at h
    ·cases hq:quoF l with
     | none=>rw[hq] at h;simp at h
     | some r0 =>
      rw[hq] at h
      have:=quoF_byte l r0 hq (fun y hy=>hb y (by simp[hy]))
      simp only[Option.map_some,Option.some.injEq] at h
      subst h
      intro y hy
      rcases List.mem_cons.1 hy with e | e
      ·subst e;exact hb y (by simp)
      ·exact this y e
    ·simp at h
   ·split at h
    ·cases hq:quoF (d::l) with
     | none=>rw[hq] at h;simp at h
     | some r0 =>
      rw[hq] at h
      have:=quoF_byte (d::l) r0 hq (fun y hy=>hb y (List.mem_cons_of_mem _ hy))
      simp only[Option.map_some,Option.some.injEq] at h
      subst h
      intro y hy
      rcases List.mem_cons.1 hy with e | e
      ·subst e;exact hb y (by simp)
      ·exact this y e
    ·simp at h
theorem nextF_ok (l:List Nat) (hl:l.length≤4000) (hb:∀ y∈l,y<256) (r:Tok×Nat) (h:nextF l = .ok r) (a:Nat) (ha:a≤1000000):TokOk { r.1 with p:=a }:=by
 unfold nextF at h
 split at h
 ·split at h
  ·rename_i hn
   cases h
   exact⟨fun _=>hn,by simp,ha,by simp;omega,fun y hy=>hb y (List.mem_of_mem_take hy),by simp,by simp⟩
  ·cases h
 ·split at h
  ·split at h
   ·rename_i hn
    cases h
    refine⟨by simp,?_,ha,by simp;omega,fun y hy=>hb y (List.mem_of_mem_take hy),by simp,by simp⟩
    unfold numOk at hn
    simp only[Bool.and_eq_true,decide_eq_true_eq] at hn
    exact hn.2
   ·cases h
  ·split at h
   ·split at h
    ·rename_i r0 hq
     split at h
     ·rename_i h4
      cases h
      exact⟨by simp,by simp,ha,by simp;omega,quoF_byte _ _ hq (fun y hy=>hb y (List.mem_of_mem_tail hy)),by simp,by simp⟩
     ·cases h
    ·cases h
   ·split at h
    ·cases h
    ·cases h
     exact⟨by simp,by simp,ha,by simp;omega,fun y hy=>hb y (List.mem_of_mem_take hy),by simp,by simp⟩
theorem scanG_ok:∀ (f a:Nat) (l:List Nat) (acc:List Tok),a+l.length≤4000→(∀ y∈l,y<256)→(∀ t∈acc,TokOk t)→∀ t∈(scanG f a l acc).1,TokOk t
 | 0,_,_,acc,_,_,h=>by unfold scanG;exact h
 | f+1,a,l,acc,hl,hb,h=>by
  unfold scanG
  split
  ·exact h
  ·have hg:gapN l≤l.length:=skipC_le l false
   have hld:(l.drop (gapN l)).length≤4000:=by rw[List.length_drop];omega
   cases hn:nextF (l.drop (gapN l)) with
   | error e=>intro t ht;cases ht
   | ok r =>
    have hr:=nextF_len _ (by intro h2;have:=congrArg List.length h2;simp at this;omega) r hn
    rw[List.length_drop] at hr
    refine scanG_ok f _ _ _ (by rw[List.length_drop];omega) (fun y hy=>hb y (List.mem_of_mem_drop hy)) ?_
    intro t ht
    rcases List.mem_append.1 ht with ht | ht
    ·exact h t ht
    ·rw[List.mem_singleton.1 ht]
     exact nextF_ok _ hld (fun y hy=>hb y (List.mem_of_mem_drop hy)) r hn _ (by omega)
theorem scanF_ok (l:List Nat) (hb:∀ y∈l,y<256):∀ t∈(scanF l).1,TokOk t:=by
 unfold scanF
 split
 ·intro t ht;cases ht
 ·exact scanG_ok _ _ _ _ (by omega) hb (fun t ht=>by cases ht)
theorem scanG_count:∀ (f a:Nat) (l:List Nat) (acc:List Tok),(scanG f a l acc).1.length≤acc.length+l.length
 | 0,_,_,acc=>by unfold scanG;exact Nat.le_add_right _ _
 | f+1,a,l,acc=>by
  unfold scanG
  split
  ·exact Nat.le_add_right _ _
  ·have hg:gapN l≤l.length:=skipC_le l false
   cases hn:nextF (l.drop (gapN l)) with
   | error e=>exact Nat.zero_le _
   | ok r =>
    have hr:=nextF_len _ (by intro h2;have:=congrArg List.length h2;simp at this;omega) r hn
    rw[List.length_drop] at hr
    have:=scanG_count f (a+gapN l+r.2) (l.drop (gapN l+r.2)) (acc++[{ r.1 with p:=a+gapN l }])
    rw[List.length_append,List.length_drop] at this
    simp only[List.length_cons,List.length_nil] at this
    exact Nat.le_trans this (by omega)
theorem scanF_count (l:List Nat):(scanF l).1.length≤4000:=by
 unfold scanF
 split
 ·exact Nat.zero_le _
 ·have:=scanG_count (l.length+1) 0 l []
  simp at this
  omega
end
section
theorem isP_lt {ts:List Tok} {s:List Nat} {i:Nat} (h:isP ts s i=true):i<ts.length:=by
 unfold isP at h
 split at h
 ·rename_i t ht;exact (List.getElem?_eq_some_iff.1 ht).1
 ·cases h
theorem isNamP_lt {ts:List Tok} {i:Nat} (h:isNamP ts i=true):i<ts.length:=by
 unfold isNamP at h
 split at h
 ·rename_i t ht;exact (List.getElem?_eq_some_iff.1 ht).1
 ·cases h
theorem isNumP_lt {ts:List Tok} {i:Nat} (h:isNumP ts i=true):i<ts.length:=by
 unfold isNumP at h
 split at h
 ·rename_i t ht;exact (List.getElem?_eq_some_iff.1 ht).1
 ·cases h
theorem takeP_ok {ts:List Tok} {sz:Nat} {s:List Nat} {i j:Nat} (h:takeP ts sz s i = .ok j):isP ts s i=true∧j=i+1∧j≤ts.length:=by
 unfold takeP at h
 split at h
 ·rename_i hs;cases h;exact⟨hs,rfl,isP_lt hs⟩
 ·cases h
theorem nameP_ok {ts:List Tok} {sz i:Nat} {r:List Nat×Nat} (h:nameP ts sz i = .ok r):isNamP ts i=true∧r=(txtP ts i,i+1)∧r.2≤ts.length:=by
 unfold nameP at h
 split at h
 ·rename_i hs;cases h;exact⟨hs,rfl,isNamP_lt hs⟩
 ·cases h
theorem numP_ok {ts:List Tok} {sz i:Nat} {r:Nat×Nat} (h:numP ts sz i = .ok r):isNumP ts i=true∧r=(valP ts i,i+1)∧r.2≤ts.length:=by
 unfold numP at h
 split at h
 ·rename_i hs;cases h;exact⟨hs,rfl,isNumP_lt hs⟩
 ·cases h
theorem valP_le {ts:List Tok} (hts:∀ t∈ts,TokOk t) (i:Nat):valP ts i≤1099511627776:=by
 unfold valP
 split
 ·rename_i t ht;exact (hts t (List.mem_of_getElem? ht)).n
 ·omega
theorem txtP_byte {ts:List Tok} (hts:∀ t∈ts,TokOk t) (i:Nat):∀ y∈txtP ts i,y<256:=by
 unfold txtP
 split
 ·rename_i t ht;exact (hts t (List.mem_of_getElem? ht)).byte
 ·intro y hy;cases hy
theorem nameB_len {l:List Nat} (h:nameB l=true):l.length≤20:=by
 unfold nameB at h
 simp only[Bool.and_eq_true,decide_eq_true_eq] at h
 exact h.1.2
theorem txtP_len {ts:List Tok} {i:Nat} (h:isNamP ts i=true):(txtP ts i).length≤20:=by
 unfold isNamP at h
 unfold txtP
 split at h
 ·rename_i t ht
  simp only[Bool.and_eq_true,freeB] at h
  exact nameB_len h.2.1
 ·cases h
structure SumOk (a:SumV):Prop where
 lo:-1099511627776≤a.2
 hi:a.2≤1099511627776
 len:a.1.length≤41
 byte:∀ y∈a.1,y<256
theorem ex_bind {ε α β:Type} {x:Except ε α} {f:α→Except ε β} {b:β} (h:x.bind f = .ok b):∃ a,x = .ok a∧f a = .ok b:=by
 cases x with
 | error e=>cases h
 | ok a=>exact⟨a,rfl,h⟩
theorem sumP_ok {ts:List Tok} (hts:∀ t∈ts,TokOk t) {sz i:Nat} {r:SumV×Nat} (h:sumP ts sz i = .ok r):i<r.2∧r.2≤ts.length∧SumOk r.1:=by
 unfold sumP at h
 split at h
 ·obtain⟨m,h1,h2⟩:=ex_bind h
  obtain⟨_,rfl,hle⟩:=numP_ok h1
  cases h2
  have:=valP_le hts (i+1)
  exact⟨by simp;try omega,hle,by simp;try omega,by simp;try omega,by simp,by simp⟩
 ·split at h
  ·rename_i h1
   cases h
   have:=valP_le hts i
   exact⟨by simp,isNumP_lt h1,by simp;try omega,by simp;try omega,by simp,by simp⟩
  ·obtain⟨a,ha,h⟩:=ex_bind h
   obtain⟨hna,rfl,_⟩:=nameP_ok ha
   obtain⟨j,hj,h⟩:=ex_bind h
   obtain⟨_,rfl,_⟩:=takeP_ok hj
   obtain⟨b,hb,h⟩:=ex_bind h
   obtain⟨hnb,rfl,hle⟩:=nameP_ok hb
   have l1:=txtP_len hna
   have l2:(txtP ts (i+1+1)).length≤20:=txtP_len hnb
   have b1:=txtP_byte hts i
   have b2:=txtP_byte hts (i+1+1)
   have hlen:(txtP ts i++46::txtP ts (i+1+1)).length≤41:=by rw[List.length_append,List.length_cons];omega
   have hbyte:∀ y∈txtP ts i++46::txtP ts (i+1+1),y<256:=by
    intro y hy
    rcases List.mem_append.1 hy with hy | hy
    ·exact b1 y hy
    ·rcases List.mem_cons.1 hy with rfl | hy
     ·omega
     ·exact b2 y hy
   split at h
   ·obtain⟨m,h1,h2⟩:=ex_bind h
    obtain⟨_,rfl,hle⟩:=numP_ok h1
    cases h2
    have:=valP_le hts (i+1+1+1+1)
    exact⟨by simp;try omega,hle,by simp;try omega,by simp;try omega,hlen,hbyte⟩
   ·split at h
    ·obtain⟨m,h1,h2⟩:=ex_bind h
     obtain⟨_,rfl,hle⟩:=numP_ok h1
     cases h2
     have:=valP_le hts (i+1+1+1+1)
     exact⟨by simp;try omega,hle,by simp;try omega,by simp;try omega,hlen,hbyte⟩
    ·cases h
     exact⟨by simp;try omega,hle,by simp,by simp,hlen,hbyte⟩
def Goes (n:Nat) (el:Nat→PR Prd):Prop:=∀ i r,el i = .ok r→i<r.2∧r.2≤n
theorem listP_ok {ts:List Tok} {word:List Nat} {el:Nat→PR Prd} (hel:Goes ts.length el):∀ (f i:Nat) (acc:List Prd) (r:List Prd×Nat),listP ts word el f i acc = .ok r→i<r.2∧r.2≤ts.length∧acc.length<r.1.length
 | 0,_,_,_,h=>by cases h
 | f+1,i,acc,r,h=>by
  unfold listP at h
  obtain⟨p,hp,h⟩:=ex_bind h
  have h1:=hel i p hp
  split at h
  ·have h2:=listP_ok hel f _ _ r h
   rw[List.length_append] at h2
   simp at h2
   omega
  ·cases h
   simp;omega
theorem allP_ok {ts:List Tok} {unit:Nat→PR Prd} (hel:Goes ts.length unit):Goes ts.length (allP ts unit):=by
 intro i r h
 unfold allP at h
 obtain⟨p,hp,h⟩:=ex_bind h
 cases h
 have:=listP_ok hel _ _ _ p hp
 exact⟨this.1,this.2.1⟩
theorem someP_ok {ts:List Tok} {unit:Nat→PR Prd} (hel:Goes ts.length unit):Goes ts.length (someP ts unit):=by
 intro i r h
 unfold someP at h
 obtain⟨p,hp,h⟩:=ex_bind h
 cases h
 have:=listP_ok (allP_ok hel) _ _ _ p hp
 exact⟨this.1,this.2.1⟩
theorem leastP_ok {ts:List Tok} {sz:Nat} {unit:Nat→PR Prd} (hel:Goes ts.length unit) (u:Nat):Goes ts.length (leastP ts sz unit u):=by
 intro i r h
 unfold leastP at h
 obtain⟨j,hj,h⟩:=ex_bind h
 obtain⟨_,rfl,_⟩:=takeP_ok hj
 obtain⟨n,hn,h⟩:=ex_bind h
 obtain⟨_,rfl,_⟩:=numP_ok hn
 obtain⟨j,hj,h⟩:=ex_bind h
 obtain⟨_,rfl,_⟩:=takeP_ok hj
 obtain⟨j,hj,h⟩:=ex_bind h
 obtain⟨_,rfl,_⟩:=takeP_ok hj
 obtain⟨p,hp,h⟩:=ex_bind h
 have h1:=listP_ok (someP_ok hel) _ _ _ p hp
 obtain⟨j,hj,h⟩:=ex_bind h
 obtain⟨_,rfl,h2⟩:=takeP_ok hj
 simp only at h
 split at h
 ·cases h
  simp at h1 h2 ⊢
  omega
 ·cases h
theorem rangesP_ok {ts:List Tok} {sz:Nat} (hts:∀ t∈ts,TokOk t):∀ (f i:Nat) (acc:List (Nat×Nat)) (r:List (Nat×Nat)×Nat),(∀ m∈acc,m.1≤1099511627776∧m.2≤1099511627776)→rangesP ts sz f i acc = .ok r→i<r.2∧r.2≤ts.length∧(∀ m∈r.1,m.1≤1099511627776∧m.2≤1099511627776)
 | 0,_,_,_,_,h=>by cases h
 | f+1,i,acc,r,ha,h=>by
  unfold rangesP at h
  obtain⟨m,hm,h⟩:=ex_bind h
  obtain⟨_,rfl,l1⟩:=numP_ok hm
  obtain⟨n,hn,h⟩:=ex_bind h
  have hn2:i<n.2∧n.2≤ts.length∧n.1≤1099511627776:=by
   split at hn
   ·obtain⟨_,rfl,l2⟩:=numP_ok hn
    exact⟨by simp;omega,l2,valP_le hts _⟩
   ·cases hn
    exact⟨by simp,l1,valP_le hts _⟩
  have hacc:∀ m∈acc++[(valP ts i,n.1)],m.1≤1099511627776∧m.2≤1099511627776:=by
   intro m hm
   rcases List.mem_append.1 hm with hm | hm
   ·exact ha m hm
   ·rw[List.mem_singleton.1 hm];exact⟨valP_le hts _,hn2.2.2⟩
  split at h
  ·cases h
  ·split at h
   ·have:=rangesP_ok hts f _ _ r hacc h
    exact⟨by omega,this.2⟩
   ·cases h
    exact⟨hn2.1,hn2.2.1,hacc⟩
theorem memberP_ok {ts:List Tok} {sz:Nat} (hts:∀ t∈ts,TokOk t) (a:SumV) (u:Nat):Goes ts.length (memberP ts sz a u):=by
 intro i r h
 unfold memberP at h
 obtain⟨j,hj,h⟩:=ex_bind h
 obtain⟨_,rfl,_⟩:=takeP_ok hj
 obtain⟨p,hp,h⟩:=ex_bind h
 have h1:=rangesP_ok hts _ _ _ p (fun m hm=>by cases hm) hp
 obtain⟨j,hj,h⟩:=ex_bind h
 obtain⟨_,rfl,h2⟩:=takeP_ok hj
 split at h
 ·cases h
  simp at h1 h2 ⊢
  omega
 ·cases h
theorem compareP_ok {ts:List Tok} {sz:Nat} (hts:∀ t∈ts,TokOk t) (a:SumV) (u:Nat):Goes ts.length (compareP ts sz a u):=by
 intro i r h
 unfold compareP at h
 split at h
 ·cases h
 ·obtain⟨b,hb,h⟩:=ex_bind h
  have h1:=sumP_ok hts hb
  split at h
  ·cases h
   exact⟨by simp;omega,h1.2.1⟩
  ·cases h
theorem unitP_ok {ts:List Tok} {sz:Nat} (hts:∀ t∈ts,TokOk t):∀ f,Goes ts.length (unitP ts sz f)
 | 0=>fun i r h=>by cases h
 | f+1=>by
  intro i r h
  have ih:=unitP_ok (sz:=sz) hts f
  unfold unitP at h
  split at h
  ·obtain⟨p,hp,h⟩:=ex_bind h
   have:=ih _ _ hp
   cases h
   exact⟨by simp;omega,this.2⟩
  ·split at h
   ·obtain⟨p,hp,h⟩:=ex_bind h
    have h1:=someP_ok ih _ _ hp
    obtain⟨j,hj,h⟩:=ex_bind h
    obtain⟨_,rfl,h2⟩:=takeP_ok hj
    cases h
    exact⟨by simp;omega,h2⟩
   ·split at h
    ·have:=leastP_ok ih i _ r h
     omega
    ·obtain⟨a,ha,h⟩:=ex_bind h
     have h1:=sumP_ok hts ha
     split at h
     ·have:=memberP_ok hts a.1 i _ r h
      omega
     ·have:=compareP_ok hts a.1 i _ r h
      omega
end
section
def Few3 (el:Nat→PR Prd):Prop:=∀ i r,el i = .ok r→i<r.2∧cntP r.1≤3*(r.2-i)
theorem cntL_append:∀ (a b:List Prd),cntL (a++b)=cntL a+cntL b
 | [],b=>by simp[cntL]
 | p::a,b=>by rw[List.cons_append,cntL,cntL,cntL_append a b];omega
mutual
theorem cnt_neg:∀ p:Prd,cntP (negP p)≤cntP p
 | .mk k l r c ks=>by
  unfold negP
  split
  ·simp[cntP,cntL]
  ·unfold cntP
   have:=cnt_negL ks
   omega
theorem cnt_negL:∀ ks:List Prd,cntL (negL ks)≤cntL ks
 | []=>Nat.le_refl _
 | p::ps=>by
  unfold negL cntL
  have:=cnt_neg p
  have:=cnt_negL ps
  omega
end
theorem list_few {ts:List Tok} {word:List Nat} {el:Nat→PR Prd} (hel:Few3 el):∀ (f i:Nat) (acc:List Prd) (r:List Prd×Nat),listP ts word el f i acc = .ok r →
  i<r.2∧acc.length<r.1.length∧cntL r.1+3*r.1.length≤cntL acc+3*acc.length+3*(r.2-i)+3
 | 0,_,_,_,h=>by cases h
 | f+1,i,acc,r,h=>by
  unfold listP at h
  obtain⟨p,hp,h⟩:=ex_bind h
  have h1:=hel i p hp
  split at h
  ·have h2:=list_few hel f _ _ r h
   rw[cntL_append,List.length_append] at h2
   simp[cntL] at h2
   omega
  ·cases h
   rw[cntL_append,List.length_append]
   simp[cntL]
   omega
theorem cnt_oneP (k:Int) (ps:List Prd):cntP (oneP k ps)≤cntL ps+(if ps.length=1 then 0 else 1):=by
 match ps with
 | []=>simp[oneP,cntP,cntL]
 | [p]=>simp[oneP,cntL]
 | p::q::l=>simp[oneP,cntP,cntL];omega
theorem one_few {k:Int} {ps:List Prd} {i j:Nat} (h0:0<ps.length) (h:cntL ps+3*ps.length≤3*(j-i)+3):cntP (oneP k ps)≤3*(j-i):=by
 have:=cnt_oneP k ps
 split at this<;>omega
theorem all_few {ts:List Tok} {unit:Nat→PR Prd} (hel:Few3 unit):Few3 (allP ts unit):=by
 intro i r h
 unfold allP at h
 obtain⟨p,hp,h⟩:=ex_bind h
 cases h
 have:=list_few hel _ _ _ p hp
 simp[cntL] at this
 exact⟨this.1,one_few this.2.1 this.2.2⟩
theorem some_few {ts:List Tok} {unit:Nat→PR Prd} (hel:Few3 unit):Few3 (someP ts unit):=by
 intro i r h
 unfold someP at h
 obtain⟨p,hp,h⟩:=ex_bind h
 cases h
 have:=list_few (all_few hel) _ _ _ p hp
 simp[cntL] at this
 exact⟨this.1,one_few this.2.1 this.2.2⟩
theorem least_few {ts:List Tok} {sz:Nat} {unit:Nat→PR Prd} (hel:Few3 unit) (u:Nat):Few3 (leastP ts sz unit u):=by
 intro i r h
 unfold leastP at h
 obtain⟨j,hj,h⟩:=ex_bind h
 obtain⟨_,rfl,_⟩:=takeP_ok hj
 obtain⟨n,hn,h⟩:=ex_bind h
 obtain⟨_,rfl,_⟩:=numP_ok hn
 obtain⟨j,hj,h⟩:=ex_bind h
 obtain⟨_,rfl,_⟩:=takeP_ok hj
 obtain⟨j,hj,h⟩:=ex_bind h
 obtain⟨_,rfl,_⟩:=takeP_ok hj
 obtain⟨p,hp,h⟩:=ex_bind h
 have h1:=list_few (some_few hel) _ _ _ p hp
 simp[cntL] at h1
 obtain⟨j,hj,h⟩:=ex_bind h
 obtain⟨_,rfl,_⟩:=takeP_ok hj
 simp only at h
 split at h
 ·cases h
  simp[cntP]
  omega
 ·cases h
theorem ranges_few {ts:List Tok} {sz:Nat}:∀ (f i:Nat) (acc:List (Nat×Nat)) (r:List (Nat×Nat)×Nat),rangesP ts sz f i acc = .ok r→i<r.2∧acc.length<r.1.length∧r.1.length≤acc.length+(r.2-i)
 | 0,_,_,_,h=>by cases h
 | f+1,i,acc,r,h=>by
  rw[rangesP] at h
  obtain⟨m,hm,h⟩:=ex_bind h
  obtain⟨_,rfl,_⟩:=numP_ok hm
  obtain⟨n,hn,h⟩:=ex_bind h
  have hn2:i<n.2:=by
   split at hn
   ·obtain⟨_,rfl,_⟩:=numP_ok hn;simp;omega
   ·cases hn;simp
  split at h
  ·cases h
  ·split at h
   ·have:=ranges_few f _ _ r h
    rw[List.length_append] at this
    simp at this
    omega
   ·cases h
    rw[List.length_append]
    simp
    omega
theorem cntL_rng (a:SumV):∀ acc:List (Nat×Nat),cntL (acc.map (rngP a))=3*acc.length
 | []=>rfl
 | m::acc=>by
  rw[List.map_cons,cntL,cntL_rng a acc,List.length_cons]
  simp[rngP,cntP,cntL,mostP]
  omega
theorem member_few {ts:List Tok} {sz:Nat} (a:SumV) (u:Nat):Few3 (memberP ts sz a u):=by
 intro i r h
 unfold memberP at h
 obtain⟨j,hj,h⟩:=ex_bind h
 obtain⟨_,rfl,_⟩:=takeP_ok hj
 obtain⟨p,hp,h⟩:=ex_bind h
 have h1:=ranges_few _ _ _ p hp
 simp at h1
 obtain⟨j,hj,h⟩:=ex_bind h
 obtain⟨_,rfl,_⟩:=takeP_ok hj
 split at h
 ·cases h
  have h2:=cnt_oneP 2 (p.1.map (rngP a))
  rw[cntL_rng] at h2
  simp only at h1 ⊢
  have:cntP (oneP 2 (p.1.map (rngP a)))≤3*p.1.length+1:=by split at h2<;>omega
  omega
 ·cases h
theorem compare_few {ts:List Tok} {sz:Nat} (hts:∀ t∈ts,TokOk t) (a:SumV) (u:Nat):Few3 (compareP ts sz a u):=by
 intro i r h
 unfold compareP at h
 split at h
 ·cases h
 ·obtain⟨b,hb,h⟩:=ex_bind h
  have h1:=sumP_ok hts hb
  split at h
  ·cases h
   refine⟨by simp;omega,?_⟩
   have:∀ n,cntP (makeP n a b.1)≤3:=fun n=>by
    unfold makeP
    split
    ·simp[cntP,cntL,mostP]
    ·split
     ·simp[cntP,cntL,mostP]
     ·split
      ·simp[cntP,cntL,mostP]
      ·split
       ·simp[cntP,cntL,mostP]
       ·split
        ·simp[cntP,cntL,mostP]
        ·simp[cntP,cntL,mostP]
   refine Nat.le_trans (this _) ?_
   simp
   omega
  ·cases h
theorem unit_few {ts:List Tok} {sz:Nat} (hts:∀ t∈ts,TokOk t):∀ f,Few3 (unitP ts sz f)
 | 0=>fun i r h=>by cases h
 | f+1=>by
  intro i r h
  have ih:=unit_few (sz:=sz) hts f
  unfold unitP at h
  split at h
  ·obtain⟨p,hp,h⟩:=ex_bind h
   have:=ih _ _ hp
   cases h
   have h2:=cnt_neg p.1
   exact⟨by simp;omega,by simp only;omega⟩
  ·split at h
   ·obtain⟨p,hp,h⟩:=ex_bind h
    have h1:=some_few ih _ _ hp
    obtain⟨j,hj,h⟩:=ex_bind h
    obtain⟨_,rfl,h2⟩:=takeP_ok hj
    cases h
    exact⟨by simp;omega,by simp only;omega⟩
   ·split at h
    ·have:=least_few ih i _ r h
     omega
    ·obtain⟨a,ha,h⟩:=ex_bind h
     have h1:=sumP_ok hts ha
     split at h
     ·have:=member_few a.1 i _ r h
      omega
     ·have:=compare_few hts a.1 i _ r h
      omega
end
section
def ltL:List Nat→List Nat→Bool
 | _,[]=>false
 | [],_::_=>true
 | x::xs,y::ys=>decide (x<y)||(x==y&&ltL xs ys)
theorem ltL_irrefl:∀ a,ltL a a=false
 | []=>rfl
 | x::xs=>by simp[ltL,ltL_irrefl xs]
theorem ltL_trans:∀ a b c,ltL a b=true→ltL b c=true→ltL a c=true
 | [],[],_,h,_=>by simp[ltL] at h
 | [],_::_,[],_,h=>by simp[ltL] at h
 | [],_::_,_::_,_,_=>rfl
 | _::_,[],_,h,_=>by simp[ltL] at h
 | _::_,_::_,[],_,h=>by simp[ltL] at h
 | x::xs,y::ys,z::zs,h1,h2=>by
  simp only[ltL,Bool.or_eq_true,decide_eq_true_eq,Bool.and_eq_true,beq_iff_eq] at *
  rcases h1 with h1 | ⟨rfl,h1⟩
  ·rcases h2 with h2 | ⟨rfl,h2⟩
   ·left;omega
   ·left;exact h1
  ·rcases h2 with h2 | ⟨rfl,h2⟩
   ·left;exact h2
   ·right;exact⟨rfl,ltL_trans xs ys zs h1 h2⟩
theorem ltL_total:∀ a b,ltL a b=true∨a=b∨ltL b a=true
 | [],[]=>.inr (.inl rfl)
 | [],_::_=>.inl rfl
 | _::_,[]=>.inr (.inr rfl)
 | x::xs,y::ys=>by
  simp only[ltL,Bool.or_eq_true,decide_eq_true_eq,Bool.and_eq_true,beq_iff_eq]
  rcases Nat.lt_trichotomy x y with h | rfl | h
  ·left;left;exact h
  ·rcases ltL_total xs ys with h | rfl | h
   ·left;right;exact⟨rfl,h⟩
   ·right;left;rfl
   ·right;right;right;exact⟨rfl,h⟩
  ·right;right;left;exact h
def cmpL (a b:List Nat):Int:=if ltL a b=true then -1 else if ltL b a=true then 1 else 0
theorem cmpL_zero (a b:List Nat):cmpL a b=0↔a=b:=by
 unfold cmpL
 rcases ltL_total a b with h | rfl | h
 ·rw[if_pos h]
  constructor
  ·intro h;cases h
  ·rintro rfl;rw[ltL_irrefl] at h;cases h
 ·rw[ltL_irrefl];simp
 ·by_cases h2:ltL a b=true
  ·rw[if_pos h2]
   constructor
   ·intro h;cases h
   ·rintro rfl;rw[ltL_irrefl] at h;cases h
  ·rw[if_neg h2,if_pos h]
   constructor
   ·intro h;cases h
   ·rintro rfl;rw[ltL_irrefl] at h;cases h
theorem cmpL_lt (a b:List Nat):cmpL a b<0↔ltL a b=true:=by
 unfold cmpL
 by_cases h:ltL a b=true
 ·rw[if_pos h];exact⟨fun _=>h,fun _=>by decide⟩
 ·rw[if_neg h]
  constructor
  ·intro h2;split at h2<;>exact absurd h2 (by decide)
  ·intro h2;exact absurd h2 h
structure Ky where
 l:List Nat
 r:List Nat
 c:Int
deriving DecidableEq
instance:Inhabited Ky:=⟨⟨[],[],0⟩⟩
def or3 (a b c:Int):Int:=if a≠0 then a else if b≠0 then b else c
def cmpI (a b:Int):Int:=if a<b then -1 else if a=b then 0 else 1
def cmpK (a b:Ky):Int:=or3 (cmpL a.l b.l) (cmpL a.r b.r) (cmpI a.c b.c)
def ltK (a b:Ky):Bool:=decide (cmpK a b<0)
theorem ltK_iff (a b:Ky):ltK a b=true↔ltL a.l b.l=true∨(a.l=b.l∧(ltL a.r b.r=true∨(a.r=b.r∧a.c<b.c))):=by
 unfold ltK cmpK or3
 rw[decide_eq_true_eq]
 by_cases h1:a.l=b.l
 ·have z1:=(cmpL_zero a.l b.l).2 h1
  rw[if_neg (by simpa using z1)]
  have i1:ltL a.l b.l≠true:=by rw[h1,ltL_irrefl];simp
  by_cases h2:a.r=b.r
  ·have z2:=(cmpL_zero a.r b.r).2 h2
   have i2:ltL a.r b.r≠true:=by rw[h2,ltL_irrefl];simp
   rw[if_neg (by simpa using z2)]
   unfold cmpI
   constructor
   ·intro h
    right;refine⟨h1,.inr ⟨h2,?_⟩⟩
    by_cases h3:a.c<b.c
    ·exact h3
    ·rw[if_neg h3] at h;split at h<;>exact absurd h (by decide)
   ·rintro (h | ⟨_,h | ⟨_,h⟩⟩)
    ·exact absurd h i1
    ·exact absurd h i2
    ·rw[if_pos h];decide
  ·have z2:cmpL a.r b.r≠0:=fun h=>h2 ((cmpL_zero _ _).1 h)
   rw[if_pos z2,cmpL_lt]
   constructor
   ·intro h;exact .inr ⟨h1,.inl h⟩
   ·rintro (h | ⟨_,h | ⟨h,_⟩⟩)
    ·exact absurd h i1
    ·exact h
    ·exact absurd h h2
 ·have z1:cmpL a.l b.l≠0:=fun h=>h1 ((cmpL_zero _ _).1 h)
  rw[if_pos z1,cmpL_lt]
  constructor
  ·intro h;exact .inl h
  ·rintro (h | ⟨h,_⟩)
   ·exact h
   ·exact absurd h h1
theorem ltK_irrefl (a:Ky):ltK a a=false:=by
 rw[Bool.eq_false_iff,Ne,ltK_iff]
 simp[ltL_irrefl]
theorem ltK_trans (a b c:Ky) (h1:ltK a b=true) (h2:ltK b c=true):ltK a c=true:=by
 rw[ltK_iff] at *
 rcases h1 with h1 | ⟨e1,h1⟩
 ·rcases h2 with h2 | ⟨e2,h2⟩
  ·exact .inl (ltL_trans _ _ _ h1 h2)
  ·rw[← e2];exact .inl h1
 ·rcases h2 with h2 | ⟨e2,h2⟩
  ·rw[e1];exact .inl h2
  ·refine .inr ⟨e1.trans e2,?_⟩
   rcases h1 with h1 | ⟨f1,h1⟩
   ·rcases h2 with h2 | ⟨f2,h2⟩
    ·exact .inl (ltL_trans _ _ _ h1 h2)
    ·rw[← f2];exact .inl h1
   ·rcases h2 with h2 | ⟨f2,h2⟩
    ·rw[f1];exact .inl h2
    ·exact .inr ⟨f1.trans f2,by omega⟩
theorem ltK_total (a b:Ky):ltK a b=true∨a=b∨ltK b a=true:=by
 rw[ltK_iff,ltK_iff]
 rcases ltL_total a.l b.l with h | h | h
 ·exact .inl (.inl h)
 ·rcases ltL_total a.r b.r with h2 | h2 | h2
  ·exact .inl (.inr ⟨h,.inl h2⟩)
  ·rcases Int.lt_trichotomy a.c b.c with h3 | h3 | h3
   ·exact .inl (.inr ⟨h,.inr ⟨h2,h3⟩⟩)
   ·right;left;cases a;cases b;simp_all
   ·exact .inr (.inr (.inr ⟨h.symm,.inr ⟨h2.symm,h3⟩⟩))
  ·exact .inr (.inr (.inr ⟨h.symm,.inl h2⟩))
 ·exact .inr (.inr (.inl h))
theorem ltK_ntrans (a b c:Ky) (h1:ltK a b=false) (h2:ltK b c=false):ltK a c=false:=by
 rw[Bool.eq_false_iff] at *
 intro h
 rcases ltK_total a b with h3 | rfl | h3
 ·exact h1 h3
 ·exact h2 h
 ·exact h2 (ltK_trans _ _ _ h3 h)
def addK:List Ky→Ky→List Ky
 | [],x=>[x]
 | y::ys,x=>if x=y then y::ys else if ltK x y=true then x::y::ys else y::addK ys x
def AscK (l:List Ky):Prop:=l.Pairwise (fun a b=>ltK a b=true)
theorem mem_addK (x z:Ky):∀ l,z∈addK l x↔z=x∨z∈l
 | []=>by simp[addK]
 | y::ys=>by
  unfold addK
  by_cases h:x=y
  ·rw[if_pos h];subst h;simp
  ·rw[if_neg h]
   by_cases h2:ltK x y=true
   ·rw[if_pos h2];simp
   ·rw[if_neg h2,List.mem_cons,mem_addK x z ys,List.mem_cons]
    constructor
    ·rintro (h | h | h)<;>simp[h]
    ·rintro (h | h | h)<;>simp[h]
theorem asc_addK (x:Ky):∀ l,AscK l→AscK (addK l x)
 | [],_=>by simp[addK,AscK]
 | y::ys,h=>by
  unfold addK
  have h0:=List.pairwise_cons.1 h
  by_cases h1:x=y
  ·rw[if_pos h1];exact h
  ·rw[if_neg h1]
   by_cases h2:ltK x y=true
   ·rw[if_pos h2]
    exact List.pairwise_cons.2 ⟨fun z hz=>by
     rcases List.mem_cons.1 hz with rfl | hz
     ·exact h2
     ·exact ltK_trans _ _ _ h2 (h0.1 z hz),h⟩
   ·rw[if_neg h2]
    refine List.pairwise_cons.2 ⟨fun z hz=>?_,asc_addK x ys h0.2⟩
    rcases (mem_addK x z ys).1 hz with rfl | hz
    ·rcases ltK_total z y with h3 | h3 | h3
     ·exact absurd h3 h2
     ·exact absurd h3 h1
     ·exact h3
    ·exact h0.1 z hz
theorem asc_eq {l l':List Ky} (h:AscK l) (h':AscK l') (hm:∀ x,x∈l↔x∈l'):l=l':=by
 have nd:∀ {m:List Ky},AscK m→m.Nodup:=fun hm=>hm.imp (fun {a b} hab e=>by rw[e,ltK_irrefl] at hab;cases hab)
 have hp:l.Perm l':=(List.perm_ext_iff_of_nodup (nd h) (nd h')).2 hm
 refine List.Perm.eq_of_pairwise (le:=fun a b=>ltK a b=true) (fun a b _ _ h1 h2=>?_) h h' hp
 have:=ltK_trans _ _ _ h1 h2
 rw[ltK_irrefl] at this
 cases this
mutual
def keysP:Prd→List Ky
 | .mk k l r c ks=>(if k=0 then [⟨l,r,c⟩] else [])++keysL ks
def keysL:List Prd→List Ky
 | []=>[]
 | p::ps=>keysP p++keysL ps
end
theorem keysL_append (a b:List Prd):keysL (a++b)=keysL a++keysL b:=by
 induction a with
 | nil=>rfl
 | cons p ps ih=>simp only[List.cons_append,keysL,ih,List.append_assoc]
theorem keysL_mem (x:Ky):∀ ks,x∈keysL ks↔∃ q∈ks,x∈keysP q
 | []=>by simp[keysL]
 | p::ps=>by simp[keysL,keysL_mem x ps]
mutual
theorem keysP_len:∀ p:Prd,(keysP p).length≤cntP p
 | .mk k l r c ks=>by
  unfold keysP cntP
  have:=keysL_len ks
  rw[List.length_append]
  split<;>simp<;>omega
theorem keysL_len:∀ ks:List Prd,(keysL ks).length≤cntL ks
 | []=>by simp[keysL,cntL]
 | p::ps=>by
  have:=keysP_len p
  have:=keysL_len ps
  unfold keysL cntL
  rw[List.length_append]
  omega
end
def atomsP (p:Prd):List Ky:=(keysP p).foldl addK []
theorem foldK_mem (x:Ky):∀ (l acc:List Ky),x∈l.foldl addK acc↔x∈acc∨x∈l
 | [],acc=>by simp
 | y::ys,acc=>by
  rw[List.foldl_cons,foldK_mem x ys,mem_addK,List.mem_cons]
  constructor
  ·rintro ((h | h) | h)<;>simp[h]
  ·rintro (h | h | h)<;>simp[h]
theorem foldK_asc:∀ (l acc:List Ky),AscK acc→AscK (l.foldl addK acc)
 | [],acc,h=>h
 | y::ys,acc,h=>foldK_asc ys _ (asc_addK y acc h)
theorem atomsP_mem (p:Prd) (x:Ky):x∈atomsP p↔x∈keysP p:=by unfold atomsP;rw[foldK_mem];simp
theorem atomsP_asc (p:Prd):AscK (atomsP p):=foldK_asc _ _ .nil
end
section
theorem run_app (p:Nat→Bool) (s r:List Nat) (h:∀ y∈s,p y=true) (hr:r=[]∨p (r.getD 0 0)=false):runN p (s++r)=s.length:=by
 unfold runN
 rw[List.takeWhile_append_of_pos h]
 rcases hr with rfl | hr
 ·simp
 ·cases r with
  | nil=>simp
  | cons c r =>
   have:p c=false:=by simpa using hr
   rw[List.takeWhile_cons,this]
   simp
end
end Go.Proofs.YtmkdfbelbcocpaaGreatDoor
