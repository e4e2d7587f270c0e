import Derived.DeepKeys4
import Derived.Maps.RangeWalk
import Derived.Maps.Own
import Derived.Maps.OwnSet
import Derived.Test.YtmkdfbelbcocpaaGreatDoorCU13
set_option linter.unusedVariables false
set_option linter.unusedSimpArgs false
set_option maxHeartbeats 8000000
set_option maxRecDepth 100000
namespace Go.Proofs.YtmkdfbelbcocpaaGreatDoor
section
open Go.RowKit Go.Sort Go.Maps
structure KyOk (k:Ky):Prop where
 lb:∀ y∈k.l,y<256
 rb:∀ y∈k.r,y<256
 ll:k.l.length≤maxLen
 rl:k.r.length≤maxLen
 lo:-9223372036854775808≤k.c
 hi:k.c≤9223372036854775807
theorem KyOk.bytes {k:Ky} (h:KyOk k):KyB k:=⟨h.lb,h.rb⟩
theorem laidOutA:laidOutB Tryz.prog=true:=by kernel_rfl
theorem rowA:(123:TypeId) < Tryz.prog.types.size:=of_decide_eq_true (by kernel_rfl)
theorem deepA:Tryz.prog.keyTypeAt 2 123=true:=by kernel_rfl
theorem kyLaw0:WideMaps.KeyLaw Tryz.prog 123:=deep_law_laid laidOutA (m:=2) (by omega) rowA deepA (by rw[Tryz.underlying123])
theorem kyLaw:Keyed Tryz.prog 123:=Keyed.of_law kyLaw0
def litKy (k:Ky):Lit:=.string (keyBytes [.string (strN k.l).data.toList,.string (strN k.r).data.toList,.int .i64 k.c])
theorem ky_type:Tryz.prog.keyType 123=true:=by kernel_rfl
theorem ky_cells:Tryz.prog.cellsOf 123=3:=by kernel_rfl
theorem ky_fuel:∃ n,Tryz.prog.types.size+1=n+2:=by
 refine⟨Tryz.prog.types.size-1,?_⟩
 have h:1≤Tryz.prog.types.size:=of_decide_eq_true (by kernel_rfl)
 omega
theorem keyOf_ky (k:Ky) (h:KyOk k):keyOf Tryz.prog 123 (.agg (kyC k).toArray)=some (litKy k):=by
 obtain⟨n,hn⟩:=ky_fuel
 have hf:(Value.agg (kyC k).toArray).formed Tryz.prog 123=true:=by
  unfold Value.formed
  rw[Tryz.underlying123]
  simp[kyC,ky_cells]
 have h1:(strN k.l).size≤maxLen:=by rw[strN_size];exact h.ll
 have h2:(strN k.r).size≤maxLen:=by rw[strN_size];exact h.rl
 have h3:(Lit.int .i64 k.c).wf=true:=by
  have e1:IntKind.i64.min = -9223372036854775808:=by decide
  have e2:IntKind.i64.max=9223372036854775807:=by decide
  show (decide (IntKind.i64.min≤k.c)&&decide (k.c≤IntKind.i64.max))=true
  rw[e1,e2,decide_eq_true h.lo,decide_eq_true h.hi]
  rfl
 have c9:Tryz.prog.cellsOf 9=1:=by kernel_rfl
 have c3:Tryz.prog.cellsOf 3=1:=by kernel_rfl
 unfold keyOf
 rw[Tryz.underlying123]
 simp only[ky_type,hf,Bool.and_self,if_true,hn]
 have hx:Tryz.prog.keyLits (n+2) 123 (kyC k)=some [.string (strN k.l).data.toList,.string (strN k.r).data.toList,.int .i64 k.c]:=by
  unfold Program.keyLits
  rw[Tryz.underlying123]
  simp[kyC,ky_cells,c9,c3,Program.keyLits,Tryz.underlying9,Tryz.underlying3,h1,h2,h3]
 show (Tryz.prog.keyLits (n+2) 123 ((kyC k).toArray.toList)).map (fun ls=>Lit.string (keyBytes ls))=some (litKy k)
 rw[List.toList_toArray,hx]
 rfl
theorem litKy_inj (k k':Ky) (h:KyOk k) (h':KyOk k') (e:litKy k=litKy k'):k=k':=by
 have h1:=keyOf_ky k h
 have h2:=keyOf_ky k' h'
 rw[e] at h1
 have:=kyLaw.inj h1 h2
 obtain⟨l,r,c⟩:=k
 obtain⟨l',r',c'⟩:=k'
 simp only[kyC,Value.agg.injEq,List.toArray_inj,Array.mk.injEq,List.cons.injEq,Value.string.injEq,Value.int.injEq,and_true,true_and] at this
 obtain⟨e1,e2,e3⟩:=this
 have f1:l=l':=map_u8_inj l l' h.lb h'.lb (by rw[← strN_toList,← strN_toList,e1])
 have f2:r=r':=map_u8_inj r r' h.rb h'.rb (by rw[← strN_toList,← strN_toList,e2])
 subst f1;subst f2;subst e3
 rfl
end
section
def optN (l:List Nat):Bool:=l==[]||validN l
def inC (c:Int):Bool:=decide (-1099511627776≤c)&&decide (c<1099511627776)
def listB (k:Int) (n:Nat) (c:Int):Bool:=((k==1||k==2)&&decide (2≤n)&&c==0)||(k==3&&decide (1≤c)&&decide (c≤(n:Int)))
mutual
def formP:Prd→Bool
 | .mk k l r c ks=>if k=0 then (ks.isEmpty&&optN l&&optN r&&inC c) else (listB k ks.length c&&l==[]&&r==[]&&formL ks)
def formL:List Prd→Bool
 | []=>true
 | p::ps=>formP p&&formL ps
end
def validP (p:Prd):Bool:=smallP p&&formP p
theorem formL_iff:∀ ks:List Prd,formL ks=true↔∀ q∈ks,formP q=true
 | []=>by simp[formL]
 | p::ps=>by simp[formL,formL_iff ps]
theorem innB_lt {c:Nat} (h:innB c=true):c<128:=by
 simp only[innB,letB,digB,Bool.or_eq_true,Bool.and_eq_true,decide_eq_true_eq,beq_iff_eq] at h
 omega
theorem name_byte {l:List Nat} (h:nameB l=true):(∀ y∈l,y<128∧y≠46)∧l.length≤20:=by
 simp only[nameB,Bool.and_eq_true,decide_eq_true_eq] at h
 refine⟨fun y hy=>?_,h.1.2⟩
 have:=List.all_eq_true.1 (runN_all innB l ▸ h.2) y hy
 refine⟨innB_lt this,?_⟩
 rintro rfl
 exact absurd this (by decide)
theorem valid_parts {l:List Nat} (h:validN l=true):∃ a b,l=a++46::b∧freeB a=true∧freeB b=true∧(∀ y∈a,y<128∧y≠46)∧(∀ y∈b,y<128∧y≠46)∧a.length≤20∧b.length≤20:=by
 unfold validN at h
 simp only[Bool.and_eq_true,decide_eq_true_eq] at h
 obtain⟨h0,h1,h2⟩:=h
 have f1:=name_byte (l:=l.take (runN notDot l)) (by unfold freeB at h1;simp at h1;exact h1.1)
 have f2:=name_byte (l:=l.drop (runN notDot l+1)) (by unfold freeB at h2;simp at h2;exact h2.1)
 refine⟨l.take (runN notDot l),l.drop (runN notDot l+1),?_,h1,h2,f1.1,f2.1,f1.2,f2.2⟩
 have hd:l[runN notDot l]?=some 46:=by
  have hx:l=l.takeWhile notDot++l.dropWhile notDot:=(List.takeWhile_append_dropWhile).symm
  have hl:(l.takeWhile notDot).length=runN notDot l:=rfl
  have hne:l.dropWhile notDot≠[]:=by
   intro h
   rw[h,List.append_nil] at hx
   rw[← hl,← hx] at h0
   exact absurd h0 (Nat.lt_irrefl _)
  obtain⟨c,r,hcr⟩:=List.exists_cons_of_ne_nil hne
  have hc:notDot c=false:=by
   have:=List.head_dropWhile_not notDot hne
   simpa [hcr] using this
  have:c=46:=by simpa [notDot] using hc
  subst this
  have e:l[runN notDot l]?=(l.takeWhile notDot++l.dropWhile notDot)[runN notDot l]?:=congrArg (fun m=>m[runN notDot l]?) hx
  rw[e,List.getElem?_append_right (by rw[hl];exact Nat.le_refl _),hl,Nat.sub_self,hcr]
  rfl
 have h1:l=l.take (runN notDot l)++l.drop (runN notDot l):=(List.take_append_drop _ _).symm
 have h2:l.drop (runN notDot l)=46::l.drop (runN notDot l+1):=by
  have:=(List.getElem?_eq_some_iff.1 hd)
  rw[List.drop_eq_getElem_cons this.1,this.2]
 rw[h2] at h1
 exact h1
theorem optN_ok {l:List Nat} (h:optN l=true):(∀ y∈l,y<256)∧l.length≤41:=by
 unfold optN at h
 rw[Bool.or_eq_true,beq_iff_eq] at h
 rcases h with rfl | h
 ·simp
 ·obtain⟨a,b,rfl,_,_,h1,h2,h3,h4⟩:=valid_parts h
  refine⟨fun y hy=>?_,by simp;omega⟩
  rcases List.mem_append.1 hy with hy | hy
  ·have:=(h1 y hy).1;omega
  ·rcases List.mem_cons.1 hy with rfl | hy
   ·omega
   ·have:=(h2 y hy).1;omega
theorem ky_ok {l r:List Nat} {c:Int} (hl:optN l=true) (hr:optN r=true) (hc:inC c=true):KyOk ⟨l,r,c⟩:=by
 have h1:=optN_ok hl
 have h2:=optN_ok hr
 unfold inC at hc
 simp only[Bool.and_eq_true,decide_eq_true_eq] at hc
 have hm:41≤maxLen:=by decide
 exact⟨h1.1,h2.1,Nat.le_trans h1.2 hm,Nat.le_trans h2.2 hm,by show _≤c;omega,by show c≤_;omega⟩
mutual
theorem form_keys:∀ p:Prd,formP p=true→∀ k∈keysP p,KyOk k
 | .mk k l r c ks,h=>by
  unfold formP at h
  unfold keysP
  by_cases h0:k=0
  ·rw[if_pos h0] at h ⊢
   simp only[Bool.and_eq_true] at h
   have hk:ks=[]:=by simpa using h.1.1.1
   subst hk
   intro x hx
   rw[show keysL []=[] from rfl,List.append_nil,List.mem_singleton] at hx
   subst hx
   exact ky_ok h.1.1.2 h.1.2 h.2
  ·rw[if_neg h0] at h ⊢
   simp only[Bool.and_eq_true] at h
   intro x hx
   rw[List.nil_append] at hx
   exact form_keysL ks h.2 x hx
theorem form_keysL:∀ ks:List Prd,formL ks=true→∀ k∈keysL ks,KyOk k
 | [],_=>by simp[keysL]
 | p::ps,h=>by
  unfold formL at h
  rw[Bool.and_eq_true] at h
  intro x hx
  unfold keysL at hx
  rcases List.mem_append.1 hx with hx | hx
  ·exact form_keys p h.1 x hx
  ·exact form_keysL ps h.2 x hx
end
theorem keysL_take (ks:List Prd) (i:Nat) (q:Prd) (h:ks[i]?=some q):keysL (ks.take (i+1))=keysL (ks.take i)++keysP q:=by
 obtain⟨hi,rfl⟩:=List.getElem?_eq_some_iff.1 h
 rw[List.take_add_one,List.getElem?_eq_getElem hi,keysL_append]
 simp[keysL]
end
section
def conK (k:Ky):Bool:=k.l==k.r
mutual
def truthP (f:Ky→Bool):Prd→Bool
 | .mk k l r c ks=>if k=0 then f ⟨l,r,c⟩ else if k=1 then cntT f ks==ks.length else if k=2 then decide (0<cntT f ks) else decide (c≤(cntT f ks:Int))
def cntT (f:Ky→Bool):List Prd→Nat
 | []=>0
 | p::ps=>(if truthP f p=true then 1 else 0)+cntT f ps
end
theorem cntT_append (f:Ky→Bool) (a b:List Prd):cntT f (a++b)=cntT f a+cntT f b:=by
 induction a with
 | nil=>simp[cntT]
 | cons p ps ih=>simp only[List.cons_append,cntT,ih];omega
theorem cntT_take (f:Ky→Bool) (ks:List Prd) (i:Nat) (q:Prd) (h:ks[i]?=some q):cntT f (ks.take (i+1))=cntT f (ks.take i)+(if truthP f q=true then 1 else 0):=by
 obtain⟨hi,rfl⟩:=List.getElem?_eq_some_iff.1 h
 rw[List.take_add_one,List.getElem?_eq_getElem hi,cntT_append]
 simp[cntT]
theorem cntT_le (f:Ky→Bool):∀ ks,cntT f ks≤ks.length
 | []=>by simp[cntT]
 | p::ps=>by
  have:=cntT_le f ps
  simp only[cntT,List.length_cons]
  split<;>omega
end
section
open Go.RowKit Go.Sort Go.Maps
def SetK (w:World) (b:Nat) (S:List Ky):Prop :=
 ∃ D:DataW Unit,w.ownsMap Tryz.prog 123 (plainElem Tryz.prog 4) b S.length D∧(∀ l,has D l=true↔∃ k∈S,litKy k=l)∧∀ k∈S,∀ zd,D.atKey (litKy k) zd = .lit (.bool true)
theorem grown_of_below {w w':World} (h:Below w.heap.size w w') (row:Option Nat):w.grownBy w' row:=⟨h.os,h.tape,h.output,h.size,fun i hi _=>h.block i hi⟩
theorem only_of_grown {w w':World} {b:Nat} (h:w.grownBy w' (some b)):Only w w' (· = b):=⟨h.os,h.tape,h.output,h.size,fun i hi hp=>h.block i hi (fun e=>hp (Option.some.inj e))⟩
theorem SetK.lt {w:World} {b:Nat} {S:List Ky} (h:SetK w b S):b<w.heap.size:=by
 obtain⟨D,h1,_⟩:=h
 exact h1.lt
theorem SetK.step {w w':World} {b:Nat} {S:List Ky} (h:SetK w b S) (hb:Below w.heap.size w w'):SetK w' b S:=by
 obtain⟨D,h1,h2⟩:=h
 exact⟨D,h1.kept (grown_of_below hb none) (by simp),h2⟩
theorem SetK.only {w w':World} {b:Nat} {S:List Ky} {p:Nat→Prop} (h:SetK w b S) (hb:Only w w' p) (hp:¬ p b):SetK w' b S:=by
 have hl:=h.lt
 obtain⟨D,h1,h2⟩:=h
 obtain⟨es,clock,e1,F,hs,hD⟩:=h1
 exact⟨D,⟨es,clock,(hb.block b hl hp).trans e1,F,hs,hD⟩,h2⟩
theorem SetK.nil (w:World):SetK (w.alloc (.map #[] 0)) w.heap.size []:=by
 refine⟨_,World.ownsMap_made w _ _ _,fun l=>?_,fun k hk=>absurd hk List.not_mem_nil⟩
 constructor
 ·intro h;cases h
 ·rintro⟨k,hk,_⟩;exact absurd hk List.not_mem_nil
theorem litKy_key (k:Ky) (h:KyOk k):WideAt.IsKeyLit (litKy k):=kyLaw.key (keyOf_ky k h)
theorem SetK.put {w w':World} {b:Nat} {S:List Ky} {D:DataW Unit} (hS:∀ k∈S,KyOk k) (k:Ky) (hk:KyOk k) (h:w.ownsMap Tryz.prog 123 (plainElem Tryz.prog 4) b S.length D) (h1:∀ l,has D l=true↔∃ k∈S,litKy k=l) (h2:∀ k∈S,∀ zd,D.atKey (litKy k) zd = .lit (.bool true))
  (h':w'.ownsMap Tryz.prog 123 (plainElem Tryz.prog 4) b (S.length+1) (D.put (litKy k) (.lit (.bool true)))):SetK w' b (S++[k]):=by
 refine⟨_,by rw[List.length_append];exact h',fun l=>?_,fun x hx zd=>?_⟩
 ·by_cases he:l=litKy k
  ·subst he
   rw[has_put_same h.isMap (litKy_key k hk)]
   exact⟨fun _=>⟨k,by simp,rfl⟩,fun _=>rfl⟩
  ·rw[has_put_other he,h1]
   constructor
   ·rintro⟨x,hx,hl⟩;exact⟨x,by simp[hx],hl⟩
   ·rintro⟨x,hx,hl⟩
    rcases List.mem_append.1 hx with hx | hx
    ·exact⟨x,hx,hl⟩
    ·rw[List.mem_singleton] at hx
     subst hx
     exact absurd hl.symm he
 ·by_cases he:litKy x=litKy k
  ·rw[he,atKey_put_same h.isMap (litKy_key k hk)]
  ·rw[atKey_put_other he]
   rcases List.mem_append.1 hx with hx | hx
   ·exact h2 x hx zd
   ·rw[List.mem_singleton] at hx
    subst hx
    exact absurd rfl he
theorem col_atom (w:World) (l r:List Nat) (c:Int) (ao:Option Addr) (cap b:Nat) (S:List Ky) (hS:∀ k∈S,KyOk k) (hk:KyOk ⟨l,r,c⟩) (h:SetK w b S) (hn:S.length<1000000) :
  Calls Tryz.prog 156 #[.agg #[.int .i64 0,.string (strN l),.string (strN r),.int .i64 c,.slice ao 0 cap],.map (some b)] w fun e w'=>e = .returned (.tuple #[])∧SetK w' b (S++[⟨l,r,c⟩])∧Only w w' (· = b):=by
 have bx:=(Below.refl w.heap.size w).alloc (Nat.le_refl _) (.cells #[.int .i64 0,.string (strN l),.string (strN r),.int .i64 c,.slice ao 0 cap] 25)
 have S1:=ħ (h.step bx)
 have O1:=ħ (Only.of_below (p:=(· = b)) bx)
 have X1:Hid (HasV (w.alloc (.cells #[.int .i64 0,.string (strN l),.string (strN r),.int .i64 c,.slice ao 0 cap] 25)) w.heap.size 25 [.int .i64 0,.string (strN l),.string (strN r),.int .i64 c,.slice ao 0 cap]):=ħ (heap_alloc_new w _)
 have HK:=ħ (fun w=>keyOf_any 0 l r c (.slice ao 0 cap) rfl w)
 have HKO:=ħ hk
 have HKY:=ħ (keyOf_ky _ hk)
 have HS:=ħ hS
 have HN:Hid (S.length<maxLen):=ħ (Nat.lt_trans hn (by decide))
 have hkc:(keyC l r c).toArray=(kyC ⟨l,r,c⟩).toArray:=rfl
 rw[hkc] at HK
 have XB:Hid (b<w.heap.size):=ħ h.lt
 have HKC:Hid ((kyC ⟨l,r,c⟩).toArray=(kyC ⟨l,r,c⟩).toArray):=ħ rfl
 clear bx h hk hS hn hkc
 generalize hKY:(⟨l,r,c⟩:Ky)=K at *
 clear hKY
 generalize strN l=y at *
 generalize strN r=z at *
 generalize (kyC K).toArray=kv at *
 go_enter Tryz.func156,Tryz.ntmps156
 go_upto_region 1 with (fail)
 generalize w.alloc (.cells #[.int .i64 0,.string y,.string z,.int .i64 c,.slice ao 0 cap] 25)=w1 at *
 have x0:=X1.o.cell 0 _ rfl
 go_wp2_with (refine wpList_load_row rfl 25 (.tmp 2) rfl w.heap.size ?x1 25 (rawC 0 y z c ao 0 cap).toArray (0,0) _ X1.o Tryz.underlying25 rfl (inf_pred _ rfl) ?_;(case x1=>rfl))
 refine (HK.o w1).mono ?_
 rintro e w2 ⟨rfl,b2⟩
 have S2:=ħ (S1.o.step b2)
 have O2:=ħ (O1.o.step b2)
 have X2:=ħ (X1.o.step b2)
 clear b2 x0 X1 S1 O1
 obtain⟨D,hown,hh,ha⟩:=S2.o
 have HH:=ħ hh
 have HA:=ħ ha
 have HO:=ħ hown
 clear hh ha hown
 go_wp2_with (at_mapUpdate;refine wpList_mapUpdate_own _ rfl (.tmp 9) (.tmp 11) _ 185 rfl 123 4 kyLaw Tryz.underlying185 (plainElem Tryz.prog 4) b S.length D rfl HO.o HN.o (.agg kv) (.bool true) (litKy K) rfl rfl HKY.o (.lit (.bool true)) [] (plainElem_bool Tryz.underlying4 true) ?_;intro w3 hown3 hgrow3;have S3:=ħ (SetK.put HS.o K HKO.o HO.o HH.o HA.o hown3);have O3:=ħ (O2.o.trans (only_of_grown hgrow3));have X3:=ħ (X2.o.grownBy hgrow3 (by intro e;have:=XB.o;have:=Option.some.inj e;omega));have x4:=X3.o.cell 4 _ rfl;clear hown3 hgrow3)
 refine wp_loop_rounds 1 ?_
 rw[rounds_succ];go_wp2
 go_end0
 exact⟨rfl,S3.o,O3.o⟩
theorem col_node (w:World) (P:Nat→Prop) (κ:Int) (l r:List Nat) (c:Int) (ks:List Prd) (ao:Option Addr) (n cap:Nat) (hκ:κ≠0) (hn:n=ks.length) (hbig:n≤1000000)
  (hk:ks=[]∨∃ g off,ao=some ⟨g,off,none⟩∧P g∧g<w.heap.size∧KidsC w P ks g off)
  (b:Nat) (S:List Ky) (h:SetK w b S) (hPb:∀ g,P g→g≠b)
  (ih:∀ (q:Prd) (w:World) (vs:List Value) (pre:List Prd),q∈ks→pre++[q] <+: ks→PredC w P q vs→SetK w b (S++keysL pre)→Calls Tryz.prog 156 #[.agg vs.toArray,.map (some b)] w fun e w'=>e = .returned (.tuple #[])∧SetK w' b (S++keysL pre++keysP q)∧Only w w' (· = b)) :
  Calls Tryz.prog 156 #[.agg #[.int .i64 κ,.string (strN l),.string (strN r),.int .i64 c,.slice ao n cap],.map (some b)] w fun e w'=>e = .returned (.tuple #[])∧SetK w' b (S++keysL ks)∧Only w w' (· = b):=by
 have HK:=ħ hk
 have IH:=ħ ih
 have HN:=ħ hn
 have HPB:=ħ hPb
 have hκb:(κ==0)=false:=beq_eq_false_iff_ne.mpr hκ
 have bx:=(Below.refl w.heap.size w).alloc (Nat.le_refl _) (.cells #[.int .i64 κ,.string (strN l),.string (strN r),.int .i64 c,.slice ao n cap] 25)
 have S1:=ħ (h.step bx)
 have O1:=ħ (Only.of_below (p:=(· = b)) bx)
 have X1:Hid (HasV (w.alloc (.cells #[.int .i64 κ,.string (strN l),.string (strN r),.int .i64 c,.slice ao n cap] 25)) w.heap.size 25 [.int .i64 κ,.string (strN l),.string (strN r),.int .i64 c,.slice ao n cap]):=ħ (heap_alloc_new w _)
 clear bx h hk ih hn hPb hκ
 generalize strN l=y at *
 generalize strN r=z at *
 go_enter Tryz.func156,Tryz.ntmps156
 go_upto_region 1 with (fail)
 generalize w.alloc (.cells #[.int .i64 κ,.string y,.string z,.int .i64 c,.slice ao n cap] 25)=w1 at *
 have x0:=X1.o.cell 0 _ rfl
 have x4:=X1.o.cell 4 _ rfl
 go_wp2_with fail
 clear x4 x0 X1
 go_loopw [15] (fun cc wr=>∃ (i:Nat),cc = .int .i64 i∧i≤n∧Hid (SetK wr b (S++keysL (ks.take i)))∧Hid (Only w wr (· = b))) (fun c _=>(n-intOf c).toNat)
 case atStart=>exact⟨0,rfl,by omega,ħ (by simpa [keysL] using S1.o),O1⟩
 case round =>
  clear S1 O1
  obtain⟨i,rfl,hi,hq,ho⟩:=hrel
  have e2:IntKind.i64.wrap ((i:Int)+1)=((i+1:Nat):Int):=IntWalk.i64_in _ (by omega)
  by_cases hlt:i<n
  ·have ii:(i:Int)<n:=by omega
   have HQ:Hid (∃ q,ks[i]?=some q∧∃ g off,ao=some ⟨g,off,none⟩∧g<w.heap.size∧∃ vs,PredC wr P q vs∧Reads wr g (off+i*5) vs):=ħ (by
    have hl:i<ks.length:=by rw[← HN.o];exact hlt
    refine⟨ks[i],List.getElem?_eq_getElem hl,?_⟩
    rcases HK.o with h | ⟨g,off,h1,h2,h3,h4⟩
    ·rw[h] at hl;exact absurd hl (Nat.not_lt_zero _)
    ·obtain⟨vs,hv1,hv2⟩:=KidsC.at ks g off i _ (List.getElem?_eq_getElem hl) h4
     exact⟨g,off,h1,h3,vs,PredC.keep (fun x hx hl=>ho.o.block x hl (HPB.o x hx)) ho.o.size (fun x hx _=>hx) _ _ hv1,hv2.of_block (ho.o.block g h3 (HPB.o g h2))⟩)
   obtain⟨q,hqi,g,off,hao,hg,vs,hpc,hrd⟩:=HQ.o
   clear HQ
   have HQI:=ħ hqi
   obtain⟨xa,xn,xc,hvf,-⟩:=hpc.form
   rw[hvf] at hrd hpc
   have PC:=ħ hpc
   have s0:=hrd 0 _ rfl
   have s1:=hrd 1 _ rfl
   have s2:=hrd 2 _ rfl
   have s3:=hrd 3 _ rfl
   have s4:=hrd 4 _ rfl
   clear hrd hpc hvf vs hqi
   rw[Nat.add_zero] at s0
   have HAO:=ħ hao
   subst hao
   generalize q.k=q0 at *
   generalize strN q.l=q1 at *
   generalize strN q.r=q2 at *
   generalize q.c=q3 at *
   go_wp2_with fail
   have bx:=(Below.refl wr.heap.size wr).alloc (Nat.le_refl _) (.cells #[.int .i64 q0,.string q1,.string q2,.int .i64 q3,.slice xa xn xc] 25)
   have hq2:=ħ (hq.o.step bx)
   have ho2:=ħ (ho.o.step bx)
   have PX:=ħ (PC.o.below bx)
   clear s0 s1 s2 s3 s4 bx hq ho PC
   generalize wr.alloc (.cells #[.int .i64 q0,.string q1,.string q2,.int .i64 q3,.slice xa xn xc] 25)=wx at *
   have HPRE:Hid (ks.take i++[q] <+: ks):=ħ (by
    have:ks.take i++[q]=ks.take (i+1):=by rw[List.take_add_one,HQI.o];rfl
    rw[this];exact List.take_prefix _ _)
   refine (IH.o q wx _ (ks.take i) (List.mem_of_getElem? HQI.o) HPRE.o PX.o hq2.o).mono ?_
   rintro e w3 ⟨rfl,s3,o3⟩
   have S3:=ħ (show SetK w3 b (S++keysL (ks.take (i+1))) by rw[keysL_take ks i q HQI.o,← List.append_assoc];exact s3)
   have O3:=ħ (ho2.o.trans o3)
   clear s3 o3 hq2 ho2
   go_wp2
   go_roundw
   case rel=>exact⟨i+1,by go_num,by omega,S3,O3⟩
   case measure=>simp only[intOf];omega
  ·have ii:¬ ((i:Int)<n):=by omega
   have HT:Hid (ks.take i=ks):=ħ (by rw[show i=ks.length by rw[← HN.o];omega,List.take_length])
   go_wp2
   go_end0
   exact⟨rfl,by have:=hq.o;rwa [HT.o] at this,ho.o⟩
theorem collect_any:∀ (N:Nat) (p:Prd) (w:World) (P:Nat→Prop) (vs:List Value) (b:Nat) (S:List Ky),cntP p≤N→formP p=true→S.length+cntP p≤1000000→(∀ k∈S,KyOk k)→PredC w P p vs→SetK w b S→(∀ g,P g→g≠b) →
  Calls Tryz.prog 156 #[.agg vs.toArray,.map (some b)] w fun e w'=>e = .returned (.tuple #[])∧SetK w' b (S++keysP p)∧Only w w' (· = b)
 | 0,p,w,P,vs,b,S,hN,_,_,_,_,_,_=>by have:=cnt_pos p;omega
 | N+1,.mk κ l r c ks,w,P,vs,b,S,hN,hf,hc,hS,h,hs,hPb=>by
  have hc2:cntL ks≤N:=by unfold cntP at hN;omega
  have hl:=len_le_cntL ks
  have hc3:S.length+(1+cntL ks)≤1000000:=by unfold cntP at hc;exact hc
  have HFK:=form_keys _ hf
  unfold PredC at h
  obtain⟨ao,cap,rfl,hk⟩:=h
  unfold formP at hf
  by_cases hκ:κ=0
  ·rw[if_pos hκ] at hf
   simp only[Bool.and_eq_true] at hf
   have hkn:ks=[]:=by simpa using hf.1.1.1
   subst hkn;subst hκ
   have:=col_atom w l r c ao cap b S hS (ky_ok hf.1.1.2 hf.1.2 hf.2) hs (by omega)
   simpa [keysP,keysL] using this
  ·rw[if_neg hκ] at hf
   simp only[Bool.and_eq_true] at hf
   have hfk:=(formL_iff ks).1 hf.2
   have:=col_node w P κ l r c ks ao ks.length cap hκ rfl (by omega) hk b S hs hPb (fun q w' us pre hq hpre hpc hs'=>by
    obtain⟨i,hi⟩:=List.mem_iff_getElem?.1 hq
    have hck:=cnt_kid ks i q hi
    obtain⟨tl,htl⟩:=hpre
    have hcp:cntL pre+cntP q≤cntL ks:=by
     rw[← htl,cntL_append,cntL_append];simp[cntL]
    have hkl:=keysL_len pre
    exact collect_any N q w' P us b (S++keysL pre) (by omega) (hfk q hq) (by rw[List.length_append];omega) (fun k hk'=>by
     rcases List.mem_append.1 hk' with hk' | hk'
     ·exact hS k hk'
     ·obtain⟨q',hq',hkq⟩:=(keysL_mem k pre).1 hk'
      have:q'∈ks:=by rw[← htl];simp[hq']
      exact form_keys q' (hfk q' this) k hkq) hpc hs' hPb)
   have e:keysP (.mk κ l r c ks)=keysL ks:=by unfold keysP;rw[if_neg hκ,List.nil_append]
   rw[e]
   exact this
end
section
def addN:List (List Nat)→List Nat→List (List Nat)
 | [],x=>[x]
 | y::ys,x=>if x=y then y::ys else if ltL x y=true then x::y::ys else y::addN ys x
def AscN (l:List (List Nat)):Prop:=l.Pairwise (fun a b=>ltL a b=true)
theorem mem_addN (x z:List Nat):∀ l,z∈addN l x↔z=x∨z∈l
 | []=>by simp[addN]
 | y::ys=>by
  unfold addN
  by_cases h:x=y
  ·rw[if_pos h];subst h;simp
  ·rw[if_neg h]
   by_cases h2:ltL x y=true
   ·rw[if_pos h2];simp
   ·rw[if_neg h2,List.mem_cons,mem_addN x z ys,List.mem_cons]
    constructor
    ·rintro (h | h | h)<;>simp[h]
    ·rintro (h | h | h)<;>simp[h]
theorem asc_addN (x:List Nat):∀ l,AscN l→AscN (addN l x)
 | [],_=>by simp[addN,AscN]
 | y::ys,h=>by
  unfold addN
  have h0:=List.pairwise_cons.1 h
  by_cases h1:x=y
  ·rw[if_pos h1];exact h
  ·rw[if_neg h1]
   by_cases h2:ltL x y=true
   ·rw[if_pos h2]
    exact List.pairwise_cons.2 ⟨fun z hz=>by
     rcases List.mem_cons.1 hz with rfl | hz
     ·exact h2
     ·exact ltL_trans _ _ _ h2 (h0.1 z hz),h⟩
   ·rw[if_neg h2]
    refine List.pairwise_cons.2 ⟨fun z hz=>?_,asc_addN x ys h0.2⟩
    rcases (mem_addN x z ys).1 hz with rfl | hz
    ·rcases ltL_total z y with h3 | h3 | h3
     ·exact absurd h3 h2
     ·exact absurd h3 h1
     ·exact h3
    ·exact h0.1 z hz
theorem foldN_mem (x:List Nat):∀ (l acc:List (List Nat)),x∈l.foldl addN acc↔x∈acc∨x∈l
 | [],acc=>by simp
 | y::ys,acc=>by
  rw[List.foldl_cons,foldN_mem x ys,mem_addN,List.mem_cons]
  constructor
  ·rintro ((h | h) | h)<;>simp[h]
  ·rintro (h | h | h)<;>simp[h]
theorem foldN_asc:∀ (l acc:List (List Nat)),AscN acc→AscN (l.foldl addN acc)
 | [],acc,h=>h
 | y::ys,acc,h=>foldN_asc ys _ (asc_addN y acc h)
def nmsK (k:Ky):List (List Nat):=[k.l,k.r]
def nmsL (ks:List Ky):List (List Nat):=((ks.flatMap nmsK).filter (fun s=>!s.isEmpty)).foldl addN []
theorem nmsL_asc (ks:List Ky):AscN (nmsL ks):=foldN_asc _ _ .nil
theorem nmsL_mem (ks:List Ky) (x:List Nat):x∈nmsL ks↔x≠[]∧∃ k∈ks,x=k.l∨x=k.r:=by
 unfold nmsL
 rw[foldN_mem]
 simp[nmsK,List.mem_filter,List.mem_flatMap,and_comm]
def namesP (p:Prd):List (List Nat):=nmsL (atomsP p)
def oppK (k:Ky):Ky:=⟨k.r,k.l,-k.c-1⟩
theorem oppK_opp (k:Ky):oppK (oppK k)=k:=by
 cases k with
 | mk l r c=>show (⟨l,r,-(-c-1)-1⟩:Ky)=_;congr 1;omega
mutual
theorem neg_cnt:∀ p,formP p=true→cntP (negP p)=cntP p
 | .mk k l r c ks,h=>by
  unfold formP at h
  rw[negP]
  by_cases hk:k=0
  ·rw[if_pos hk] at h ⊢
   simp only[Bool.and_eq_true] at h
   have hkn:ks=[]:=by simpa using h.1.1.1
   subst hkn;rfl
  ·rw[if_neg hk] at h ⊢
   simp only[Bool.and_eq_true] at h
   rw[cntP,cntP,neg_cntL ks h.2]
theorem neg_cntL:∀ ks,formL ks=true→cntL (negL ks)=cntL ks
 | [],_=>rfl
 | p::ps,h=>by
  unfold formL at h
  rw[Bool.and_eq_true] at h
  rw[negL,cntL,cntL,neg_cnt p h.1,neg_cntL ps h.2]
end
mutual
theorem neg_dep:∀ p,formP p=true→depP (negP p)=depP p
 | .mk k l r c ks,h=>by
  unfold formP at h
  rw[negP]
  by_cases hk:k=0
  ·rw[if_pos hk] at h ⊢
   simp only[Bool.and_eq_true] at h
   have hkn:ks=[]:=by simpa using h.1.1.1
   subst hkn;rfl
  ·rw[if_neg hk] at h ⊢
   simp only[Bool.and_eq_true] at h
   rw[depP,depP,neg_depL ks h.2]
theorem neg_depL:∀ ks,formL ks=true→depL (negL ks)=depL ks
 | [],_=>rfl
 | p::ps,h=>by
  unfold formL at h
  rw[Bool.and_eq_true] at h
  rw[negL,depL,depL,neg_dep p h.1,neg_depL ps h.2]
end
theorem negL_len:∀ ks,(negL ks).length=ks.length
 | []=>rfl
 | p::ps=>by rw[negL,List.length_cons,List.length_cons,negL_len ps]
theorem inC_w (c:Int) (h:inC c=true):w64 (w64 (-c)-1) = -c-1:=by
 unfold inC at h
 simp only[Bool.and_eq_true,decide_eq_true_eq] at h
 rw[w64_in (-c) (by omega) (by omega),w64_in _ (by omega) (by omega)]
theorem inC_opp (c:Int) (h:inC c=true):inC (-c-1)=true:=by
 unfold inC at h ⊢
 simp only[Bool.and_eq_true,decide_eq_true_eq] at h ⊢
 omega
theorem len_cntL:∀ ks:List Prd,ks.length≤cntL ks
 | []=>Nat.le_refl _
 | .mk _ _ _ _ k::ps=>by
  have:=len_cntL ps
  rw[List.length_cons,cntL,cntP];omega
theorem least_w (n:Nat) (c:Int) (hn:n≤1000000) (h1:1≤c) (h2:c≤(n:Int)):w64 (w64 ((n:Int)-c)+1)=n-c+1:=by
 rw[w64_in ((n:Int)-c) (by omega) (by omega),w64_in _ (by omega) (by omega)]
mutual
theorem neg_form:∀ p,formP p=true→cntP p≤1000000→formP (negP p)=true∧negP (negP p)=p
 | .mk k l r c ks,h,hn=>by
  unfold formP at h
  rw[cntP] at hn
  rw[negP]
  by_cases hk:k=0
  ·rw[if_pos hk] at h ⊢
   simp only[Bool.and_eq_true] at h
   obtain⟨⟨⟨h1,h2⟩,h3⟩,h4⟩:=h
   have hkn:ks=[]:=by simpa using h1
   subst hkn
   subst hk
   rw[inC_w c h4]
   refine⟨?_,?_⟩
   ·unfold formP
    rw[if_pos rfl]
    simp[h2,h3,inC_opp c h4]
   ·rw[negP,if_pos rfl,inC_w _ (inC_opp c h4)]
    congr 1
    omega
  ·rw[if_neg hk] at h ⊢
   simp only[Bool.and_eq_true,beq_iff_eq] at h
   obtain⟨⟨⟨h1,rfl⟩,rfl⟩,h2⟩:=h
   have hL:=neg_formL ks h2 (by omega)
   have hlen:=len_cntL ks
   unfold listB at h1
   simp only[Bool.or_eq_true,Bool.and_eq_true,beq_iff_eq,decide_eq_true_eq] at h1
   rcases h1 with ⟨⟨h3 | h3,h4⟩,h5⟩ | ⟨⟨h3,h4⟩,h5⟩
   ·subst h3;subst h5
    refine⟨?_,?_⟩
    ·unfold formP
     simp[listB,negL_len,hL.1,h4]
    ·rw[negP]
     simp[hL.2]
   ·subst h3;subst h5
    refine⟨?_,?_⟩
    ·unfold formP
     simp[listB,negL_len,hL.1,h4]
    ·rw[negP]
     simp[hL.2]
   ·subst h3
    rw[if_neg (by decide),if_neg (by decide),if_pos rfl,least_w ks.length c (by omega) h4 h5]
    refine⟨?_,?_⟩
    ·unfold formP
     rw[if_neg (by decide)]
     simp only[listB,negL_len,hL.1,Bool.and_true,Bool.and_eq_true,Bool.or_eq_true,beq_iff_eq,decide_eq_true_eq]
     refine⟨⟨.inr ⟨⟨?_,by omega⟩,by omega⟩,?_⟩,?_⟩<;>simp
    ·rw[negP,if_neg (by decide),if_neg (by decide),if_neg (by decide),if_pos rfl,negL_len,least_w ks.length _ (by omega) (by omega) (by omega),hL.2]
     congr 1
     omega
theorem neg_formL:∀ ks,formL ks=true→cntL ks≤1000000→formL (negL ks)=true∧negL (negL ks)=ks
 | [],_,_=>⟨rfl,rfl⟩
 | p::ps,h,hn=>by
  unfold formL at h
  rw[cntL] at hn
  rw[Bool.and_eq_true] at h
  have h1:=neg_form p h.1 (by omega)
  have h2:=neg_formL ps h.2 (by omega)
  refine⟨?_,?_⟩
  ·rw[negL,formL,h1.1,h2.1];rfl
  ·rw[negL,negL,h1.2,h2.2]
end
theorem neg_valid (p:Prd) (h:validP p=true):validP (negP p)=true:=by
 unfold validP smallP at h ⊢
 simp only[Bool.and_eq_true,decide_eq_true_eq] at h ⊢
 rw[neg_cnt p h.2,neg_dep p h.2]
 exact⟨h.1,(neg_form p h.2 (by omega)).1⟩
mutual
theorem neg_keys:∀ p,formP p=true→keysP (negP p)=(keysP p).map oppK
 | .mk k l r c ks,h=>by
  unfold formP at h
  rw[negP]
  by_cases hk:k=0
  ·rw[if_pos hk] at h ⊢
   simp only[Bool.and_eq_true] at h
   obtain⟨⟨⟨h1,h2⟩,h3⟩,h4⟩:=h
   have hkn:ks=[]:=by simpa using h1
   subst hkn
   subst hk
   rw[inC_w c h4]
   simp[keysP,keysL,oppK]
  ·rw[if_neg hk] at h ⊢
   simp only[Bool.and_eq_true] at h
   rw[keysP,keysP,neg_keysL ks h.2,if_neg hk]
   have h0:¬ (if k=1 then (2:Int) else if k=2 then 1 else k)=0:=by
    split
    ·decide
    ·split
     ·decide
     ·exact hk
   rw[if_neg h0]
   rfl
theorem neg_keysL:∀ ks,formL ks=true→keysL (negL ks)=(keysL ks).map oppK
 | [],_=>rfl
 | p::ps,h=>by
  unfold formL at h
  rw[Bool.and_eq_true] at h
  rw[negL,keysL,keysL,neg_keys p h.1,neg_keysL ps h.2,List.map_append]
end
theorem neg_mem (p:Prd) (h:formP p=true) (x:Ky):x∈atomsP (negP p)↔oppK x∈atomsP p:=by
 rw[atomsP_mem,atomsP_mem,neg_keys p h,List.mem_map]
 constructor
 ·rintro⟨y,hy,rfl⟩;rw[oppK_opp];exact hy
 ·intro hx;exact⟨oppK x,hx,oppK_opp x⟩
mutual
theorem neg_truth (f g:Ky→Bool):∀ p,formP p=true→cntP p≤1000000→(∀ k∈keysP p,g (oppK k)=!f k)→truthP g (negP p)=!truthP f p
 | .mk k l r c ks,h,hn,hf=>by
  unfold formP at h
  rw[cntP] at hn
  rw[keysP] at hf
  rw[negP]
  by_cases hk:k=0
  ·rw[if_pos hk] at h ⊢
   simp only[Bool.and_eq_true] at h
   obtain⟨⟨⟨h1,h2⟩,h3⟩,h4⟩:=h
   rw[inC_w c h4,truthP,if_pos rfl,truthP,if_pos hk]
   exact hf ⟨l,r,c⟩ (by rw[if_pos hk];simp)
  ·rw[if_neg hk] at h ⊢
   simp only[Bool.and_eq_true,beq_iff_eq] at h
   obtain⟨⟨⟨h1,rfl⟩,rfl⟩,h2⟩:=h
   have hL:=neg_cntT f g ks h2 (by omega) (fun k hk'=>hf k (List.mem_append_right _ hk'))
   have hlen:=len_cntL ks
   unfold listB at h1
   simp only[Bool.or_eq_true,Bool.and_eq_true,beq_iff_eq,decide_eq_true_eq] at h1
   rcases h1 with ⟨⟨h3 | h3,h4⟩,h5⟩ | ⟨⟨h3,h4⟩,h5⟩
   ·subst h3;subst h5
    simp only[truthP,negL_len]
    simp
    rw[Bool.eq_iff_iff];simp
    omega
   ·subst h3;subst h5
    simp only[truthP,negL_len]
    simp
    rw[Bool.eq_iff_iff];simp
    omega
   ·subst h3
    rw[if_neg (by decide),if_neg (by decide),if_pos rfl,least_w ks.length c (by omega) h4 h5]
    simp only[truthP,negL_len]
    simp
    rw[Bool.eq_iff_iff];simp
    omega
theorem neg_cntT (f g:Ky→Bool):∀ ks,formL ks=true→cntL ks≤1000000→(∀ k∈keysL ks,g (oppK k)=!f k)→cntT g (negL ks)+cntT f ks=ks.length
 | [],_,_,_=>rfl
 | p::ps,h,hn,hf=>by
  unfold formL at h
  rw[cntL] at hn
  rw[keysL] at hf
  rw[Bool.and_eq_true] at h
  have h1:=neg_truth f g p h.1 (by omega) (fun k hk=>hf k (List.mem_append_left _ hk))
  have h2:=neg_cntT f g ps h.2 (by omega) (fun k hk=>hf k (List.mem_append_right _ hk))
  rw[negL,cntT,cntT,h1,List.length_cons]
  cases truthP f p<;>simp<;>omega
end
theorem valid_form {p:Prd} (h:validP p=true):formP p=true:=by unfold validP at h;rw[Bool.and_eq_true] at h;exact h.2
theorem small_of {p:Prd} (h:validP p=true):cntP p≤100∧depP p≤12:=by
 unfold validP smallP at h
 simp only[Bool.and_eq_true,decide_eq_true_eq] at h
 exact h.1
end
end Go.Proofs.YtmkdfbelbcocpaaGreatDoor
