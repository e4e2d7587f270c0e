import Derived.DeepKeys4
import Derived.Maps.RangeWalk
import Derived.Maps.Own
import Derived.Maps.OwnSet
import Derived.Test.YtmkdfbelbcocpaaGreatDoorCD13
set_option linter.unusedVariables false
set_option linter.unusedSimpArgs false
set_option maxHeartbeats 8000000
set_option maxRecDepth 100000
namespace Go.Proofs.YtmkdfbelbcocpaaGreatDoor
section
open Go.RowKit Go.Sort Go.Maps
structure KyOk (k:Ky):Prop where
 lb:∀ y∈k.l,y<256
 rb:∀ y∈k.r,y<256
 ll:k.l.length≤maxLen
 rl:k.r.length≤maxLen
 lo:-9223372036854775808≤k.c
 hi:k.c≤9223372036854775807
theorem KyOk.bytes {k:Ky} (h:KyOk k):KyB k:=⟨h.lb,h.rb⟩
theorem Z2t:laidOutB Tryz.prog=true:=by kernel_rfl
theorem Z9e:(123:TypeId) < Tryz.prog.types.size:=of_decide_eq_true (by kernel_rfl)
theorem Z8v:Tryz.prog.keyTypeAt 2 123=true:=by kernel_rfl
theorem Z70:WideMaps.KeyLaw Tryz.prog 123:=deep_law_laid Z2t (m:=2) (by omega) Z9e Z8v (by rw[Tryz.underlying123])
theorem Zqd:Keyed Tryz.prog 123:=Keyed.of_law Z70
def Zca (k:Ky):Lit:=.string (keyBytes [.string (Zad k.l).data.toList,.string (Zad k.r).data.toList,.int .i64 k.c])
theorem Z57:Tryz.prog.keyType 123=true:=by kernel_rfl
theorem Zue:Tryz.prog.cellsOf 123=3:=by kernel_rfl
theorem Z58:∃ n,Tryz.prog.types.size+1=n+2:=by
 refine⟨Tryz.prog.types.size-1,?_⟩
 have h:1≤Tryz.prog.types.size:=of_decide_eq_true (by kernel_rfl)
 omega
theorem Zhm (k:Ky) (h:KyOk k):keyOf Tryz.prog 123 (.agg (kyC k).toArray)=some (Zca k):=by
 obtain⟨n,hn⟩:=Z58
 have hf:(Value.agg (kyC k).toArray).formed Tryz.prog 123=true:=by
  unfold Value.formed
  rw[Tryz.underlying123]
  simp[kyC,Zue]
 have h1:(Zad k.l).size≤maxLen:=by rw[Zaq];exact h.ll
 have h2:(Zad k.r).size≤maxLen:=by rw[Zaq];exact h.rl
 have h3:(Lit.int .i64 k.c).wf=true:=by
  have e1:IntKind.i64.min = -9223372036854775808:=by decide
  have e2:IntKind.i64.max=9223372036854775807:=by decide
  show (decide (IntKind.i64.min≤k.c)&&decide (k.c≤IntKind.i64.max))=true
  rw[e1,e2,decide_eq_true h.lo,decide_eq_true h.hi]
  rfl
 have c9:Tryz.prog.cellsOf 9=1:=by kernel_rfl
 have c3:Tryz.prog.cellsOf 3=1:=by kernel_rfl
 unfold keyOf
 rw[Tryz.underlying123]
 simp only[Z57,hf,Bool.and_self,if_true,hn]
 have hx:Tryz.prog.keyLits (n+2) 123 (kyC k)=some [.string (Zad k.l).data.toList,.string (Zad k.r).data.toList,.int .i64 k.c]:=by
  unfold Program.keyLits
  rw[Tryz.underlying123]
  simp[kyC,Zue,c9,c3,Program.keyLits,Tryz.underlying9,Tryz.underlying3,h1,h2,h3]
 show (Tryz.prog.keyLits (n+2) 123 ((kyC k).toArray.toList)).map (fun ls=>Lit.string (keyBytes ls))=some (Zca k)
 rw[List.toList_toArray,hx]
 rfl
theorem Zl0 (k k':Ky) (h:KyOk k) (h':KyOk k') (e:Zca k=Zca k'):k=k':=by
 have h1:=Zhm k h
 have h2:=Zhm k' h'
 rw[e] at h1
 have:=Zqd.inj h1 h2
 obtain⟨l,r,c⟩:=k
 obtain⟨l',r',c'⟩:=k'
 simp only[kyC,Value.agg.injEq,List.toArray_inj,Array.mk.injEq,List.cons.injEq,Value.string.injEq,Value.int.injEq,and_true,true_and] at this
 obtain⟨e1,e2,e3⟩:=this
 have f1:l=l':=Zd3 l l' h.lb h'.lb (by rw[← Zb6,← Zb6,e1])
 have f2:r=r':=Zd3 r r' h.rb h'.rb (by rw[← Zb6,← Zb6,e2])
 subst f1;subst f2;subst e3
 rfl
end
section
def Zjl (l:List Nat):Bool:=l==[]||Zbo l
def inC (c:Int):Bool:=decide (-1099511627776≤c)&&decide (c<1099511627776)
def Zx7 (k:Int) (n:Nat) (c:Int):Bool:=((k==1||k==2)&&decide (2≤n)&&c==0)||(k==3&&decide (1≤c)&&decide (c≤(n:Int)))
mutual
def Zcz:Prd→Bool
 | .mk k l r c ks=>if k=0 then (ks.isEmpty&&Zjl l&&Zjl r&&inC c) else (Zx7 k ks.length c&&l==[]&&r==[]&&Zki ks)
def Zki:List Prd→Bool
 | []=>true
 | p::ps=>Zcz p&&Zki ps
end
def Zau (p:Prd):Bool:=Zeh p&&Zcz p
theorem Zl1:∀ ks:List Prd,Zki ks=true↔∀ q∈ks,Zcz q=true
 | []=>by simp[Zki]
 | p::ps=>by simp[Zki,Zl1 ps]
theorem Z59 {c:Nat} (h:Zia c=true):c<128:=by
 simp only[Zia,Zoq,Zd7,Bool.or_eq_true,Bool.and_eq_true,decide_eq_true_eq,beq_iff_eq] at h
 omega
theorem Zqe {l:List Nat} (h:Zek l=true):(∀ y∈l,y<128∧y≠46)∧l.length≤20:=by
 simp only[Zek,Bool.and_eq_true,decide_eq_true_eq] at h
 refine⟨fun y hy=>?_,h.1.2⟩
 have:=List.all_eq_true.1 (Zts Zia l ▸ h.2) y hy
 refine⟨Z59 this,?_⟩
 rintro rfl
 exact absurd this (by decide)
theorem Zsq {l:List Nat} (h:Zbo l=true):∃ a b,l=a++46::b∧Zee a=true∧Zee b=true∧(∀ y∈a,y<128∧y≠46)∧(∀ y∈b,y<128∧y≠46)∧a.length≤20∧b.length≤20:=by
 unfold Zbo at h
 simp only[Bool.and_eq_true,decide_eq_true_eq] at h
 obtain⟨h0,h1,h2⟩:=h
 have f1:=Zqe (l:=l.take (Zax Zam l)) (by unfold Zee at h1;simp at h1;exact h1.1)
 have f2:=Zqe (l:=l.drop (Zax Zam l+1)) (by unfold Zee at h2;simp at h2;exact h2.1)
 refine⟨l.take (Zax Zam l),l.drop (Zax Zam l+1),?_,h1,h2,f1.1,f2.1,f1.2,f2.2⟩
 have hd:l[Zax Zam l]?=some 46:=by
  have hx:l=l.takeWhile Zam++l.dropWhile Zam:=(List.takeWhile_append_dropWhile).symm
  have hl:(l.takeWhile Zam).length=Zax Zam l:=rfl
  have hne:l.dropWhile Zam≠[]:=by
   intro h
   rw[h,List.append_nil] at hx
   rw[← hl,← hx] at h0
   exact absurd h0 (Nat.lt_irrefl _)
  obtain⟨c,r,hcr⟩:=List.exists_cons_of_ne_nil hne
  have hc:Zam c=false:=by
   have:=List.head_dropWhile_not Zam hne
   simpa [hcr] using this
  have:c=46:=by simpa [Zam] using hc
  subst this
  have e:l[Zax Zam l]?=(l.takeWhile Zam++l.dropWhile Zam)[Zax Zam l]?:=congrArg (fun m=>m[Zax Zam l]?) hx
  rw[e,List.getElem?_append_right (by rw[hl];exact Nat.le_refl _),hl,Nat.sub_self,hcr]
  rfl
 have h1:l=l.take (Zax Zam l)++l.drop (Zax Zam l):=(List.take_append_drop _ _).symm
 have h2:l.drop (Zax Zam l)=46::l.drop (Zax Zam l+1):=by
  have:=(List.getElem?_eq_some_iff.1 hd)
  rw[List.drop_eq_getElem_cons this.1,this.2]
 rw[h2] at h1
 exact h1
theorem Zjm {l:List Nat} (h:Zjl l=true):(∀ y∈l,y<256)∧l.length≤41:=by
 unfold Zjl at h
 rw[Bool.or_eq_true,beq_iff_eq] at h
 rcases h with rfl | h
 ·simp
 ·obtain⟨a,b,rfl,_,_,h1,h2,h3,h4⟩:=Zsq h
  refine⟨fun y hy=>?_,by simp;omega⟩
  rcases List.mem_append.1 hy with hy | hy
  ·have:=(h1 y hy).1;omega
  ·rcases List.mem_cons.1 hy with rfl | hy
   ·omega
   ·have:=(h2 y hy).1;omega
theorem Z6a {l r:List Nat} {c:Int} (hl:Zjl l=true) (hr:Zjl r=true) (hc:inC c=true):KyOk ⟨l,r,c⟩:=by
 have h1:=Zjm hl
 have h2:=Zjm hr
 unfold inC at hc
 simp only[Bool.and_eq_true,decide_eq_true_eq] at hc
 have hm:41≤maxLen:=by decide
 exact⟨h1.1,h2.1,Nat.le_trans h1.2 hm,Nat.le_trans h2.2 hm,by show _≤c;omega,by show c≤_;omega⟩
mutual
theorem Zea:∀ p:Prd,Zcz p=true→∀ k∈Zcl p,KyOk k
 | .mk k l r c ks,h=>by
  unfold Zcz at h
  unfold Zcl
  by_cases h0:k=0
  ·rw[if_pos h0] at h ⊢
   simp only[Bool.and_eq_true] at h
   have hk:ks=[]:=by simpa using h.1.1.1
   subst hk
   intro x hx
   rw[show Zck []=[] from rfl,List.append_nil,List.mem_singleton] at hx
   subst hx
   exact Z6a h.1.1.2 h.1.2 h.2
  ·rw[if_neg h0] at h ⊢
   simp only[Bool.and_eq_true] at h
   intro x hx
   rw[List.nil_append] at hx
   exact Zn0 ks h.2 x hx
theorem Zn0:∀ ks:List Prd,Zki ks=true→∀ k∈Zck ks,KyOk k
 | [],_=>by simp[Zck]
 | p::ps,h=>by
  unfold Zki at h
  rw[Bool.and_eq_true] at h
  intro x hx
  unfold Zck at hx
  rcases List.mem_append.1 hx with hx | hx
  ·exact Zea p h.1 x hx
  ·exact Zn0 ps h.2 x hx
end
theorem Zvx (ks:List Prd) (i:Nat) (q:Prd) (h:ks[i]?=some q):Zck (ks.take (i+1))=Zck (ks.take i)++Zcl q:=by
 obtain⟨hi,rfl⟩:=List.getElem?_eq_some_iff.1 h
 rw[List.take_add_one,List.getElem?_eq_getElem hi,Zpy]
 simp[Zck]
end
section
def Zsr (k:Ky):Bool:=k.l==k.r
mutual
def Zav (f:Ky→Bool):Prd→Bool
 | .mk k l r c ks=>if k=0 then f ⟨l,r,c⟩ else if k=1 then Zkj f ks==ks.length else if k=2 then decide (0<Zkj f ks) else decide (c≤(Zkj f ks:Int))
def Zkj (f:Ky→Bool):List Prd→Nat
 | []=>0
 | p::ps=>(if Zav f p=true then 1 else 0)+Zkj f ps
end
theorem Zss (f:Ky→Bool) (a b:List Prd):Zkj f (a++b)=Zkj f a+Zkj f b:=by
 induction a with
 | nil=>simp[Zkj]
 | cons p ps ih=>simp only[List.cons_append,Zkj,ih];omega
theorem Zx8 (f:Ky→Bool) (ks:List Prd) (i:Nat) (q:Prd) (h:ks[i]?=some q):Zkj f (ks.take (i+1))=Zkj f (ks.take i)+(if Zav f q=true then 1 else 0):=by
 obtain⟨hi,rfl⟩:=List.getElem?_eq_some_iff.1 h
 rw[List.take_add_one,List.getElem?_eq_getElem hi,Zss]
 simp[Zkj]
theorem Zx9 (f:Ky→Bool):∀ ks,Zkj f ks≤ks.length
 | []=>by simp[Zkj]
 | p::ps=>by
  have:=Zx9 f ps
  simp only[Zkj,List.length_cons]
  split<;>omega
end
section
open Go.RowKit Go.Sort Go.Maps
def Zhn (w:World) (b:Nat) (S:List Ky):Prop :=
 ∃ D:DataW Unit,w.ownsMap Tryz.prog 123 (plainElem Tryz.prog 4) b S.length D∧(∀ l,has D l=true↔∃ k∈S,Zca k=l)∧∀ k∈S,∀ zd,D.atKey (Zca k) zd = .lit (.bool true)
theorem Zc5 {w w':World} (h:Below w.heap.size w w') (row:Option Nat):w.grownBy w' row:=⟨h.os,h.tape,h.output,h.size,fun i hi _=>h.block i hi⟩
theorem Zbq {w w':World} {b:Nat} (h:w.grownBy w' (some b)):Only w w' (· = b):=⟨h.os,h.tape,h.output,h.size,fun i hi hp=>h.block i hi (fun e=>hp (Option.some.inj e))⟩
theorem Zhn.lt {w:World} {b:Nat} {S:List Ky} (h:Zhn w b S):b<w.heap.size:=by
 obtain⟨D,h1,_⟩:=h
 exact h1.lt
theorem Zhn.step {w w':World} {b:Nat} {S:List Ky} (h:Zhn w b S) (hb:Below w.heap.size w w'):Zhn w' b S:=by
 obtain⟨D,h1,h2⟩:=h
 exact⟨D,h1.kept (Zc5 hb none) (by simp),h2⟩
theorem Zhn.only {w w':World} {b:Nat} {S:List Ky} {p:Nat→Prop} (h:Zhn w b S) (hb:Only w w' p) (hp:¬ p b):Zhn w' b S:=by
 have hl:=h.lt
 obtain⟨D,h1,h2⟩:=h
 obtain⟨es,clock,e1,F,hs,hD⟩:=h1
 exact⟨D,⟨es,clock,(hb.block b hl hp).trans e1,F,hs,hD⟩,h2⟩
theorem Zhn.nil (w:World):Zhn (w.alloc (.map #[] 0)) w.heap.size []:=by
 refine⟨_,World.ownsMap_made w _ _ _,fun l=>?_,fun k hk=>absurd hk List.not_mem_nil⟩
 constructor
 ·intro h;cases h
 ·rintro⟨k,hk,_⟩;exact absurd hk List.not_mem_nil
theorem Zg0 (k:Ky) (h:KyOk k):WideAt.IsKeyLit (Zca k):=Zqd.key (Zhm k h)
theorem Zhn.put {w w':World} {b:Nat} {S:List Ky} {D:DataW Unit} (hS:∀ k∈S,KyOk k) (k:Ky) (hk:KyOk k) (h:w.ownsMap Tryz.prog 123 (plainElem Tryz.prog 4) b S.length D) (h1:∀ l,has D l=true↔∃ k∈S,Zca k=l) (h2:∀ k∈S,∀ zd,D.atKey (Zca k) zd = .lit (.bool true))
  (h':w'.ownsMap Tryz.prog 123 (plainElem Tryz.prog 4) b (S.length+1) (D.put (Zca k) (.lit (.bool true)))):Zhn w' b (S++[k]):=by
 refine⟨_,by rw[List.length_append];exact h',fun l=>?_,fun x hx zd=>?_⟩
 ·by_cases he:l=Zca k
  ·subst he
   rw[has_put_same h.isMap (Zg0 k hk)]
   exact⟨fun _=>⟨k,by simp,rfl⟩,fun _=>rfl⟩
  ·rw[has_put_other he,h1]
   constructor
   ·rintro⟨x,hx,hl⟩;exact⟨x,by simp[hx],hl⟩
   ·rintro⟨x,hx,hl⟩
    rcases List.mem_append.1 hx with hx | hx
    ·exact⟨x,hx,hl⟩
    ·rw[List.mem_singleton] at hx
     subst hx
     exact absurd hl.symm he
 ·by_cases he:Zca x=Zca k
  ·rw[he,atKey_put_same h.isMap (Zg0 k hk)]
  ·rw[atKey_put_other he]
   rcases List.mem_append.1 hx with hx | hx
   ·exact h2 x hx zd
   ·rw[List.mem_singleton] at hx
    subst hx
    exact absurd rfl he
theorem Z2u (w:World) (l r:List Nat) (c:Int) (ao:Option Addr) (cap b:Nat) (S:List Ky) (hS:∀ k∈S,KyOk k) (hk:KyOk ⟨l,r,c⟩) (h:Zhn w b S) (hn:S.length<1000000) :
  Calls Tryz.prog 156 #[.agg #[.int .i64 0,.string (Zad l),.string (Zad r),.int .i64 c,.slice ao 0 cap],.map (some b)] w fun e w'=>e = .returned (.tuple #[])∧Zhn w' b (S++[⟨l,r,c⟩])∧Only w w' (· = b):=by
 have bx:=(Below.refl w.heap.size w).alloc (Nat.le_refl _) (.cells #[.int .i64 0,.string (Zad l),.string (Zad r),.int .i64 c,.slice ao 0 cap] 25)
 have S1:=ħ (h.step bx)
 have O1:=ħ (Only.of_below (p:=(· = b)) bx)
 have X1:Hid (Zah (w.alloc (.cells #[.int .i64 0,.string (Zad l),.string (Zad r),.int .i64 c,.slice ao 0 cap] 25)) w.heap.size 25 [.int .i64 0,.string (Zad l),.string (Zad r),.int .i64 c,.slice ao 0 cap]):=ħ (heap_alloc_new w _)
 have HK:=ħ (fun w=>Zje 0 l r c (.slice ao 0 cap) rfl w)
 have HKO:=ħ hk
 have HKY:=ħ (Zhm _ hk)
 have HS:=ħ hS
 have HN:Hid (S.length<maxLen):=ħ (Nat.lt_trans hn (by decide))
 have hkc:(Zr8 l r c).toArray=(kyC ⟨l,r,c⟩).toArray:=rfl
 rw[hkc] at HK
 have XB:Hid (b<w.heap.size):=ħ h.lt
 have HKC:Hid ((kyC ⟨l,r,c⟩).toArray=(kyC ⟨l,r,c⟩).toArray):=ħ rfl
 clear bx h hk hS hn hkc
 generalize hKY:(⟨l,r,c⟩:Ky)=K at *
 clear hKY
 generalize Zad l=y at *
 generalize Zad r=z at *
 generalize (kyC K).toArray=kv at *
 go_enter Tryz.func156,Tryz.ntmps156
 go_upto_region 1 with (fail)
 generalize w.alloc (.cells #[.int .i64 0,.string y,.string z,.int .i64 c,.slice ao 0 cap] 25)=w1 at *
 have x0:=X1.o.cell 0 _ rfl
 go_wp2_with (refine wpList_load_row rfl 25 (.tmp 2) rfl w.heap.size ?x1 25 (Z51 0 y z c ao 0 cap).toArray (0,0) _ X1.o Tryz.underlying25 rfl (Zae _ rfl) ?_;(case x1=>rfl))
 refine (HK.o w1).mono ?_
 rintro e w2 ⟨rfl,b2⟩
 have S2:=ħ (S1.o.step b2)
 have O2:=ħ (O1.o.step b2)
 have X2:=ħ (X1.o.step b2)
 clear b2 x0 X1 S1 O1
 obtain⟨D,hown,hh,ha⟩:=S2.o
 have HH:=ħ hh
 have HA:=ħ ha
 have HO:=ħ hown
 clear hh ha hown
 go_wp2_with (at_mapUpdate;refine wpList_mapUpdate_own _ rfl (.tmp 9) (.tmp 11) _ 185 rfl 123 4 Zqd Tryz.underlying185 (plainElem Tryz.prog 4) b S.length D rfl HO.o HN.o (.agg kv) (.bool true) (Zca K) rfl rfl HKY.o (.lit (.bool true)) [] (plainElem_bool Tryz.underlying4 true) ?_;intro w3 hown3 hgrow3;have S3:=ħ (Zhn.put HS.o K HKO.o HO.o HH.o HA.o hown3);have O3:=ħ (O2.o.trans (Zbq hgrow3));have X3:=ħ (X2.o.grownBy hgrow3 (by intro e;have:=XB.o;have:=Option.some.inj e;omega));have x4:=X3.o.cell 4 _ rfl;clear hown3 hgrow3)
 refine wp_loop_rounds 1 ?_
 rw[rounds_succ];go_wp2
 go_end0
 exact⟨rfl,S3.o,O3.o⟩
theorem Z2v (w:World) (P:Nat→Prop) (κ:Int) (l r:List Nat) (c:Int) (ks:List Prd) (ao:Option Addr) (n cap:Nat) (hκ:κ≠0) (hn:n=ks.length) (hbig:n≤1000000)
  (hk:ks=[]∨∃ g off,ao=some ⟨g,off,none⟩∧P g∧g<w.heap.size∧Za1 w P ks g off)
  (b:Nat) (S:List Ky) (h:Zhn w b S) (hPb:∀ g,P g→g≠b)
  (ih:∀ (q:Prd) (w:World) (vs:List Value) (pre:List Prd),q∈ks→pre++[q] <+: ks→Zai w P q vs→Zhn w b (S++Zck pre)→Calls Tryz.prog 156 #[.agg vs.toArray,.map (some b)] w fun e w'=>e = .returned (.tuple #[])∧Zhn w' b (S++Zck pre++Zcl q)∧Only w w' (· = b)) :
  Calls Tryz.prog 156 #[.agg #[.int .i64 κ,.string (Zad l),.string (Zad r),.int .i64 c,.slice ao n cap],.map (some b)] w fun e w'=>e = .returned (.tuple #[])∧Zhn w' b (S++Zck ks)∧Only w w' (· = b):=by
 have HK:=ħ hk
 have IH:=ħ ih
 have HN:=ħ hn
 have HPB:=ħ hPb
 have hκb:(κ==0)=false:=beq_eq_false_iff_ne.mpr hκ
 have bx:=(Below.refl w.heap.size w).alloc (Nat.le_refl _) (.cells #[.int .i64 κ,.string (Zad l),.string (Zad r),.int .i64 c,.slice ao n cap] 25)
 have S1:=ħ (h.step bx)
 have O1:=ħ (Only.of_below (p:=(· = b)) bx)
 have X1:Hid (Zah (w.alloc (.cells #[.int .i64 κ,.string (Zad l),.string (Zad r),.int .i64 c,.slice ao n cap] 25)) w.heap.size 25 [.int .i64 κ,.string (Zad l),.string (Zad r),.int .i64 c,.slice ao n cap]):=ħ (heap_alloc_new w _)
 clear bx h hk ih hn hPb hκ
 generalize Zad l=y at *
 generalize Zad r=z at *
 go_enter Tryz.func156,Tryz.ntmps156
 go_upto_region 1 with (fail)
 generalize w.alloc (.cells #[.int .i64 κ,.string y,.string z,.int .i64 c,.slice ao n cap] 25)=w1 at *
 have x0:=X1.o.cell 0 _ rfl
 have x4:=X1.o.cell 4 _ rfl
 go_wp2_with fail
 clear x4 x0 X1
 go_loopw [15] (fun cc wr=>∃ (i:Nat),cc = .int .i64 i∧i≤n∧Hid (Zhn wr b (S++Zck (ks.take i)))∧Hid (Only w wr (· = b))) (fun c _=>(n-intOf c).toNat)
 case atStart=>exact⟨0,rfl,by omega,ħ (by simpa [Zck] using S1.o),O1⟩
 case round =>
  clear S1 O1
  obtain⟨i,rfl,hi,hq,ho⟩:=hrel
  have e2:IntKind.i64.wrap ((i:Int)+1)=((i+1:Nat):Int):=IntWalk.i64_in _ (by omega)
  by_cases hlt:i<n
  ·have ii:(i:Int)<n:=by omega
   have HQ:Hid (∃ q,ks[i]?=some q∧∃ g off,ao=some ⟨g,off,none⟩∧g<w.heap.size∧∃ vs,Zai wr P q vs∧Za3 wr g (off+i*5) vs):=ħ (by
    have hl:i<ks.length:=by rw[← HN.o];exact hlt
    refine⟨ks[i],List.getElem?_eq_getElem hl,?_⟩
    rcases HK.o with h | ⟨g,off,h1,h2,h3,h4⟩
    ·rw[h] at hl;exact absurd hl (Nat.not_lt_zero _)
    ·obtain⟨vs,hv1,hv2⟩:=Za1.at ks g off i _ (List.getElem?_eq_getElem hl) h4
     exact⟨g,off,h1,h3,vs,Zai.keep (fun x hx hl=>ho.o.block x hl (HPB.o x hx)) ho.o.size (fun x hx _=>hx) _ _ hv1,hv2.of_block (ho.o.block g h3 (HPB.o g h2))⟩)
   obtain⟨q,hqi,g,off,hao,hg,vs,hpc,hrd⟩:=HQ.o
   clear HQ
   have HQI:=ħ hqi
   obtain⟨xa,xn,xc,hvf,-⟩:=hpc.form
   rw[hvf] at hrd hpc
   have PC:=ħ hpc
   have s0:=hrd 0 _ rfl
   have s1:=hrd 1 _ rfl
   have s2:=hrd 2 _ rfl
   have s3:=hrd 3 _ rfl
   have s4:=hrd 4 _ rfl
   clear hrd hpc hvf vs hqi
   rw[Nat.add_zero] at s0
   have HAO:=ħ hao
   subst hao
   generalize q.k=q0 at *
   generalize Zad q.l=q1 at *
   generalize Zad q.r=q2 at *
   generalize q.c=q3 at *
   go_wp2_with fail
   have bx:=(Below.refl wr.heap.size wr).alloc (Nat.le_refl _) (.cells #[.int .i64 q0,.string q1,.string q2,.int .i64 q3,.slice xa xn xc] 25)
   have hq2:=ħ (hq.o.step bx)
   have ho2:=ħ (ho.o.step bx)
   have PX:=ħ (PC.o.below bx)
   clear s0 s1 s2 s3 s4 bx hq ho PC
   generalize wr.alloc (.cells #[.int .i64 q0,.string q1,.string q2,.int .i64 q3,.slice xa xn xc] 25)=wx at *
   have HPRE:Hid (ks.take i++[q] <+: ks):=ħ (by
    have:ks.take i++[q]=ks.take (i+1):=by rw[List.take_add_one,HQI.o];rfl
    rw[this];exact List.take_prefix _ _)
   refine (IH.o q wx _ (ks.take i) (List.mem_of_getElem? HQI.o) HPRE.o PX.o hq2.o).mono ?_
   rintro e w3 ⟨rfl,s3,o3⟩
   have S3:=ħ (show Zhn w3 b (S++Zck (ks.take (i+1))) by rw[Zvx ks i q HQI.o,← List.append_assoc];exact s3)
   have O3:=ħ (ho2.o.trans o3)
   clear s3 o3 hq2 ho2
   go_wp2
   go_roundw
   case rel=>exact⟨i+1,by go_num,by omega,S3,O3⟩
   case measure=>simp only[intOf];omega
  ·have ii:¬ ((i:Int)<n):=by omega
   have HT:Hid (ks.take i=ks):=ħ (by rw[show i=ks.length by rw[← HN.o];omega,List.take_length])
   go_wp2
   go_end0
   exact⟨rfl,by have:=hq.o;rwa [HT.o] at this,ho.o⟩
theorem Zl2:∀ (N:Nat) (p:Prd) (w:World) (P:Nat→Prop) (vs:List Value) (b:Nat) (S:List Ky),Za8 p≤N→Zcz p=true→S.length+Za8 p≤1000000→(∀ k∈S,KyOk k)→Zai w P p vs→Zhn w b S→(∀ g,P g→g≠b) →
  Calls Tryz.prog 156 #[.agg vs.toArray,.map (some b)] w fun e w'=>e = .returned (.tuple #[])∧Zhn w' b (S++Zcl p)∧Only w w' (· = b)
 | 0,p,w,P,vs,b,S,hN,_,_,_,_,_,_=>by have:=Zhg p;omega
 | N+1,.mk κ l r c ks,w,P,vs,b,S,hN,hf,hc,hS,h,hs,hPb=>by
  have hc2:Zb9 ks≤N:=by unfold Za8 at hN;omega
  have hl:=Zcs ks
  have hc3:S.length+(1+Zb9 ks)≤1000000:=by unfold Za8 at hc;exact hc
  have HFK:=Zea _ hf
  unfold Zai at h
  obtain⟨ao,cap,rfl,hk⟩:=h
  unfold Zcz at hf
  by_cases hκ:κ=0
  ·rw[if_pos hκ] at hf
   simp only[Bool.and_eq_true] at hf
   have hkn:ks=[]:=by simpa using hf.1.1.1
   subst hkn;subst hκ
   have:=Z2u w l r c ao cap b S hS (Z6a hf.1.1.2 hf.1.2 hf.2) hs (by omega)
   simpa [Zcl,Zck] using this
  ·rw[if_neg hκ] at hf
   simp only[Bool.and_eq_true] at hf
   have hfk:=(Zl1 ks).1 hf.2
   have:=Z2v w P κ l r c ks ao ks.length cap hκ rfl (by omega) hk b S hs hPb (fun q w' us pre hq hpre hpc hs'=>by
    obtain⟨i,hi⟩:=List.mem_iff_getElem?.1 hq
    have hck:=Zhh ks i q hi
    obtain⟨tl,htl⟩:=hpre
    have hcp:Zb9 pre+Za8 q≤Zb9 ks:=by
     rw[← htl,Zdb,Zdb];simp[Zb9]
    have hkl:=Zlt pre
    exact Zl2 N q w' P us b (S++Zck pre) (by omega) (hfk q hq) (by rw[List.length_append];omega) (fun k hk'=>by
     rcases List.mem_append.1 hk' with hk' | hk'
     ·exact hS k hk'
     ·obtain⟨q',hq',hkq⟩:=(Zls k pre).1 hk'
      have:q'∈ks:=by rw[← htl];simp[hq']
      exact Zea q' (hfk q' this) k hkq) hpc hs' hPb)
   have e:Zcl (.mk κ l r c ks)=Zck ks:=by unfold Zcl;rw[if_neg hκ,List.nil_append]
   rw[e]
   exact this
end
section
def Z16:List (List Nat)→List Nat→List (List Nat)
 | [],x=>[x]
 | y::ys,x=>if x=y then y::ys else if ltL x y=true then x::y::ys else y::Z16 ys x
def Zjh (l:List (List Nat)):Prop:=l.Pairwise (fun a b=>ltL a b=true)
theorem Zo4 (x z:List Nat):∀ l,z∈Z16 l x↔z=x∨z∈l
 | []=>by simp[Z16]
 | y::ys=>by
  unfold Z16
  by_cases h:x=y
  ·rw[if_pos h];subst h;simp
  ·rw[if_neg h]
   by_cases h2:ltL x y=true
   ·rw[if_pos h2];simp
   ·rw[if_neg h2,List.mem_cons,Zo4 x z ys,List.mem_cons]
    constructor
    ·rintro (h | h | h)<;>simp[h]
    ·rintro (h | h | h)<;>simp[h]
theorem Zuf (x:List Nat):∀ l,Zjh l→Zjh (Z16 l x)
 | [],_=>by simp[Z16,Zjh]
 | y::ys,h=>by
  unfold Z16
  have h0:=List.pairwise_cons.1 h
  by_cases h1:x=y
  ·rw[if_pos h1];exact h
  ·rw[if_neg h1]
   by_cases h2:ltL x y=true
   ·rw[if_pos h2]
    exact List.pairwise_cons.2 ⟨fun z hz=>by
     rcases List.mem_cons.1 hz with rfl | hz
     ·exact h2
     ·exact Zdh _ _ _ h2 (h0.1 z hz),h⟩
   ·rw[if_neg h2]
    refine List.pairwise_cons.2 ⟨fun z hz=>?_,Zuf x ys h0.2⟩
    rcases (Zo4 x z ys).1 hz with rfl | hz
    ·rcases Zey z y with h3 | h3 | h3
     ·exact absurd h3 h2
     ·exact absurd h3 h1
     ·exact h3
    ·exact h0.1 z hz
theorem Z6b {l l':List (List Nat)} (h:Zjh l) (h':Zjh l') (hm:∀ x,x∈l↔x∈l'):l=l':=by
 have nd:∀ {m:List (List Nat)},Zjh m→m.Nodup:=fun hm=>hm.imp (fun {a b} hab e=>by rw[e,Za4] at hab;cases hab)
 have hp:l.Perm l':=(List.perm_ext_iff_of_nodup (nd h) (nd h')).2 hm
 refine List.Perm.eq_of_pairwise (le:=fun a b=>ltL a b=true) (fun a b _ _ h1 h2=>?_) h h' hp
 have:=Zdh _ _ _ h1 h2
 rw[Za4] at this
 cases this
theorem Zqf (x:List Nat):∀ (l acc:List (List Nat)),x∈l.foldl Z16 acc↔x∈acc∨x∈l
 | [],acc=>by simp
 | y::ys,acc=>by
  rw[List.foldl_cons,Zqf x ys,Zo4,List.mem_cons]
  constructor
  ·rintro ((h | h) | h)<;>simp[h]
  ·rintro (h | h | h)<;>simp[h]
theorem Zqg:∀ (l acc:List (List Nat)),Zjh acc→Zjh (l.foldl Z16 acc)
 | [],acc,h=>h
 | y::ys,acc,h=>Zqg ys _ (Zuf y acc h)
def Zxc (k:Ky):List (List Nat):=[k.l,k.r]
def Zo5 (ks:List Ky):List (List Nat):=((ks.flatMap Zxc).filter (fun s=>!s.isEmpty)).foldl Z16 []
theorem Zo6 (ks:List Ky):Zjh (Zo5 ks):=Zqg _ _ .nil
theorem Zem (ks:List Ky) (x:List Nat):x∈Zo5 ks↔x≠[]∧∃ k∈ks,x=k.l∨x=k.r:=by
 unfold Zo5
 rw[Zqf]
 simp[Zxc,List.mem_filter,List.mem_flatMap,and_comm]
def Zj6 (p:Prd):List (List Nat):=Zo5 (Zan p)
def Zvy (k:Ky):Ky:=⟨k.r,k.l,-k.c-1⟩
theorem Z8w (c:Int) (h:inC c=true):w64 (w64 (-c)-1) = -c-1:=by
 unfold inC at h
 simp only[Bool.and_eq_true,decide_eq_true_eq] at h
 rw[Z5l (-c) (by omega) (by omega),Z5l _ (by omega) (by omega)]
theorem Zet {p:Prd} (h:Zau p=true):Zcz p=true:=by unfold Zau at h;rw[Bool.and_eq_true] at h;exact h.2
theorem Zil {p:Prd} (h:Zau p=true):Za8 p≤100∧Zsd p≤12:=by
 unfold Zau Zeh at h
 simp only[Bool.and_eq_true,decide_eq_true_eq] at h
 exact h.1
end
end Go.Proofs.YtmkdfbelbcocpaaGreatDoor
