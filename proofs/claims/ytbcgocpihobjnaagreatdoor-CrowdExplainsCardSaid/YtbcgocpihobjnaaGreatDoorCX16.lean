import Derived.DeepKeys4
import Derived.Maps.RangeWalk
import Derived.Maps.Own
import Derived.Maps.OwnSet
import Derived.Test.YtbcgocpihobjnaaGreatDoorCX15
set_option linter.all false
set_option maxHeartbeats 8000000
set_option maxRecDepth 100000
namespace Go.Proofs.YtbcgocpihobjnaaGreatDoor
section
open Go.RowKit Go.Sort Go.Maps
structure KyOk (k:Ky):Prop where
 lb:∀ y∈k.l,y<256
 rb:∀ y∈k.r,y<256
 ll:k.l.length≤maxLen
 rl:k.r.length≤maxLen
 lo:-9223372036854775808≤k.c
 hi:k.c≤9223372036854775807
theorem KyOk.bytes {k:Ky} (h:KyOk k):KyB k:=⟨h.lb,h.rb⟩
theorem Zv8:laidOutB Tryz.prog=true:=by kernel_rfl
theorem Z1i:(121:TypeId) < Tryz.prog.types.size:=of_decide_eq_true (by kernel_rfl)
theorem Z0t:Tryz.prog.keyTypeAt 2 121=true:=by kernel_rfl
theorem Zz3:WideMaps.KeyLaw Tryz.prog 121:=deep_law_laid Zv8 (m:=2) (by omega) Z1i Z0t (by rw[Tryz.underlying121])
theorem Zqd:Keyed Tryz.prog 121:=Keyed.of_law Zz3
def Zcs (k:Ky):Lit:=.string (keyBytes [.string (Zag k.l).data.toList,.string (Zag k.r).data.toList,.int .i64 k.c])
theorem Zyl:Tryz.prog.keyType 121=true:=by kernel_rfl
theorem Zpb:Tryz.prog.cellsOf 121=3:=by kernel_rfl
theorem Zym:∃ n,Tryz.prog.types.size+1=n+2:=by
 refine⟨Tryz.prog.types.size-1,?_⟩;have h:1≤Tryz.prog.types.size:=of_decide_eq_true (by kernel_rfl);omega
theorem Zfz (k:Ky) (h:KyOk k):keyOf Tryz.prog 121 (.agg (kyC k).toArray)=some (Zcs k):=by
 obtain⟨n,hn⟩:=Zym
 have hf:(Value.agg (kyC k).toArray).formed Tryz.prog 121=true:=by
  unfold Value.formed;rw[Tryz.underlying121];simp[kyC,Zpb]
 have h1:(Zag k.l).size≤maxLen:=by rw[Zbv];exact h.ll
 have h2:(Zag k.r).size≤maxLen:=by rw[Zbv];exact h.rl
 have h3:(Lit.int .i64 k.c).wf=true:=by
  have e1:IntKind.i64.min = -9223372036854775808:=by decide
  have e2:IntKind.i64.max=9223372036854775807:=by decide
  show (decide (IntKind.i64.min≤k.c)&&decide (k.c≤IntKind.i64.max))=true;rw[e1,e2,decide_eq_true h.lo,decide_eq_true h.hi];rfl
 have c9:Tryz.prog.cellsOf 9=1:=by kernel_rfl
 have c3:Tryz.prog.cellsOf 3=1:=by kernel_rfl
 unfold keyOf;rw[Tryz.underlying121];simp only[Zyl,hf,Bool.and_self,if_true,hn]
 have hx:Tryz.prog.keyLits (n+2) 121 (kyC k)=some [.string (Zag k.l).data.toList,.string (Zag k.r).data.toList,.int .i64 k.c]:=by
  unfold Program.keyLits;rw[Tryz.underlying121];simp[kyC,Zpb,c9,c3,Program.keyLits,Tryz.underlying9,Tryz.underlying3,h1,h2,h3]
 show (Tryz.prog.keyLits (n+2) 121 ((kyC k).toArray.toList)).map (fun ls=>Lit.string (keyBytes ls))=some (Zcs k);rw[List.toList_toArray,hx];rfl
theorem Zmn (k k':Ky) (h:KyOk k) (h':KyOk k') (e:Zcs k=Zcs k'):k=k':=by
 have h1:=Zfz k h;have h2:=Zfz k' h';rw[e] at h1;have:=Zqd.inj h1 h2;obtain⟨l,r,c⟩:=k;obtain⟨l',r',c'⟩:=k';simp only[kyC,Value.agg.injEq,List.toArray_inj,Array.mk.injEq,List.cons.injEq,Value.string.injEq,Value.int.injEq,and_true,true_and] at this;obtain⟨e1,e2,e3⟩:=this;have f1:l=l':=Zeb l l' h.lb h'.lb (by rw[← Zbw,← Zbw,e1]);have f2:r=r':=Zeb r r' h.rb h'.rb (by rw[← Zbw,← Zbw,e2]);subst f1;subst f2;subst e3;rfl
end
section
def Zh0 (l:List Nat):Bool:=l==[]||Zb8 l
def inC (c:Int):Bool:=decide (-1099511627776≤c)&&decide (c<1099511627776)
def Zse (k:Int) (n:Nat) (c:Int):Bool:=((k==1||k==2)&&decide (2≤n)&&c==0)||(k==3&&decide (1≤c)&&decide (c≤(n:Int)))
mutual
def Zcc:Prd→Bool
 | .mk k l r c ks=>if k=0 then (ks.isEmpty&&Zh0 l&&Zh0 r&&inC c) else (Zse k ks.length c&&l==[]&&r==[]&&Zjp ks)
def Zjp:List Prd→Bool
 | []=>true
 | p::ps=>Zcc p&&Zjp ps
end
def Zbs (p:Prd):Bool:=Zfa p&&Zcc p
theorem Ziv:∀ ks:List Prd,Zjp ks=true↔∀ q∈ks,Zcc q=true
 | []=>by simp[Zjp]
 | p::ps=>by simp[Zjp,Ziv ps]
theorem Zyn {c:Nat} (h:Zp5 c=true):c<128:=by
 simp only[Zp5,Zxx,Zzu,Bool.or_eq_true,Bool.and_eq_true,decide_eq_true_eq,beq_iff_eq] at h;omega
theorem Zmo {l:List Nat} (h:Zel l=true):(∀ y∈l,y<128∧y≠46)∧l.length≤20:=by
 simp only[Zel,Bool.and_eq_true,decide_eq_true_eq] at h;refine⟨fun y hy=>?_,h.1.2⟩;have:=List.all_eq_true.1 (Zos Zp5 l ▸ h.2) y hy;refine⟨Zyn this,?_⟩;rintro rfl;exact absurd this (by decide)
theorem Ziw {l:List Nat} (h:Zb8 l=true):∃ a b,l=a++46::b∧Zdw a=true∧Zdw b=true∧(∀ y∈a,y<128∧y≠46)∧(∀ y∈b,y<128∧y≠46)∧a.length≤20∧b.length≤20:=by
 unfold Zb8 at h;simp only[Bool.and_eq_true,decide_eq_true_eq] at h;obtain⟨h0,h1,h2⟩:=h;have f1:=Zmo (l:=l.take (Zbc Zai l)) (by unfold Zdw at h1;simp at h1;exact h1.1);have f2:=Zmo (l:=l.drop (Zbc Zai l+1)) (by unfold Zdw at h2;simp at h2;exact h2.1);refine⟨l.take (Zbc Zai l),l.drop (Zbc Zai l+1),?_,h1,h2,f1.1,f2.1,f1.2,f2.2⟩
 have hd:l[Zbc Zai l]?=some 46:=by
  have hx:l=l.takeWhile Zai++l.dropWhile Zai:=(List.takeWhile_append_dropWhile).symm;have hl:(l.takeWhile Zai).length=Zbc Zai l:=rfl
  have hne:l.dropWhile Zai≠[]:=by
   intro h;rw[h,List.append_nil] at hx;rw[← hl,← hx] at h0;exact absurd h0 (Nat.lt_irrefl _)
  obtain⟨c,r,hcr⟩:=List.exists_cons_of_ne_nil hne
  have hc:Zai c=false:=by
   have:=List.head_dropWhile_not Zai hne;simpa [hcr] using this
  have:c=46:=by simpa [Zai] using hc
  subst this;have e:l[Zbc Zai l]?=(l.takeWhile Zai++l.dropWhile Zai)[Zbc Zai l]?:=congrArg (fun m=>m[Zbc Zai l]?) hx;rw[e,List.getElem?_append_right (by rw[hl];exact Nat.le_refl _),hl,Nat.sub_self,hcr];rfl
 have h1:l=l.take (Zbc Zai l)++l.drop (Zbc Zai l):=(List.take_append_drop _ _).symm
 have h2:l.drop (Zbc Zai l)=46::l.drop (Zbc Zai l+1):=by
  have:=(List.getElem?_eq_some_iff.1 hd);rw[List.drop_eq_getElem_cons this.1,this.2]
 rw[h2] at h1;exact h1
theorem Zkz {l:List Nat} (h:Zh0 l=true):(∀ y∈l,y<256)∧l.length≤41:=by
 unfold Zh0 at h;rw[Bool.or_eq_true,beq_iff_eq] at h;rcases h with rfl | h
 ·simp
 ·obtain⟨a,b,rfl,_,_,h1,h2,h3,h4⟩:=Ziw h
  refine⟨fun y hy=>?_,by simp;omega⟩;rcases List.mem_append.1 hy with hy | hy
  ·have:=(h1 y hy).1;omega
  ·rcases List.mem_cons.1 hy with rfl | hy
   ·omega
   ·have:=(h2 y hy).1;omega
theorem Zz4 {l r:List Nat} {c:Int} (hl:Zh0 l=true) (hr:Zh0 r=true) (hc:inC c=true):KyOk ⟨l,r,c⟩:=by
 have h1:=Zkz hl;have h2:=Zkz hr;unfold inC at hc;simp only[Bool.and_eq_true,decide_eq_true_eq] at hc
 have hm:41≤maxLen:=by decide
 exact⟨h1.1,h2.1,Nat.le_trans h1.2 hm,Nat.le_trans h2.2 hm,by show _≤c;omega,by show c≤_;omega⟩
mutual
theorem Zd3:∀ p:Prd,Zcc p=true→∀ k∈Zdx p,KyOk k
 | .mk k l r c ks,h=>by
  unfold Zcc at h;unfold Zdx;by_cases h0:k=0
  ·rw[if_pos h0] at h ⊢
   simp only[Bool.and_eq_true] at h
   have hk:ks=[]:=by simpa using h.1.1.1
   subst hk;intro x hx;rw[show Zck []=[] from rfl,List.append_nil,List.mem_singleton] at hx;subst hx;exact Zz4 h.1.1.2 h.1.2 h.2
  ·rw[if_neg h0] at h ⊢
   simp only[Bool.and_eq_true] at h;intro x hx;rw[List.nil_append] at hx;exact Zj5 ks h.2 x hx
theorem Zj5:∀ ks:List Prd,Zjp ks=true→∀ k∈Zck ks,KyOk k
 | [],_=>by simp[Zck]
 | p::ps,h=>by
  unfold Zjp at h;rw[Bool.and_eq_true] at h;intro x hx;unfold Zck at hx;rcases List.mem_append.1 hx with hx | hx
  ·exact Zd3 p h.1 x hx
  ·exact Zj5 ps h.2 x hx
end
theorem Zqe (ks:List Prd) (i:Nat) (q:Prd) (h:ks[i]?=some q):Zck (ks.take (i+1))=Zck (ks.take i)++Zdx q:=by
 obtain⟨hi,rfl⟩:=List.getElem?_eq_some_iff.1 h;rw[List.take_add_one,List.getElem?_eq_getElem hi,Zl0];simp[Zck]
end
section
mutual
def Zdp (f:Ky→Bool):Prd→Bool
 | .mk k l r c ks=>if k=0 then f ⟨l,r,c⟩ else if k=1 then Zmp f ks==ks.length else if k=2 then decide (0<Zmp f ks) else decide (c≤(Zmp f ks:Int))
def Zmp (f:Ky→Bool):List Prd→Nat
 | []=>0
 | p::ps=>(if Zdp f p=true then 1 else 0)+Zmp f ps
end
theorem Zn0 (f:Ky→Bool) (a b:List Prd):Zmp f (a++b)=Zmp f a+Zmp f b:=by
 induction a with
 | nil=>simp[Zmp]
 | cons p ps ih=>simp only[List.cons_append,Zmp,ih];omega
theorem Zsf (f:Ky→Bool) (ks:List Prd) (i:Nat) (q:Prd) (h:ks[i]?=some q):Zmp f (ks.take (i+1))=Zmp f (ks.take i)+(if Zdp f q=true then 1 else 0):=by
 obtain⟨hi,rfl⟩:=List.getElem?_eq_some_iff.1 h;rw[List.take_add_one,List.getElem?_eq_getElem hi,Zn0];simp[Zmp]
end
section
open Go.RowKit Go.Sort Go.Maps
def Zfn (w:World) (b:Nat) (S:List Ky):Prop :=
 ∃ D:DataW Unit,w.ownsMap Tryz.prog 121 (plainElem Tryz.prog 4) b S.length D∧(∀ l,has D l=true↔∃ k∈S,Zcs k=l)∧∀ k∈S,∀ zd,D.atKey (Zcs k) zd = .lit (.bool true)
theorem Zcr {w w':World} (h:Below w.heap.size w w') (row:Option Nat):w.grownBy w' row:=⟨h.os,h.tape,h.output,h.size,fun i hi _=>h.block i hi⟩
theorem Zce {w w':World} {b:Nat} (h:w.grownBy w' (some b)):Only w w' (· = b):=⟨h.os,h.tape,h.output,h.size,fun i hi hp=>h.block i hi (fun e=>hp (Option.some.inj e))⟩
theorem Zfn.lt {w:World} {b:Nat} {S:List Ky} (h:Zfn w b S):b<w.heap.size:=by
 obtain⟨D,h1,_⟩:=h;exact h1.lt
theorem Zfn.step {w w':World} {b:Nat} {S:List Ky} (h:Zfn w b S) (hb:Below w.heap.size w w'):Zfn w' b S:=by
 obtain⟨D,h1,h2⟩:=h;exact⟨D,h1.kept (Zcr hb none) (by simp),h2⟩
theorem Zfn.only {w w':World} {b:Nat} {S:List Ky} {p:Nat→Prop} (h:Zfn w b S) (hb:Only w w' p) (hp:¬ p b):Zfn w' b S:=by
 have hl:=h.lt;obtain⟨D,h1,h2⟩:=h;obtain⟨es,clock,e1,F,hs,hD⟩:=h1;exact⟨D,⟨es,clock,(hb.block b hl hp).trans e1,F,hs,hD⟩,h2⟩
theorem Zfn.nil (w:World):Zfn (w.alloc (.map #[] 0)) w.heap.size []:=by
 refine⟨_,World.ownsMap_made w _ _ _,fun l=>?_,fun k hk=>absurd hk List.not_mem_nil⟩;constructor
 ·intro h;cases h
 ·rintro⟨k,hk,_⟩;exact absurd hk List.not_mem_nil
theorem Zix (k:Ky) (h:KyOk k):WideAt.IsKeyLit (Zcs k):=Zqd.key (Zfz k h)
theorem Zfn.put {w w':World} {b:Nat} {S:List Ky} {D:DataW Unit} (hS:∀ k∈S,KyOk k) (k:Ky) (hk:KyOk k) (h:w.ownsMap Tryz.prog 121 (plainElem Tryz.prog 4) b S.length D) (h1:∀ l,has D l=true↔∃ k∈S,Zcs k=l) (h2:∀ k∈S,∀ zd,D.atKey (Zcs k) zd = .lit (.bool true))
  (h':w'.ownsMap Tryz.prog 121 (plainElem Tryz.prog 4) b (S.length+1) (D.put (Zcs k) (.lit (.bool true)))):Zfn w' b (S++[k]):=by
 refine⟨_,by rw[List.length_append];exact h',fun l=>?_,fun x hx zd=>?_⟩
 ·by_cases he:l=Zcs k
  ·subst he
   rw[has_put_same h.isMap (Zix k hk)];exact⟨fun _=>⟨k,by simp,rfl⟩,fun _=>rfl⟩
  ·rw[has_put_other he,h1]
   constructor
   ·rintro⟨x,hx,hl⟩;exact⟨x,by simp[hx],hl⟩
   ·rintro⟨x,hx,hl⟩
    rcases List.mem_append.1 hx with hx | hx
    ·exact⟨x,hx,hl⟩
    ·rw[List.mem_singleton] at hx
     subst hx;exact absurd hl.symm he
 ·by_cases he:Zcs x=Zcs k
  ·rw[he,atKey_put_same h.isMap (Zix k hk)]
  ·rw[atKey_put_other he]
   rcases List.mem_append.1 hx with hx | hx
   ·exact h2 x hx zd
   ·rw[List.mem_singleton] at hx
    subst hx;exact absurd rfl he
theorem Zv9 (w:World) (l r:List Nat) (c:Int) (ao:Option Addr) (cap b:Nat) (S:List Ky) (hS:∀ k∈S,KyOk k) (hk:KyOk ⟨l,r,c⟩) (h:Zfn w b S) (hn:S.length<1000000) :
  Calls Tryz.prog 146 #[.agg #[.int .i64 0,.string (Zag l),.string (Zag r),.int .i64 c,.slice ao 0 cap],.map (some b)] w fun e w'=>e = .returned (.tuple #[])∧Zfn w' b (S++[⟨l,r,c⟩])∧Only w w' (· = b):=by
 have bx:=(Below.refl w.heap.size w).alloc (Nat.le_refl _) (.cells #[.int .i64 0,.string (Zag l),.string (Zag r),.int .i64 c,.slice ao 0 cap] 54);have S1:=ħ (h.step bx);have O1:=ħ (Only.of_below (p:=(· = b)) bx);have X1:Hid (Zaf (w.alloc (.cells #[.int .i64 0,.string (Zag l),.string (Zag r),.int .i64 c,.slice ao 0 cap] 54)) w.heap.size 54 [.int .i64 0,.string (Zag l),.string (Zag r),.int .i64 c,.slice ao 0 cap]):=ħ (heap_alloc_new w _);have HK:=ħ (fun w=>Zme 0 l r c (.slice ao 0 cap) rfl w);have HKO:=ħ hk;have HKY:=ħ (Zfz _ hk);have HS:=ħ hS;have HN:Hid (S.length<maxLen):=ħ (Nat.lt_trans hn (by decide));have hkc:(Z0n l r c).toArray=(kyC ⟨l,r,c⟩).toArray:=rfl;rw[hkc] at HK;have XB:Hid (b<w.heap.size):=ħ h.lt;have HKC:Hid ((kyC ⟨l,r,c⟩).toArray=(kyC ⟨l,r,c⟩).toArray):=ħ rfl;clear bx h hk hS hn hkc;generalize hKY:(⟨l,r,c⟩:Ky)=K at *;clear hKY;generalize Zag l=y at *;generalize Zag r=z at *;generalize (kyC K).toArray=kv at *
 go_enter Tryz.func146,Tryz.ntmps146
 go_upto_region 1 with (fail)
 generalize w.alloc (.cells #[.int .i64 0,.string y,.string z,.int .i64 c,.slice ao 0 cap] 54)=w1 at *;have x0:=X1.o.cell 0 _ rfl
 go_wp2_with (refine wpList_load_row rfl 54 (.tmp 2) rfl w.heap.size ?x1 54 (Z0o 0 y z c ao 0 cap).toArray (0,0) _ X1.o Tryz.underlying54 rfl (Zbz _ rfl) ?_;(case x1=>rfl))
 refine (HK.o w1).mono ?_;rintro e w2 ⟨rfl,b2⟩;have S2:=ħ (S1.o.step b2);have O2:=ħ (O1.o.step b2);have X2:=ħ (X1.o.step b2);clear b2 x0 X1 S1 O1;obtain⟨D,hown,hh,ha⟩:=S2.o;have HH:=ħ hh;have HA:=ħ ha;have HO:=ħ hown;clear hh ha hown
 go_wp2_with (at_mapUpdate;refine wpList_mapUpdate_own _ rfl (.tmp 9) (.tmp 11) _ 166 rfl 121 4 Zqd Tryz.underlying166 (plainElem Tryz.prog 4) b S.length D rfl HO.o HN.o (.agg kv) (.bool true) (Zcs K) rfl rfl HKY.o (.lit (.bool true)) [] (plainElem_bool Tryz.underlying4 true) ?_;intro w3 hown3 hgrow3;have S3:=ħ (Zfn.put HS.o K HKO.o HO.o HH.o HA.o hown3);have O3:=ħ (O2.o.trans (Zce hgrow3));have X3:=ħ (X2.o.grownBy hgrow3 (by intro e;have:=XB.o;have:=Option.some.inj e;omega));have x4:=X3.o.cell 4 _ rfl;clear hown3 hgrow3)
 refine wp_loop_rounds 1 ?_;rw[rounds_succ];go_wp2
 go_end0
 exact⟨rfl,S3.o,O3.o⟩
theorem Zwa (w:World) (P:Nat→Prop) (κ:Int) (l r:List Nat) (c:Int) (ks:List Prd) (ao:Option Addr) (n cap:Nat) (hκ:κ≠0) (hn:n=ks.length) (hbig:n≤1000000)
  (hk:ks=[]∨∃ g off,ao=some ⟨g,off,none⟩∧P g∧g<w.heap.size∧Za6 w P ks g off)
  (b:Nat) (S:List Ky) (h:Zfn w b S) (hPb:∀ g,P g→g≠b)
  (ih:∀ (q:Prd) (w:World) (vs:List Value) (pre:List Prd),q∈ks→pre++[q] <+: ks→Zal w P q vs→Zfn w b (S++Zck pre)→Calls Tryz.prog 146 #[.agg vs.toArray,.map (some b)] w fun e w'=>e = .returned (.tuple #[])∧Zfn w' b (S++Zck pre++Zdx q)∧Only w w' (· = b)) :
  Calls Tryz.prog 146 #[.agg #[.int .i64 κ,.string (Zag l),.string (Zag r),.int .i64 c,.slice ao n cap],.map (some b)] w fun e w'=>e = .returned (.tuple #[])∧Zfn w' b (S++Zck ks)∧Only w w' (· = b):=by
 have HK:=ħ hk;have IH:=ħ ih;have HN:=ħ hn;have HPB:=ħ hPb;have hκb:(κ==0)=false:=beq_eq_false_iff_ne.mpr hκ;have bx:=(Below.refl w.heap.size w).alloc (Nat.le_refl _) (.cells #[.int .i64 κ,.string (Zag l),.string (Zag r),.int .i64 c,.slice ao n cap] 54);have S1:=ħ (h.step bx);have O1:=ħ (Only.of_below (p:=(· = b)) bx);have X1:Hid (Zaf (w.alloc (.cells #[.int .i64 κ,.string (Zag l),.string (Zag r),.int .i64 c,.slice ao n cap] 54)) w.heap.size 54 [.int .i64 κ,.string (Zag l),.string (Zag r),.int .i64 c,.slice ao n cap]):=ħ (heap_alloc_new w _);clear bx h hk ih hn hPb hκ;generalize Zag l=y at *;generalize Zag r=z at *
 go_enter Tryz.func146,Tryz.ntmps146
 go_upto_region 1 with (fail)
 generalize w.alloc (.cells #[.int .i64 κ,.string y,.string z,.int .i64 c,.slice ao n cap] 54)=w1 at *;have x0:=X1.o.cell 0 _ rfl;have x4:=X1.o.cell 4 _ rfl
 go_wp2_with fail
 clear x4 x0 X1
 go_loopw [15] (fun cc wr=>∃ (i:Nat),cc = .int .i64 i∧i≤n∧Hid (Zfn wr b (S++Zck (ks.take i)))∧Hid (Only w wr (· = b))) (fun c _=>(n-intOf c).toNat)
 case atStart=>exact⟨0,rfl,by omega,ħ (by simpa [Zck] using S1.o),O1⟩
 case round =>
  clear S1 O1;obtain⟨i,rfl,hi,hq,ho⟩:=hrel;have e2:IntKind.i64.wrap ((i:Int)+1)=((i+1:Nat):Int):=IntWalk.i64_in _ (by omega);by_cases hlt:i<n
  ·have ii:(i:Int)<n:=by omega
   have HQ:Hid (∃ q,ks[i]?=some q∧∃ g off,ao=some ⟨g,off,none⟩∧g<w.heap.size∧∃ vs,Zal wr P q vs∧Zas wr g (off+i*5) vs):=ħ (by
    have hl:i<ks.length:=by rw[← HN.o];exact hlt
    refine⟨ks[i],List.getElem?_eq_getElem hl,?_⟩;rcases HK.o with h | ⟨g,off,h1,h2,h3,h4⟩
    ·rw[h] at hl;exact absurd hl (Nat.not_lt_zero _)
    ·obtain⟨vs,hv1,hv2⟩:=Za6.at ks g off i _ (List.getElem?_eq_getElem hl) h4
     exact⟨g,off,h1,h3,vs,Zal.keep (fun x hx hl=>ho.o.block x hl (HPB.o x hx)) ho.o.size (fun x hx _=>hx) _ _ hv1,hv2.of_block (ho.o.block g h3 (HPB.o g h2))⟩)
   obtain⟨q,hqi,g,off,hao,hg,vs,hpc,hrd⟩:=HQ.o;clear HQ;have HQI:=ħ hqi;obtain⟨xa,xn,xc,hvf,-⟩:=hpc.form;rw[hvf] at hrd hpc;have PC:=ħ hpc;have s0:=hrd 0 _ rfl;have s1:=hrd 1 _ rfl;have s2:=hrd 2 _ rfl;have s3:=hrd 3 _ rfl;have s4:=hrd 4 _ rfl;clear hrd hpc hvf vs hqi;rw[Nat.add_zero] at s0;have HAO:=ħ hao;subst hao;generalize q.k=q0 at *;generalize Zag q.l=q1 at *;generalize Zag q.r=q2 at *;generalize q.c=q3 at *
   go_wp2_with fail
   have bx:=(Below.refl wr.heap.size wr).alloc (Nat.le_refl _) (.cells #[.int .i64 q0,.string q1,.string q2,.int .i64 q3,.slice xa xn xc] 54);have hq2:=ħ (hq.o.step bx);have ho2:=ħ (ho.o.step bx);have PX:=ħ (PC.o.below bx);clear s0 s1 s2 s3 s4 bx hq ho PC;generalize wr.alloc (.cells #[.int .i64 q0,.string q1,.string q2,.int .i64 q3,.slice xa xn xc] 54)=wx at *
   have HPRE:Hid (ks.take i++[q] <+: ks):=ħ (by
    have:ks.take i++[q]=ks.take (i+1):=by rw[List.take_add_one,HQI.o];rfl
    rw[this];exact List.take_prefix _ _)
   refine (IH.o q wx _ (ks.take i) (List.mem_of_getElem? HQI.o) HPRE.o PX.o hq2.o).mono ?_;rintro e w3 ⟨rfl,s3,o3⟩;have S3:=ħ (show Zfn w3 b (S++Zck (ks.take (i+1))) by rw[Zqe ks i q HQI.o,← List.append_assoc];exact s3);have O3:=ħ (ho2.o.trans o3);clear s3 o3 hq2 ho2
   go_wp2
   go_roundw
   case rel=>exact⟨i+1,by go_num,by omega,S3,O3⟩
   case measure=>simp only[intOf];omega
  ·have ii:¬ ((i:Int)<n):=by omega
   have HT:Hid (ks.take i=ks):=ħ (by rw[show i=ks.length by rw[← HN.o];omega,List.take_length])
   go_wp2
   go_end0
   exact⟨rfl,by have:=hq.o;rwa [HT.o] at this,ho.o⟩
theorem Ziy:∀ (N:Nat) (p:Prd) (w:World) (P:Nat→Prop) (vs:List Value) (b:Nat) (S:List Ky),Zdn p≤N→Zcc p=true→S.length+Zdn p≤1000000→(∀ k∈S,KyOk k)→Zal w P p vs→Zfn w b S→(∀ g,P g→g≠b) →
  Calls Tryz.prog 146 #[.agg vs.toArray,.map (some b)] w fun e w'=>e = .returned (.tuple #[])∧Zfn w' b (S++Zdx p)∧Only w w' (· = b)
 | 0,p,w,P,vs,b,S,hN,_,_,_,_,_,_=>by have:=Zgp p;omega
 | N+1,.mk κ l r c ks,w,P,vs,b,S,hN,hf,hc,hS,h,hs,hPb=>by
  have hc2:Zec ks≤N:=by unfold Zdn at hN;omega
  have hl:=Zcn ks
  have hc3:S.length+(1+Zec ks)≤1000000:=by unfold Zdn at hc;exact hc
  have HFK:=Zd3 _ hf;unfold Zal at h;obtain⟨ao,cap,rfl,hk⟩:=h;unfold Zcc at hf;by_cases hκ:κ=0
  ·rw[if_pos hκ] at hf
   simp only[Bool.and_eq_true] at hf
   have hkn:ks=[]:=by simpa using hf.1.1.1
   subst hkn;subst hκ;have:=Zv9 w l r c ao cap b S hS (Zz4 hf.1.1.2 hf.1.2 hf.2) hs (by omega);simpa [Zdx,Zck] using this
  ·rw[if_neg hκ] at hf
   simp only[Bool.and_eq_true] at hf;have hfk:=(Ziv ks).1 hf.2
   have:=Zwa w P κ l r c ks ao ks.length cap hκ rfl (by omega) hk b S hs hPb (fun q w' us pre hq hpre hpc hs'=>by
    obtain⟨i,hi⟩:=List.mem_iff_getElem?.1 hq;have hck:=Zgq ks i q hi;obtain⟨tl,htl⟩:=hpre
    have hcp:Zec pre+Zdn q≤Zec ks:=by
     rw[← htl,Zdc,Zdc];simp[Zec]
    have hkl:=Zim pre
    exact Ziy N q w' P us b (S++Zck pre) (by omega) (hfk q hq) (by rw[List.length_append];omega) (fun k hk'=>by
     rcases List.mem_append.1 hk' with hk' | hk'
     ·exact hS k hk'
     ·obtain⟨q',hq',hkq⟩:=(Zik k pre).1 hk'
      have:q'∈ks:=by rw[← htl];simp[hq']
      exact Zd3 q' (hfk q' this) k hkq) hpc hs' hPb)
   have e:Zdx (.mk κ l r c ks)=Zck ks:=by unfold Zdx;rw[if_neg hκ,List.nil_append]
   rw[e];exact this
end
section
theorem Zqf {p:Prd} (h:Zbs p=true):Zcc p=true:=by unfold Zbs at h;rw[Bool.and_eq_true] at h;exact h.2
end
end Go.Proofs.YtbcgocpihobjnaaGreatDoor
