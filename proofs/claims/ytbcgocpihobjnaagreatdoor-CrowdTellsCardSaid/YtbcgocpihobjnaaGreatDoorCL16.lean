import Derived.DeepKeys4
import Derived.Maps.RangeWalk
import Derived.Maps.Own
import Derived.Maps.OwnSet
import Derived.Test.YtbcgocpihobjnaaGreatDoorCL15
set_option linter.all false
set_option maxHeartbeats 8000000
set_option maxRecDepth 100000
namespace Go.Proofs.YtbcgocpihobjnaaGreatDoor
section
open Go.RowKit Go.Sort Go.Maps
structure KyOk (k:Ky):Prop where
 lb:∀ y∈k.l,y<256
 rb:∀ y∈k.r,y<256
 ll:k.l.length<=maxLen
 rl:k.r.length<=maxLen
 lo:-9223372036854775808<=k.c
 hi:k.c<=9223372036854775807
theorem KyOk.bytes{k:Ky}(h:KyOk k):KyB k:=⟨h.lb,h.rb⟩
theorem TG:laidOutB Tryz.prog=true:=by kernel_rfl
theorem Z5b:(121:TypeId) < Tryz.prog.types.size:=of_decide_eq_true (by kernel_rfl)
theorem Z35:Tryz.prog.keyTypeAt 2 121=true:=by kernel_rfl
theorem Z28:WideMaps.KeyLaw Tryz.prog 121:=deep_law_laid TG (m:=2) (by omega) Z5b Z35 (by rw[Tryz.underlying121])
theorem Vr:Keyed Tryz.prog 121:=Keyed.of_law Z28
def mJ(k:Ky):Lit:=.string (keyBytes [.string (aB k.l).data.toList,.string (aB k.r).data.toList,.int .i64 k.c])
theorem Z1x:Tryz.prog.keyType 121=true:=by kernel_rfl
theorem TH:Tryz.prog.cellsOf 121=3:=by kernel_rfl
theorem TI:∃ n,Tryz.prog.types.size+1=n+2:=by
 refine⟨Tryz.prog.types.size-1,?_⟩;have h:1<=Tryz.prog.types.size:=of_decide_eq_true (by kernel_rfl);omega
theorem ed(k:Ky)(h:KyOk k):keyOf Tryz.prog 121 (.agg (kyC k).toArray)=some (mJ k):=by
 obtain⟨n,hn⟩:=TI
 have hf:(Value.agg (kyC k).toArray).formed Tryz.prog 121=true:=by
  unfold Value.formed;rw[Tryz.underlying121];simp[kyC,TH]
 have h1:(aB k.l).size<=maxLen:=by rw[tH];exact h.ll
 have h2:(aB k.r).size<=maxLen:=by rw[tH];exact h.rl
 have h3:(Lit.int .i64 k.c).wf=true:=by
  have e1:IntKind.i64.min = -9223372036854775808:=by decide
  have e2:IntKind.i64.max=9223372036854775807:=by decide
  show(decide (IntKind.i64.min<=k.c)&&decide (k.c<=IntKind.i64.max))=true;rw[e1,e2,decide_eq_true h.lo,decide_eq_true h.hi];rfl
 have c9:Tryz.prog.cellsOf 9=1:=by kernel_rfl
 have c3:Tryz.prog.cellsOf 3=1:=by kernel_rfl
 unfold keyOf;rw[Tryz.underlying121];simp only[Z1x,hf,Bool.and_self,if_true,hn]
 have hx:Tryz.prog.keyLits (n+2) 121 (kyC k)=some [.string (aB k.l).data.toList,.string (aB k.r).data.toList,.int .i64 k.c]:=by
  unfold Program.keyLits;rw[Tryz.underlying121];simp[kyC,TH,c9,c3,Program.keyLits,Tryz.underlying9,Tryz.underlying3,h1,h2,h3]
 show(Tryz.prog.keyLits (n+2) 121 ((kyC k).toArray.toList)).map (fun ls=>Lit.string (keyBytes ls))=some (mJ k);rw[List.toList_toArray,hx];rfl
theorem TJ(k k':Ky)(h:KyOk k)(h':KyOk k')(e:mJ k=mJ k'):k=k':=by
 have h1:=ed k h;have h2:=ed k' h';rw[e] at h1;have:=Vr.inj h1 h2;obtain⟨l,r,c⟩:=k;obtain⟨l',r',c'⟩:=k';simp only[kyC,Value.agg.injEq,List.toArray_inj,Array.mk.injEq,List.cons.injEq,Value.string.injEq,Value.int.injEq,and_true,true_and] at this;obtain⟨e1,e2,e3⟩:=this;have f1:l=l':=ef l l' h.lb h'.lb (by rw[<- Nq,<- Nq,e1]);have f2:r=r':=ef r r' h.rb h'.rb (by rw[<- Nq,<- Nq,e2]);subst f1;subst f2;subst e3;rfl
end
section
def nF(l:List Nat):Bool:=l==[]||iG l
def inC(c:Int):Bool:=decide (-1099511627776<=c)&&decide (c<1099511627776)
def mK(k:Int)(n:Nat)(c:Int):Bool:=((k==1||k==2)&&decide (2<=n)&&c==0)||(k==3&&decide (1<=c)&&decide (c<=(n:Int)))
mutual
def dV:Prd->Bool
 | .mk k l r c ks=>if k=0 then(ks.isEmpty&&nF l&&nF r&&inC c) else(mK k ks.length c&&l==[]&&r==[]&&zX ks)
def zX:List Prd->Bool
 | []=>true
 | p::ps=>dV p&&zX ps
end
def jV(p:Prd):Bool:=sA p&&dV p
theorem DF:∀ ks:List Prd,zX ks=true↔∀ q∈ks,dV q=true
 | []=>by simp[zX]
 | p::ps=>by simp[zX,DF ps]
theorem Z1y{c:Nat}(h:jR c=true):c<128:=by
 simp only[jR,tX,Ko,Bool.or_eq_true,dB,decide_eq_true_eq,beq_iff_eq] at h;omega
theorem TK{l:List Nat}(h:nD l=true):(∀ y∈l,y<128/\y≠46)/\l.length<=20:=by
 simp only[nD,dB,decide_eq_true_eq] at h;refine⟨fun y hy=>?_,h.1.2⟩;have:=List.all_eq_true.1 (BL jR l ▸ h.2) y hy;refine⟨Z1y this,?_⟩;rintro rfl;exact absurd this (by decide)
theorem TL{l:List Nat}(h:iG l=true):∃ a b,l=a++46::b/\gX a=true/\gX b=true/\(∀ y∈a,y<128/\y≠46)/\(∀ y∈b,y<128/\y≠46)/\a.length<=20/\b.length<=20:=by
 unfold iG at h;simp only[dB,decide_eq_true_eq] at h;obtain⟨h0,h1,h2⟩:=h;have f1:=TK (l:=l.take (bL bO l)) (by unfold gX at h1;simp at h1;exact h1.1);have f2:=TK (l:=l.drop (bL bO l+1)) (by unfold gX at h2;simp at h2;exact h2.1);refine⟨l.take (bL bO l),l.drop (bL bO l+1),?_,h1,h2,f1.1,f2.1,f1.2,f2.2⟩
 have hd:l[bL bO l]?=some 46:=by
  have hx:l=l.takeWhile bO++l.dropWhile bO:=(List.takeWhile_append_dropWhile).symm;have hl:(l.takeWhile bO).length=bL bO l:=rfl
  have cT:l.dropWhile bO≠[]:=by
   intro h;rw[h,List.append_nil] at hx;rw[<- hl,<- hx] at h0;exact absurd h0 (Nat.lt_irrefl _)
  obtain⟨c,r,Jd⟩:=List.exists_cons_of_ne_nil cT
  have hc:bO c=false:=by
   have:=List.head_dropWhile_not bO cT;simpa [Jd] using this
  have:c=46:=by simpa [bO] using hc
  subst this;have e:l[bL bO l]?=(l.takeWhile bO++l.dropWhile bO)[bL bO l]?:=congrArg (fun m=>m[bL bO l]?) hx;rw[e,List.getElem?_append_right (by rw[hl];exact aO _),hl,Nat.sub_self,Jd];rfl
 have h1:l=l.take (bL bO l)++l.drop (bL bO l):=(List.take_append_drop _ _).symm
 have h2:l.drop (bL bO l)=46::l.drop (bL bO l+1):=by
  have:=(fD.1 hd);rw[List.drop_eq_getElem_cons this.1,this.2]
 rw[h2] at h1;exact h1
theorem mw{l:List Nat}(h:nF l=true):(∀ y∈l,y<256)/\l.length<=41:=by
 unfold nF at h;rw[Bool.or_eq_true,beq_iff_eq] at h;rcases h with rfl | h
 ·simp
 ·obtain⟨a,b,rfl,_,_,h1,h2,h3,h4⟩:=TL h
  refine⟨fun y hy=>?_,by simp;omega⟩;rcases kI.1 hy with hy | hy
  ·have:=(h1 y hy).1;omega
  ·rcases List.mem_cons.1 hy with rfl | hy
   ·omega
   ·have:=(h2 y hy).1;omega
theorem TM{l r:List Nat}{c:Int}(hl:nF l=true)(hr:nF r=true)(hc:inC c=true):KyOk ⟨l,r,c⟩:=by
 have h1:=mw hl;have h2:=mw hr;unfold inC at hc;simp only[dB,decide_eq_true_eq] at hc
 have hm:41<=maxLen:=by decide
 exact⟨h1.1,h2.1,dQ h1.2 hm,dQ h2.2 hm,by show _<=c;omega,by show c<=_;omega⟩
mutual
theorem Vs:∀ p:Prd,dV p=true->∀ k∈oI p,KyOk k
 | .mk k l r c ks,h=>by
  unfold dV at h;unfold oI;by_cases h0:k=0
  ·rw[if_pos h0] at h ⊢
   simp only[dB] at h
   have hk:ks=[]:=by simpa using h.1.1.1
   subst hk;intro x hx;rw[show jB []=[] from rfl,List.append_nil,List.mem_singleton] at hx;subst hx;exact TM h.1.1.2 h.1.2 h.2
  ·rw[if_neg h0] at h ⊢
   simp only[dB] at h;intro x hx;rw[List.nil_append] at hx;exact TN ks h.2 x hx
theorem TN:∀ ks:List Prd,zX ks=true->∀ k∈jB ks,KyOk k
 | [],_=>by simp[jB]
 | p::ps,h=>by
  unfold zX at h;rw[dB] at h;intro x hx;unfold jB at hx;rcases kI.1 hx with hx | hx
  ·exact Vs p h.1 x hx
  ·exact TN ps h.2 x hx
end
theorem Zta(ks:List Prd)(i:Nat)(q:Prd)(h:ks[i]?=some q):jB (ks.take (i+1))=jB (ks.take i)++oI q:=by
 obtain⟨hi,rfl⟩:=fD.1 h;rw[lN,aL hi,B_];simp[jB]
end
section
mutual
def lW(f:Ky->Bool):Prd->Bool
 | .mk k l r c ks=>if k=0 then f ⟨l,r,c⟩ else if k=1 then kS f ks==ks.length else if k=2 then decide (0<kS f ks) else decide (c<=(kS f ks:Int))
def kS(f:Ky->Bool):List Prd->Nat
 | []=>0
 | p::ps=>(if lW f p=true then 1 else 0)+kS f ps
end
theorem TO(f:Ky->Bool)(a b:List Prd):kS f (a++b)=kS f a+kS f b:=by
 induction a with
 | nil=>simp[kS]
 | cons p ps ih=>simp only[List.cons_append,kS,ih];omega
theorem Zvm(f:Ky->Bool)(ks:List Prd)(i:Nat)(q:Prd)(h:ks[i]?=some q):kS f (ks.take (i+1))=kS f (ks.take i)+(if lW f q=true then 1 else 0):=by
 obtain⟨hi,rfl⟩:=fD.1 h;rw[lN,aL hi,TO];simp[kS]
end
section
open Go.RowKit Go.Sort Go.Maps
def lX(w:World)(b:Nat)(S:List Ky):Prop :=
 ∃ D:DataW Unit,w.ownsMap Tryz.prog 121 (plainElem Tryz.prog 4) b S.length D/\(∀ l,has D l=true↔∃ k∈S,mJ k=l)/\∀ k∈S,∀ zd,D.atKey (mJ k) zd = .lit (.bool true)
theorem mx{w w':World}(h:Below w.heap.size w w')(row:Option Nat):w.grownBy w' row:=⟨h.os,h.tape,h.output,h.size,fun i hi _=>h.block i hi⟩
theorem eh{w w':World}{b:Nat}(h:w.grownBy w' (some b)):Only w w' (· = b):=⟨h.os,h.tape,h.output,h.size,fun i hi hp=>h.block i hi (fun e=>hp (bF e))⟩
theorem lX.lt{w:World}{b:Nat}{S:List Ky}(h:lX w b S):b<w.heap.size:=by
 obtain⟨D,h1,_⟩:=h;exact h1.lt
theorem lX.step{w w':World}{b:Nat}{S:List Ky}(h:lX w b S)(hb:Below w.heap.size w w'):lX w' b S:=by
 obtain⟨D,h1,h2⟩:=h;exact⟨D,h1.kept (mx hb none) (by simp),h2⟩
theorem lX.nil(w:World):lX (w.alloc (.map #[] 0)) w.heap.size []:=by
 refine⟨_,World.ownsMap_made w _ _ _,fun l=>?_,fun k hk=>absurd hk List.not_mem_nil⟩;constructor
 ·intro h;cases h
 ·rintro⟨k,hk,_⟩;exact absurd hk List.not_mem_nil
theorem DG(k:Ky)(h:KyOk k):WideAt.IsKeyLit (mJ k):=Vr.key (ed k h)
theorem lX.put {w w':World} {b:Nat} {S:List Ky} {D:DataW Unit} (hS:∀ k∈S,KyOk k) (k:Ky) (hk:KyOk k) (h:w.ownsMap Tryz.prog 121 (plainElem Tryz.prog 4) b S.length D) (h1:∀ l,has D l=true↔∃ k∈S,mJ k=l) (h2:∀ k∈S,∀ zd,D.atKey (mJ k) zd = .lit (.bool true))
  (h':w'.ownsMap Tryz.prog 121 (plainElem Tryz.prog 4) b (S.length+1) (D.put (mJ k) (.lit (.bool true)))):lX w' b (S++[k]):=by
 refine⟨_,by rw[gL];exact h',fun l=>?_,fun x hx zd=>?_⟩
 ·by_cases he:l=mJ k
  ·subst he
   rw[has_put_same h.isMap (DG k hk)];exact⟨fun _=>⟨k,by simp,rfl⟩,fun _=>rfl⟩
  ·rw[has_put_other he,h1]
   constructor
   ·rintro⟨x,hx,hl⟩;exact⟨x,by simp[hx],hl⟩
   ·rintro⟨x,hx,hl⟩
    rcases kI.1 hx with hx | hx
    ·exact⟨x,hx,hl⟩
    ·rw[List.mem_singleton] at hx
     subst hx;exact absurd hl.symm he
 ·by_cases he:mJ x=mJ k
  ·rw[he,atKey_put_same h.isMap (DG k hk)]
  ·rw[atKey_put_other he]
   rcases kI.1 hx with hx | hx
   ·exact h2 x hx zd
   ·rw[List.mem_singleton] at hx
    subst hx;exact absurd rfl he
theorem Zzj(w:World)(l r:List Nat)(c:Int)(ao:Option Addr)(cap b:Nat)(S:List Ky)(hS:∀ k∈S,KyOk k)(hk:KyOk ⟨l,r,c⟩)(h:lX w b S)(hn:S.length<1000000) :
  Calls Tryz.prog 146 #[.agg #[.int .i64 0,.string (aB l),.string (aB r),.int .i64 c,.slice ao 0 cap],.map (some b)] w fun e w'=>e = .returned (.tuple #[])/\lX w' b (S++[⟨l,r,c⟩])/\Only w w' (· = b):=by
 have bx:=bwA w (.cells #[.int .i64 0,.string (aB l),.string (aB r),.int .i64 c,.slice ao 0 cap] 54);have S1:=I (h.step bx);have O1:=I (Only.of_below (p:=(· = b)) bx);have X1:=hnw w 54 [.int .i64 0,.string (aB l),.string (aB r),.int .i64 c,.slice ao 0 cap];have HK:=I (fun w=>RP 0 l r c (.slice ao 0 cap) rfl w);have Wt:=I hk;have Pj:=I (ed _ hk);have HS:=I hS;have HN:Hid (S.length<maxLen):=I (Nat.lt_trans hn (by decide));have Pk:(lu l r c).toArray=(kyC ⟨l,r,c⟩).toArray:=rfl;rw[Pk] at HK;have XB:Hid (b<w.heap.size):=I h.lt;have qy:Hid ((kyC ⟨l,r,c⟩).toArray=(kyC ⟨l,r,c⟩).toArray):=I rfl;clear bx h hk hS hn Pk;generalize hKY:(⟨l,r,c⟩:Ky)=K at *;clear hKY;generalize aB l=y at *;generalize aB r=z at *;generalize (kyC K).toArray=kv at *
 go_enter Tryz.func146,Tryz.ntmps146
 go_upto_region 1 with(fail)
 generalize w.alloc (.cells #[.int .i64 0,.string y,.string z,.int .i64 c,.slice ao 0 cap] 54)=w1 at *;have x0:=X1.o.cell 0 _ rfl
 go_wp2_with (refine wpList_load_row rfl 54 (.tmp 2) rfl w.heap.size ?x1 54 (lw 0 y z c ao 0 cap).toArray (0,0) _ X1.o Tryz.underlying54 rfl (oT _ rfl) ?_;(case x1=>rfl))
 refine(HK.o w1).mono ?_;rintro e w2 ⟨rfl,b2⟩;have S2:=I (S1.o.step b2);have O2:=I (O1.o.step b2);have X2:=I (X1.o.step b2);clear b2 x0 X1 S1 O1;obtain⟨D,bD,hh,ha⟩:=S2.o;have HH:=I hh;have HA:=I ha;have HO:=I bD;clear hh ha bD
 go_wp2_with (at_mapUpdate;refine wpList_mapUpdate_own _ rfl (.tmp 9) (.tmp 11) _ 166 rfl 121 4 Vr Tryz.underlying166 (plainElem Tryz.prog 4) b S.length D rfl HO.o HN.o (.agg kv) (.bool true) (mJ K) rfl rfl Pj.o (.lit (.bool true)) [] (plainElem_bool Tryz.underlying4 true) ?_;intro w3 Lr uM;have S3:=I (lX.put HS.o K Wt.o HO.o HH.o HA.o Lr);have O3:=I (O2.o.trans (eh uM));have X3:=I (X2.o.grownBy uM (by intro e;have:=XB.o;have:=bF e;omega));have x4:=X3.o.cell 4 _ rfl;clear Lr uM)
 refine wp_loop_rounds 1 ?_;rw[rounds_succ];go_wp2
 go_end0
 exact⟨rfl,S3.o,O3.o⟩
theorem Zzk (w:World) (P:Nat->Prop) (κ:Int) (l r:List Nat) (c:Int) (ks:List Prd) (ao:Option Addr) (n cap:Nat) (hκ:κ≠0) (hn:n=ks.length) (bN:n<=1000000)
  (hk:ks=[]\/∃ g off,ao=some ⟨g,off,none⟩/\P g/\g<w.heap.size/\gE w P ks g off)
  (b:Nat) (S:List Ky) (h:lX w b S) (hPb:∀ g,P g->g≠b)
  (ih:∀ (q:Prd) (w:World) (vs:List Value) (pre:List Prd),q∈ks->pre++[q] <+: ks->cK w P q vs->lX w b (S++jB pre)->Calls Tryz.prog 146 #[.agg vs.toArray,.map (some b)] w fun e w'=>e = .returned (.tuple #[])/\lX w' b (S++jB pre++oI q)/\Only w w' (· = b)) :
  Calls Tryz.prog 146 #[.agg #[.int .i64 κ,.string (aB l),.string (aB r),.int .i64 c,.slice ao n cap],.map (some b)] w fun e w'=>e = .returned (.tuple #[])/\lX w' b (S++jB ks)/\Only w w' (· = b):=by
 have HK:=I hk;have IH:=I ih;have HN:=I hn;have lB:=I hPb;have hκb:(κ==0)=false:=beq_eq_false_iff_ne.mpr hκ;have bx:=bwA w (.cells #[.int .i64 κ,.string (aB l),.string (aB r),.int .i64 c,.slice ao n cap] 54);have S1:=I (h.step bx);have O1:=I (Only.of_below (p:=(· = b)) bx);have X1:=hnw w 54 [.int .i64 κ,.string (aB l),.string (aB r),.int .i64 c,.slice ao n cap];clear bx h hk ih hn hPb hκ;generalize aB l=y at *;generalize aB r=z at *
 go_enter Tryz.func146,Tryz.ntmps146
 go_upto_region 1 with(fail)
 generalize w.alloc (.cells #[.int .i64 κ,.string y,.string z,.int .i64 c,.slice ao n cap] 54)=w1 at *;have x0:=X1.o.cell 0 _ rfl;have x4:=X1.o.cell 4 _ rfl
 go_wp2_with fail
 clear x4 x0 X1
 go_loopw [15] (fun cc wr=>∃ (i:Nat),cc = .int .i64 i/\i<=n/\Hid (lX wr b (S++jB (ks.take i)))/\Hid (Only w wr (· = b))) (fun c _=>(n-intOf c).toNat)
 case atStart=>exact⟨0,rfl,by omega,I (by simpa [jB] using S1.o),O1⟩
 case round =>
  clear S1 O1;obtain⟨i,rfl,hi,hq,ho⟩:=hrel;have e2:=w1i i (by omega);by_cases aE:i<n
  ·have ii:(i:Int)<n:=by omega
   have HQ:Hid (∃ q,ks[i]?=some q/\∃ g off,ao=some ⟨g,off,none⟩/\g<w.heap.size/\∃ vs,cK wr P q vs/\dD wr g (off+i*5) vs):=I (by
    have hl:i<ks.length:=by rw[<- HN.o];exact aE
    refine⟨ks[i],aL hl,?_⟩;rcases HK.o with h | ⟨g,off,h1,h2,h3,h4⟩
    ·rw[h] at hl;exact absurd hl (jU _)
    ·obtain⟨vs,nU,qD⟩:=gE.at ks g off i _ (aL hl) h4
     exact⟨g,off,h1,h3,vs,cK.keep (fun x hx hl=>ho.o.block x hl (lB.o x hx)) ho.o.size (fun x hx _=>hx) _ _ nU,qD.of_block (ho.o.block g h3 (lB.o g h2))⟩)
   obtain⟨q,bX,g,off,bI,hg,vs,bH,aH⟩:=HQ.o;clear HQ;have gZ:=I bX;obtain⟨xa,xn,xc,mS,-⟩:=bH.form;rw[mS] at aH bH;have PC:=I bH;have s0:=aH 0 _ rfl;have s1:=aH 1 _ rfl;have s2:=aH 2 _ rfl;have s3:=aH 3 _ rfl;have s4:=aH 4 _ rfl;clear aH bH mS vs bX;rw[Nat.add_zero] at s0;have mT:=I bI;subst bI;generalize q.k=q0 at *;generalize aB q.l=q1 at *;generalize aB q.r=q2 at *;generalize q.c=q3 at *
   go_wp2_with fail
   have bx:=bwA wr (.cells #[.int .i64 q0,.string q1,.string q2,.int .i64 q3,.slice xa xn xc] 54);have qU:=I (hq.o.step bx);have iX:=I (ho.o.step bx);have PX:=I (PC.o.below bx);clear s0 s1 s2 s3 s4 bx hq ho PC;generalize wr.alloc (.cells #[.int .i64 q0,.string q1,.string q2,.int .i64 q3,.slice xa xn xc] 54)=wx at *
   have Je:Hid (ks.take i++[q] <+: ks):=I (by
    have:ks.take i++[q]=ks.take (i+1):=by rw[lN,gZ.o];rfl
    rw[this];exact List.take_prefix _ _)
   refine(IH.o q wx _ (ks.take i) (bU gZ.o) Je.o PX.o qU.o).mono ?_;rintro e w3 ⟨rfl,s3,o3⟩;have S3:=I (show lX w3 b (S++jB (ks.take (i+1))) by rw[Zta ks i q gZ.o,<- List.append_assoc];exact s3);have O3:=I (iX.o.trans o3);clear s3 o3 qU iX
   go_wp2
   go_roundw
   case rel=>exact⟨i+1,by go_num,by omega,S3,O3⟩
   case measure=>simp only[intOf];omega
  ·have ii:¬ ((i:Int)<n):=by omega
   have HT:Hid (ks.take i=ks):=I (by rw[show i=ks.length by rw[<- HN.o];omega,List.take_length])
   go_wp2
   go_end0
   exact⟨rfl,by have:=hq.o;rwa [HT.o] at this,ho.o⟩
theorem TP:∀ (N:Nat) (p:Prd) (w:World) (P:Nat->Prop) (vs:List Value) (b:Nat) (S:List Ky),cO p<=N->dV p=true->S.length+cO p<=1000000->(∀ k∈S,KyOk k)->cK w P p vs->lX w b S->(∀ g,P g->g≠b) ->
  Calls Tryz.prog 146 #[.agg vs.toArray,.map (some b)] w fun e w'=>e = .returned (.tuple #[])/\lX w' b (S++oI p)/\Only w w' (· = b)
 | 0,p,w,P,vs,b,S,hN,_,_,_,_,_,_=>by have:=Hl p;omega
 | N+1,.mk κ l r c ks,w,P,vs,b,S,hN,hf,hc,hS,h,hs,hPb=>by
  have uL:cR ks<=N:=by unfold cO at hN;omega
  have hl:=Hm ks
  have qE:S.length+(1+cR ks)<=1000000:=by unfold cO at hc;exact hc
  have pG:=Vs _ hf;unfold cK at h;obtain⟨ao,cap,rfl,hk⟩:=h;unfold dV at hf;by_cases hκ:κ=0
  ·rw[if_pos hκ] at hf
   simp only[dB] at hf
   have bT:ks=[]:=by simpa using hf.1.1.1
   subst bT;subst hκ;have:=Zzj w l r c ao cap b S hS (TM hf.1.1.2 hf.1.2 hf.2) hs (by omega);simpa [oI,jB] using this
  ·rw[if_neg hκ] at hf
   simp only[dB] at hf;have lZ:=(DF ks).1 hf.2
   have:=Zzk w P κ l r c ks ao ks.length cap hκ rfl (by omega) hk b S hs hPb (fun q w' us pre hq Pl bH Wu=>by
    obtain⟨i,hi⟩:=pV.1 hq;have hck:=Hn ks i q hi;obtain⟨tl,yU⟩:=Pl
    have hcp:cR pre+cO q<=cR ks:=by
     rw[<- yU,dr,dr];simp[cR]
    have iQ:=CE pre
    exact TP N q w' P us b (S++jB pre) (by omega) (lZ q hq) (by rw[gL];omega) (fun k kZ=>by
     rcases kI.1 kZ with kZ | kZ
     ·exact hS k kZ
     ·obtain⟨q',Bp,g9⟩:=(CA k pre).1 kZ
      have:q'∈ks:=by rw[<- yU];simp[Bp]
      exact Vs q' (lZ q' this) k g9) bH Wu hPb)
   have e:oI (.mk κ l r c ks)=jB ks:=by unfold oI;rw[if_neg hκ,List.nil_append]
   rw[e];exact this
end
section
def Z5c(l:List (List Nat)):Prop:=l.Pairwise (fun a b=>ltL a b=true)
theorem DH{p:Prd}(h:jV p=true):dV p=true:=by unfold jV at h;rw[dB] at h;exact h.2
theorem Zzl{p:Prd}(h:jV p=true):cO p<=100/\oH p<=12:=by
 unfold jV sA at h;simp only[dB,decide_eq_true_eq] at h;exact h.1
end
end Go.Proofs.YtbcgocpihobjnaaGreatDoor
