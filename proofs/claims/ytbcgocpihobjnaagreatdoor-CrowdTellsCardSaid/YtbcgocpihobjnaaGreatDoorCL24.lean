import Derived.WalkSmall
import Derived.Maps.StringElems
import Derived.Defers
import Derived.Test.YtbcgocpihobjnaaGreatDoorCL23
import Derived.Test.YtbcgocpihobjnaaGreatDoorCL2
import Derived.Test.YtbcgocpihobjnaaGreatDoorShelf
import Derived.Test.YtbcgocpihobjnaaGreatDoorCL16
set_option linter.all false
set_option maxHeartbeats 8000000
set_option maxRecDepth 100000
namespace Go.Proofs.YtbcgocpihobjnaaGreatDoor
section
open Go.RowKit Go.Sort
theorem UL(s:List Nat):(aB s).data.toList=s.map UInt8.ofNat:=by simp[aB]
end
section
open Go.RowKit Go.Sort
def Nt(w:World)(P:Nat->Prop)(ks:List Prd)(ao:Option Addr):Prop:=ks=[]\/∃ g off,ao=some ⟨g,off,none⟩/\P g/\g<w.heap.size/\gE w P ks g off
theorem Nt.below{w w':World}{P:Nat->Prop}{ks:List Prd}{ao:Option Addr}(h:Nt w P ks ao)(hb:Below w.heap.size w w'):Nt w' P ks ao:=by
 rcases h with h | ⟨g,off,h1,h2,h3,h4⟩
 ·exact .inl h
 ·exact .inr ⟨g,off,h1,h2,gR h3 hb.size,gE.keep (fun x _ hx=>hb.block x hx) hb.size (fun _ h _=>h) ks g off h2 h3 h4⟩
end
section
open Go.RowKit Go.Sort
mutual
def kJ(M:Nat):Nat->Prd->Nat
 | 0,_=>M+1
 | L+1,.mk _ _ _ _ ks=>mL M L 1 ks
def mL(M:Nat):Nat->Nat->List Prd->Nat
 | _,n,[]=>n
 | L,n,q::qs=>if n<=M then mL M L (n+kJ M L q) qs else n
end
theorem UM(M L:Nat)(h:∀ q,kJ M L q<=(L+1)*(M+1)):∀ (ks:List Prd) (n:Nat),n<=(L+2)*(M+1)->mL M L n ks<=(L+2)*(M+1)
 | [],n,hn=>by rw[mL];exact hn
 | q::qs,n,hn=>by
  rw[mL]
  have e:(L+2)*(M+1)=(L+1)*(M+1)+(M+1):=by rw[show L+2=(L+1)+1 from rfl,Nat.add_mul (L+1) 1,Nat.one_mul]
  split
  ·exact UM M L h qs _ (by have:=h q;omega)
  ·exact hn
theorem UN(M:Nat):∀ (L:Nat) (p:Prd),kJ M L p<=(L+1)*(M+1)
 | 0,p=>by rw[kJ];omega
 | L+1,.mk k l r c ks=>by
  rw[kJ];exact UM M L (UN M L) ks 1 (dQ (Nat.le_add_left 1 M) (Nat.le_mul_of_pos_left _ (by omega)))
theorem Zzt(w:World)(κ:Int)(l r:ByteArray)(c:Int)(ao:Option Addr)(n cap M:Nat)(hM:M<=1000) :
  Calls Tryz.prog 134 #[.agg #[.int .i64 κ,.string l,.string r,.int .i64 c,.slice ao n cap],.int .i64 (M:Int),.int .i64 0] w fun e w'=>e = .returned (.int .i64 ((M+1:Nat):Int))/\Below w.heap.size w w':=by
 have B1:=I (bwA w (.cells #[.int .i64 κ,.string l,.string r,.int .i64 c,.slice ao n cap] 54));have ew:=w1i M (by omega)
 go_enter Tryz.func134,Tryz.ntmps134
 go_wp2
 go_ret;exact⟨mI (by omega),B1.o⟩
theorem Zvz(M L n:Nat)(ks:List Prd)(i:Nat)(q:Prd)(h:ks[i]?=some q):mL M L n (ks.drop i)=if n<=M then mL M L (n+kJ M L q) (ks.drop (i+1)) else n:=by
 have h1:ks.drop i=q::ks.drop (i+1):=List.drop_eq_getElem?_toList_append .. |>.trans (by rw[h];rfl);rw[h1,mL]
theorem Zzu (w:World) (P:Nat->Prop) (κ:Int) (l r:List Nat) (c:Int) (ks:List Prd) (ao:Option Addr) (n cap M L:Nat) (hM:M<=1000) (hL:L<=1000) (hn:n=ks.length) (bN:n<=9223372036854775807)
  (hk:ks=[]\/∃ g off,ao=some ⟨g,off,none⟩/\P g/\g<w.heap.size/\gE w P ks g off)
  (ih:∀ (q:Prd) (W:World) (vs:List Value),q∈ks->cK W P q vs->Calls Tryz.prog 134 #[.agg vs.toArray,.int .i64 (M:Int),.int .i64 (L:Int)] W fun e w'=>e = .returned (.int .i64 (kJ M L q:Nat))/\Below W.heap.size W w') :
  Calls Tryz.prog 134 #[.agg #[.int .i64 κ,.string (aB l),.string (aB r),.int .i64 c,.slice ao n cap],.int .i64 (M:Int),.int .i64 ((L+1:Nat):Int)] w fun e w'=>e = .returned (.int .i64 (mL M L 1 ks:Nat))/\Below w.heap.size w w':=by
 have bx:=bwA w (.cells #[.int .i64 κ,.string (aB l),.string (aB r),.int .i64 c,.slice ao n cap] 54);have B1:=I bx;have X1:=hnw w 54 [.int .i64 κ,.string (aB l),.string (aB r),.int .i64 c,.slice ao n cap];have HK:=I hk;have HN:=I hn;have IH:=I ih;have HB:Hid (∀ q,kJ M L q<=(L+1)*(M+1)):=I (UN M L);have qI:(L+1)*(M+1)<=1002001:=Nat.mul_le_mul (show L+1<=1001 by omega) (show M+1<=1001 by omega);obtain⟨V,hV⟩:=exq (mL M L 1 ks);have S0:Hid (V=mL M L 1 (ks.drop 0)):=I (by rw[List.drop_zero];exact hV.symm);rw[hV]
 have kW:¬ ((L+1:Nat):Int)<1:=by omega
 have es:IntKind.i64.wrap (((L+1:Nat):Int)-1)=(L:Int):=by rw[fU _ (by omega)];omega
 clear bx hk ih hn hV;generalize hΛ:((L+1:Nat):Int)=Λ at *;clear hΛ;generalize aB l=y at *;generalize aB r=z at *
 go_enter Tryz.func134,Tryz.ntmps134
 go_upto_region 1 with(fail)
 generalize w.alloc (.cells #[.int .i64 κ,.string y,.string z,.int .i64 c,.slice ao n cap] 54)=w1 at *
 go_wp2_with fail
 go_loopw [7,8] (fun c1 c2 wr=>∃ (m i:Nat),c1 = .int .i64 m/\c2 = .int .i64 i/\i<=n/\m<=2004003/\Hid (V=mL M L m (ks.drop i))/\Hid (Below w.heap.size w wr)/\Hid (aC wr w.heap.size 54 [.int .i64 κ,.string y,.string z,.int .i64 c,.slice ao n cap])) (fun _ c2 _=>(n-intOf c2).toNat)
 case atStart=>exact⟨1,0,rfl,rfl,by omega,by omega,S0,B1,X1⟩
 case round =>
  clear S0 B1 X1;obtain⟨m,i,rfl,rfl,hi,hm,hs,hw,hx⟩:=hrel;have x4:=hx.o.cell 4 _ rfl;by_cases aE:i<n
  ·have ii:(i:Int)<n:=by omega
   have e2:=w1i i (by omega)
   have HQ:Hid (∃ q,ks[i]?=some q/\∃ g off,ao=some ⟨g,off,none⟩/\∃ vs,cK wr P q vs/\dD wr g (off+i*5) vs):=I (by
    have hl:i<ks.length:=by rw[<- HN.o];exact aE
    refine⟨ks[i],aL hl,?_⟩;rcases HK.o with h | ⟨g,off,h1,h2,h3,h4⟩
    ·rw[h] at hl;exact absurd hl (jU _)
    ·obtain⟨vs,nU,qD⟩:=gE.at ks g off i _ (aL hl) h4
     exact⟨g,off,h1,vs,nU.below hw.o,qD.of_block (hw.o.block g h3)⟩)
   obtain⟨q,bX,gk,off,bI,vs,bH,aH⟩:=HQ.o;clear HQ;have bQ:=I (hs.o.trans (Zvz M L m ks i q bX));by_cases hmM:m<=M
   ·have hmM':(m:Int)<=(M:Int):=by omega
    obtain⟨xa,xn,xc,mS,-⟩:=bH.form;rw[mS] at aH bH;have cA:=I (IH.o q wr _ (bU bX) bH);have xO:Hid (V=mL M L (m+kJ M L q) (ks.drop (i+1))):=I (by rw[bQ.o,if_pos hmM]);have hcq:=HB.o q;have s0:=aH 0 _ rfl;have s1:=aH 1 _ rfl;have s2:=aH 2 _ rfl;have s3:=aH 3 _ rfl;have s4:=aH 4 _ rfl;rw[Nat.add_zero] at s0;have mT:=I bI;clear aH bH mS vs bX hs bQ;subst bI;generalize q.k=q0 at *;generalize aB q.l=q1 at *;generalize aB q.r=q2 at *;generalize q.c=q3 at *;generalize kJ M L q=cq at *;have e3:IntKind.i64.wrap ((m:Int)+(cq:Int))=((m+cq:Nat):Int):=fU _ (by omega)
    go_wp2_with fail
    refine cA.o.mono ?_;rintro e w3 ⟨rfl,b3⟩;have W3:=hw.tr b3;have X3:=I (hx.o.step b3);clear b3 s0 s1 s2 s3 s4 x4 hw hx cA
    go_wp2
    go_roundw
    case rel=>exact⟨m+cq,i+1,by go_num,by go_num,by omega,by omega,xO,W3,X3⟩
    case measure=>simp only[intOf];omega
   ·have hmM':¬ (m:Int)<=(M:Int):=by omega
    have HF:Hid (V=m):=I (by rw[bQ.o,if_neg hmM])
    go_wp2
    go_ret;exact⟨mI (by rw[HF.o]),hw.o⟩
  ·have ii:¬ ((i:Int)<n):=by omega
   have HF:Hid (V=m):=I (by rw[hs.o,List.drop_eq_nil_of_le (by rw[<- HN.o];omega),mL])
   go_wp2
   go_ret;exact⟨mI (by rw[HF.o]),hw.o⟩
mutual
def vO:Prd->Prop
 | .mk _ _ _ _ ks=>ks.length<=9223372036854775807/\Ss ks
def Ss:List Prd->Prop
 | []=>True
 | p::ps=>vO p/\Ss ps
end
theorem DO:∀ ks:List Prd,Ss ks↔∀ q∈ks,vO q
 | []=>by simp[Ss]
 | p::ps=>by simp[Ss,DO ps]
theorem UO(M:Nat)(hM:M<=1000):∀ (L:Nat) (p:Prd) (w:World) (P:Nat->Prop) (vs:List Value),L<=1000->vO p->cK w P p vs ->
  Calls Tryz.prog 134 #[.agg vs.toArray,.int .i64 (M:Int),.int .i64 (L:Int)] w fun e w'=>e = .returned (.int .i64 (kJ M L p:Nat))/\Below w.heap.size w w'
 | 0,.mk κ l r c ks,w,P,vs,_,_,h=>by
  unfold cK at h;obtain⟨ao,cap,rfl,-⟩:=h;have:=Zzt w κ (aB l) (aB r) c ao ks.length cap M hM;rw[kJ];exact this
 | L+1,.mk κ l r c ks,w,P,vs,hL,aQ,h=>by
  unfold cK at h;unfold vO at aQ;obtain⟨ao,cap,rfl,hk⟩:=h;rw[kJ];exact Zzu w P κ l r c ks ao ks.length cap M L hM (by omega) rfl aQ.1 hk (fun q W us hq bH=>UO M hM L q W P us (by omega) ((DO ks).1 aQ.2 q hq) bH)
def vP(p:Prd)(M L:Nat):Bool:=decide (kJ M L p<=M)
theorem DP(p:Prd)(M L:Nat)(hM:M<=1000)(hL:L<=1000)(w:World)(P:Nat->Prop)(vs:List Value)(aQ:vO p)(h:cK w P p vs) :
  Calls Tryz.prog 71 #[.agg vs.toArray,.int .i64 (M:Int),.int .i64 (L:Int)] w fun e w'=>e = .returned (.bool (vP p M L))/\Below w.heap.size w w':=by
 obtain⟨xa,xn,xc,rfl,-⟩:=h.form;have bx:=bwA w (.cells #[.int .i64 p.k,.string (aB p.l),.string (aB p.r),.int .i64 p.c,.slice xa xn xc] 54);have B1:=I bx;have X1:=hnw w 54 [.int .i64 p.k,.string (aB p.l),.string (aB p.r),.int .i64 p.c,.slice xa xn xc];have HC:=I (fun W (hW:Below w.heap.size w W)=>UO M hM L p W P _ hL aQ (h.below hW));have HV:Hid (vP p M L=decide (kJ M L p<=M)):=I rfl;obtain⟨V,hV⟩:=exq (vP p M L);rw[hV] at HV ⊢;clear bx h aQ hV;generalize kJ M L p=cp at *;generalize p.k=q0 at *;generalize aB p.l=q1 at *;generalize aB p.r=q2 at *;generalize p.c=q3 at *
 go_enter Tryz.func71,Tryz.ntmps71
 go_upto_region 1 with(fail)
 generalize w.alloc (.cells #[.int .i64 q0,.string q1,.string q2,.int .i64 q3,.slice xa xn xc] 54)=w1 at *
 go_wp2_with (refine Ba (by rfl) 54 (.tmp 3) rfl w.heap.size (by rfl) 54 #[.int .i64 q0,.string q1,.string q2,.int .i64 q3,.slice xa xn xc] (0,0) _ X1.o Tryz.underlying54 rfl (oT _ rfl) ?_)
 refine(HC.o w1 B1.o).mono ?_;rintro e w2 ⟨rfl,b2⟩;have B2:=B1.tr b2;clear b2 HC;by_cases qB:cp<=M
 ·have h1:(cp:Int)<=(M:Int):=by omega
  have HX:Hid (V=true):=I (by rw[HV.o];exact decide_eq_true qB);clear qB
  go_wp2
  go_ret;exact⟨aF HX.o.symm,B2.o⟩
 ·have h1:¬ (cp:Int)<=(M:Int):=by omega
  have HX:Hid (V=false):=I (by rw[HV.o];exact decide_eq_false qB)
  go_wp2
  go_ret;exact⟨aF HX.o.symm,B2.o⟩
end
section
open Go.RowKit Go.Sort Go.Maps
structure Bnd where
 n:List Nat
 v:Int
def Nu(b:Bnd):List Value:=[.string (aB b.n),.int .i64 b.v]
def vbG(S:List (List Nat)):List Bnd->Bool
 | []=>true
 | b::bs=>!decide (b.n∈S)&&(iG b.n&&(decide (0<=b.v)&&(decide (b.v<=65535)&&vbG (S++[b.n]) bs)))
def vbP(l:List Bnd):Bool:=vbG [] l
theorem my(l:List Bnd)(i:Nat)(b:Bnd)(h:l[i]?=some b):vbG ((l.take i).map (·.n)) (l.drop i)=(!decide (b.n∈(l.take i).map (·.n))&&(iG b.n&&(decide (0<=b.v)&&(decide (b.v<=65535)&&vbG ((l.take (i+1)).map (·.n)) (l.drop (i+1)))))):=by
 have h1:l.drop i=b::l.drop (i+1):=List.drop_eq_getElem?_toList_append .. |>.trans (by rw[h];rfl)
 have h2:l.take (i+1)=l.take i++[b]:=by rw[lN,h];rfl
 rw[h1,h2,List.map_append];rfl
def mM(s:List Nat):Lit:=.string (aB s).data.toList
structure NmOk (s:List Nat):Prop where
 b:∀ y∈s,y<256
 l:s.length<=maxLen
theorem DQ(s t:List Nat)(hs:NmOk s)(ht:NmOk t)(e:mM s=mM t):s=t:=by
 unfold mM at e;injection e with e;rw[UL,UL] at e;exact ef s t hs.b ht.b e
theorem La:Keyed Tryz.prog 9:=string_keyed Tryz.underlying9
theorem Lb(s:List Nat)(h:NmOk s):keyOf Tryz.prog 9 (.string (aB s))=some (mM s):=WideMaps.keyOf_string_mk Tryz.underlying9 (by rw[tH];exact h.l)
def oN(w:World)(b:Nat)(S:List (List Nat)):Prop :=
 ∃ D:DataW Unit,w.ownsMap Tryz.prog 9 (plainElem Tryz.prog 4) b S.length D/\(∀ l,has D l=true↔∃ k∈S,mM k=l)/\∀ k∈S,∀ zd,D.atKey (mM k) zd = .lit (.bool true)
theorem oN.step{w w':World}{b:Nat}{S:List (List Nat)}(h:oN w b S)(hb:RowKit.Below w.heap.size w w'):oN w' b S:=by
 obtain⟨D,h1,h2⟩:=h;exact⟨D,h1.kept (mx hb none) (by simp),h2⟩
theorem oN.nil(w:World):oN (w.alloc (.map #[] 0)) w.heap.size []:=by
 refine⟨_,World.ownsMap_made w _ _ _,fun l=>?_,fun k hk=>absurd hk List.not_mem_nil⟩;constructor
 ·intro h;cases h
 ·rintro⟨k,hk,_⟩;exact absurd hk List.not_mem_nil
theorem oN.put {w w':World} {b:Nat} {S:List (List Nat)} {D:DataW Unit} (k:List Nat) (hk:NmOk k) (h:w.ownsMap Tryz.prog 9 (plainElem Tryz.prog 4) b S.length D) (h1:∀ l,has D l=true↔∃ k∈S,mM k=l) (h2:∀ k∈S,∀ zd,D.atKey (mM k) zd = .lit (.bool true))
  (h':w'.ownsMap Tryz.prog 9 (plainElem Tryz.prog 4) b (S.length+1) (D.put (mM k) (.lit (.bool true)))):oN w' b (S++[k]):=by
 have iQ:=La.key (Lb k hk);refine⟨_,by rw[gL];exact h',fun l=>?_,fun x hx zd=>?_⟩
 ·by_cases he:l=mM k
  ·subst he
   rw[has_put_same h.isMap iQ];exact⟨fun _=>⟨k,by simp,rfl⟩,fun _=>rfl⟩
  ·rw[has_put_other he,h1]
   constructor
   ·rintro⟨x,hx,hl⟩;exact⟨x,by simp[hx],hl⟩
   ·rintro⟨x,hx,hl⟩
    rcases kI.1 hx with hx | hx
    ·exact⟨x,hx,hl⟩
    ·rw[List.mem_singleton] at hx
     subst hx;exact absurd hl.symm he
 ·by_cases he:mM x=mM k
  ·rw[he,atKey_put_same h.isMap iQ]
  ·rw[atKey_put_other he]
   rcases kI.1 hx with hx | hx
   ·exact h2 x hx zd
   ·rw[List.mem_singleton] at hx
    subst hx;exact absurd rfl he
theorem oN.look{w:World}{b:Nat}{S:List (List Nat)}(hS:∀ k∈S,NmOk k)(k:List Nat)(hk:NmOk k)(h:oN w b S) :
  (Instr.lookup 162 (.map (some b)) (.string (aB k)) false).run Tryz.prog w = .ok (.bool (decide (k∈S))) w:=by
 obtain⟨D,h1,h2,h3⟩:=h;obtain⟨v,ps,nW,hv⟩:=h1.lookup La Tryz.underlying162 (z:=.bool false) (Zvv w) (zd:=.lit (.bool false)) (zp:=[]) (plainElem_bool Tryz.underlying4 false) (Lb k hk);by_cases hm:k∈S
 ·rw[h3 k hm] at hv
  rw[decide_eq_true hm];rw[nW,UJ Tryz.underlying4 hv]
 ·have hf:has D (mM k)=false:=by
   cases hh:has D (mM k) with
   | false=>rfl
   | true =>
    obtain⟨x,hx,he⟩:=(h2 _).1 hh;exact absurd (DQ x k (hS x hx) hk he ▸ hx) hm
  rw[atKey_of_not_has hf] at hv;rw[decide_eq_false hm];rw[nW,UJ Tryz.underlying4 hv]
end
section
open Go.RowKit Go.Sort Go.Maps
def tJ(w:World)(P:Nat->Prop)(l:List Bnd)(ao:Option Addr):Prop:=l=[]\/∃ g off,ao=some ⟨g,off,none⟩/\P g/\g<w.heap.size/\dD w g off (l.flatMap Nu)
structure BndOk (l:List Bnd):Prop where
 nm:∀ b∈l,NmB b.n
theorem DR(b:Bnd):(Nu b).length=2:=rfl
theorem Vz{w:World}{g off:Nat}{l:List Bnd}(h:dD w g off (l.flatMap Nu))(i:Nat)(b:Bnd)(hb:l[i]?=some b):dD w g (off+i*2) [.string (aB b.n),.int .i64 b.v]:=fun j u hj=>by
 have nJ:j<2:=(fD.1 hj).1;have:=h (i*2+j) u (by rw[Ho Nu 2 DR l i j b hb nJ];exact hj)
 rwa [<- Nat.add_assoc] at this
theorem Wa{s:List Nat}(h:NmB s):NmOk s:=⟨h.1,dQ h.2 (by decide)⟩
theorem Zte(w:World)(P:Nat->Prop)(l:List Bnd)(ao:Option Addr)(n cap B:Nat)(hT:Tab w B)(hn:n=l.length)(bN:n<=10000000000000)(aJ:BndOk l)(hk:tJ w P l ao) :
  Calls Tryz.prog 91 #[.slice ao n cap] w fun e w'=>e = .returned (.bool (vbP l))/\RowKit.Below w.heap.size w w':=by
 have HK:=I hk;have HN:=I hn;have cV:=I aJ.nm;have HT:=I hT;have bx:=(aG w.heap.size w).alloc (aO _) (.map #[] 0);have BX:=I bx;have QX:Hid (oN (w.alloc (.map #[] 0)) w.heap.size []):=I (oN.nil w);obtain⟨V,hV⟩:=exq (vbP l);have HV:Hid (V=vbG ((l.take 0).map (·.n)) (l.drop 0)):=I (by rw[<- hV];rfl);rw[hV];clear hk hn aJ hT bx hV;have qG:=@run_makeMap Tryz.prog
 go_enter Tryz.func91,Tryz.ntmps91
 go_upto_region 2 with(fail)
 generalize j5:w.alloc (.map #[] 0)=wx at *
 go_wp2_with fail
 have S0:Hid (oN wx w.heap.size ((l.take 0).map (·.n))):=I (by simpa using QX.o);have O0:Hid (Only wx wx (· = w.heap.size)):=I (Only.refl _ _);clear QX;have rR:=I (fun W (hW:RowKit.Below w.heap.size w W)=>gS.step (w:=w) HT.o hW);have lR:=I (fun(W:World) (hW:Only wx W (· = w.heap.size))=>Only.later (aG w.heap.size w) (Only.trans (Only.of_below (p:=fun g=>w.heap.size<=g) BX.o) (hW.mono (fun g _ hg=>by rw[hg];exact aO _))) (fun g hg=>hg));generalize hb:w.heap.size=b at *
 go_loopw [9] (fun cc wr=>∃ (i:Nat),cc = .int .i64 i/\i<=n/\Hid (oN wr b ((l.take i).map (·.n)))/\Hid (Only wx wr (· = b))/\Hid (V=vbG ((l.take i).map (·.n)) (l.drop i))) (fun c _=>(n-intOf c).toNat)
 case atStart=>exact⟨0,rfl,by omega,S0,O0,HV⟩
 case round =>
  clear S0 O0 HV;obtain⟨i,rfl,hi,hq,ho,hv⟩:=hrel;have e2:=w1i i (by omega);by_cases aE:i<n
  ·have ii:(i:Int)<n:=by omega
   have HQ:Hid (∃ q,l[i]?=some q/\∃ g off,ao=some ⟨g,off,none⟩/\g<b/\dD wr g (off+i*2) [.string (aB q.n),.int .i64 q.v]):=I (by
    have hl:i<l.length:=by rw[<- HN.o];exact aE
    refine⟨l[i],aL hl,?_⟩;rcases HK.o with h | ⟨g,off,h1,h2,h3,h4⟩
    ·rw[h] at hl;exact absurd hl (jU _)
    ·have xJ:g<b:=by rw[<- hb];exact h3
     have h5:=Vz h4 i _ (aL hl);have Lv:=BX.o
     exact⟨g,off,h1,xJ,(h5.of_block (Lv.block g xJ)).of_block (ho.o.block g (by have:=Lv.size;omega) (by omega))⟩)
   obtain⟨q,bX,gk,off,bI,dT,aH⟩:=HQ.o;clear HQ;have bQ:=I (hv.o.trans (my l i q bX));have fW:=I (cV.o q (bU bX));have dM:Hid ((l.take i).map (·.n)++[q.n]=(l.take (i+1)).map (·.n)):=I (by rw[lN,bX,List.map_append];rfl)
   have Xb:Hid (∀ k∈(l.take i).map (·.n),NmOk k):=I (fun k hk=>by
    obtain⟨x,hx,rfl⟩:=List.mem_map.1 hk
    exact Wa (cV.o x (List.mem_of_mem_take hx)))
   have s0:=aH 0 _ rfl;have s1:=aH 1 _ rfl;rw[Nat.add_zero] at s0;have mT:=I bI;clear aH bX;subst bI;have xP:=I (fun W (hW:oN W b ((l.take i).map (·.n)))=>oN.look Xb.o q.n (Wa fW.o) hW);have Gb:=I (fun W (hW:Only wx W (· = b))=>UD q.n W B (show Tab W B from rR.o W (lR.o W hW)) fW.o.2 fW.o.1);have bx:=(aG wr.heap.size wr).alloc (aO _) (.cells #[.string (aB q.n),.int .i64 q.v] 164);have Y1:=hnw wr 164 [.string (aB q.n),.int .i64 q.v];have kL:=I (hq.o.step bx);have qT:=I (ho.o.step bx);clear bx hq ho hv
   go_upto_region 5 with(fail)
   have Pj:=I (Lb q.n (Wa fW.o));have Xc:=I (Wa fW.o);clear fW s0 s1;generalize wr.heap.size=A at *;generalize cY:aB q.n=y at *;clear cY;generalize q.v=v at *;generalize wr.alloc (.cells #[.string y,.int .i64 v] 164)=wy at *;have y0:=Y1.o.cell 0 _ rfl;have y1:=Y1.o.cell 1 _ rfl;have xI:=xP.o wy kL.o;generalize uO:decide (q.n∈(l.take i).map (·.n))=mt at *;clear uO;generalize iG q.n=vn at *
   cases mt with
   | true =>
    have HF:Hid (V=false):=I bQ.o
    go_wp2
    go_ret;exact⟨aF HF.o.symm,lR.o _ qT.o⟩
   | false =>
    have nX:Hid (V=(vn&&(decide (0<=v)&&(decide (v<=65535)&&vbG ((l.take (i+1)).map (·.n)) (l.drop (i+1)))))):=I bQ.o;clear bQ
    go_wp2_with fail
    refine(Gb.o wy qT.o).mono ?_;rintro e w2 ⟨rfl,d2⟩;have qU:=I (kL.o.step (vN d2));have iX:=I (qT.o.step (vN d2));have Y2:=I (Y1.o.step (vN d2));clear d2 y0 y1 xI kL qT Y1;have y0:=Y2.o.cell 0 _ rfl;have y1:=Y2.o.cell 1 _ rfl
    cases vn with
    | false =>
     have HF:Hid (V=false):=I nX.o
     go_wp2
     go_ret;exact⟨aF HF.o.symm,hb ▸ lR.o _ iX.o⟩
    | true =>
     have uP:Hid (V=(decide (0<=v)&&(decide (v<=65535)&&vbG ((l.take (i+1)).map (·.n)) (l.drop (i+1))))):=I nX.o;clear nX;by_cases v0:v<0
     ·have HF:Hid (V=false):=I (by rw[uP.o,decide_eq_false (show ¬ 0<=v by omega),dS])
      go_wp2
      go_ret;exact⟨aF HF.o.symm,hb ▸ lR.o _ iX.o⟩
     ·by_cases v1:65535<v
      ·have HF:Hid (V=false):=I (by rw[uP.o,decide_eq_false (show ¬ v<=65535 by omega),dS,Bool.and_false])
       go_wp2
       go_ret;exact⟨aF HF.o.symm,hb ▸ lR.o _ iX.o⟩
      ·have HF:Hid (V=vbG ((l.take (i+1)).map (·.n)) (l.drop (i+1))):=I (by rw[uP.o,decide_eq_true (show 0<=v by omega),decide_eq_true (show v<=65535 by omega),cH,cH])
       have qW:Hid (((l.take i).map (·.n)).length<maxLen):=I (by rw[eB,List.length_take];exact Nat.lt_of_le_of_lt (Nat.min_le_left _ _) (Nat.lt_of_le_of_lt hi (Nat.lt_of_le_of_lt bN (by decide))));obtain⟨D,bD,hh,ha⟩:=qU.o;have HH:=I hh;have HA:=I ha;have HO:=I bD;clear hh ha bD
       go_wp2_with (at_mapUpdate;refine wpList_mapUpdate_own _ rfl (.tmp 33) (.tmp 35) _ 162 rfl 9 4 La Tryz.underlying162 (plainElem Tryz.prog 4) b ((l.take i).map (·.n)).length D rfl HO.o qW.o (.string y) (.bool true) (mM q.n) rfl rfl Pj.o (.lit (.bool true)) [] (plainElem_bool Tryz.underlying4 true) ?_;intro w6 gG fB;have Bw:=I (oN.put q.n Xc.o HO.o HH.o HA.o gG);have Xd:=I (iX.o.trans (eh fB));clear gG fB y0 y1 qU iX Y2 HO HH HA)
       rw[dM.o] at Bw;go_roundw
       case rel=>exact⟨i+1,by go_num,by omega,Bw,Xd,HF⟩
       case measure=>simp only[intOf];omega
  ·have ii:¬ ((i:Int)<n):=by omega
   have HF:Hid (V=true):=I (by rw[hv.o,List.drop_eq_nil_of_le (by rw[<- HN.o];omega),vbG])
   go_wp2
   go_ret;exact⟨aF HF.o.symm,lR.o _ ho.o⟩
end
section
open Go.RowKit Go.Sort Go.Maps
def jW(M:List (List Nat×Int))(k:List Nat):Option Int:=(M.find? (fun e=>e.1==k)).map (·.2)
theorem Zv1(M:List (List Nat×Int))(k:List Nat)(v:Int):jW ((k,v)::M) k=some v:=by
 unfold jW;rw[List.find?_cons_of_pos (by simp)];rfl
theorem Ztf(M:List (List Nat×Int))(k k':List Nat)(v:Int)(h:k≠k'):jW ((k',v)::M) k=jW M k:=by
 unfold jW;rw[List.find?_cons_of_neg (by simpa using fun e=>h e.symm)]
theorem DS{M:List (List Nat×Int)}{k:List Nat}(h:∃ e∈M,e.1=k):∃ v,jW M k=some v:=by
 obtain⟨e,he,hk⟩:=h
 cases hf:M.find? (fun e=>e.1==k) with
 | none =>
  have:=List.find?_eq_none.1 hf e he;exact absurd (by simpa using hk) this
 | some x=>exact⟨x.2,by unfold jW;rw[hf];rfl⟩
theorem UP{M:List (List Nat×Int)}{k:List Nat}(h:¬ ∃ e∈M,e.1=k):jW M k=none:=by
 unfold jW;rw[List.find?_eq_none.2 (fun e he=>by simpa using fun hk=>h ⟨e,he,hk⟩)];rfl
theorem DT{M:List (List Nat×Int)}{k:List Nat}{v:Int}(h:jW M k=some v):(k,v)∈M:=by
 unfold jW at h
 cases hf:M.find? (fun e=>e.1==k) with
 | none=>rw[hf] at h;cases h
 | some x =>
  rw[hf] at h;have h2:x.2=v:=bF h
  have h1:x.1=k:=by simpa using List.find?_some hf
  have:=List.mem_of_find?_eq_some hf;rw[<- h1,<- h2];exact this
def gY(l:List Bnd):List (List Nat×Int):=(l.map fun b=>(b.n,b.v)).reverse++[([],0)]
theorem Zv2(l:List Bnd)(i:Nat)(q:Bnd)(h:l[i]?=some q):gY (l.take (i+1))=(q.n,q.v)::gY (l.take i):=by
 unfold gY;rw[lN,h,List.map_append,List.reverse_append];rfl
def oX(w:World)(b:Nat)(M:List (List Nat×Int)):Prop :=
 ∃ D:DataW Unit,w.ownsMap Tryz.prog 9 (plainElem Tryz.prog 3) b M.length D/\(∀ l,has D l=true↔∃ e∈M,mM e.1=l)/\(∀ e∈M,NmOk e.1)/\∀ k v,NmOk k->jW M k=some v->∀ zd,D.atKey (mM k) zd = .lit (.int .i64 v)
theorem oX.step{w w':World}{b:Nat}{M:List (List Nat×Int)}(h:oX w b M)(hb:RowKit.Below w.heap.size w w'):oX w' b M:=by
 obtain⟨D,h1,h2⟩:=h;exact⟨D,h1.kept (mx hb none) (by simp),h2⟩
theorem oX.put {w w':World} {b:Nat} {M:List (List Nat×Int)} {D:DataW Unit} (k:List Nat) (v:Int) (hk:NmOk k) (h:w.ownsMap Tryz.prog 9 (plainElem Tryz.prog 3) b M.length D) (h1:∀ l,has D l=true↔∃ e∈M,mM e.1=l) (h3:∀ e∈M,NmOk e.1) (h2:∀ k v,NmOk k->jW M k=some v->∀ zd,D.atKey (mM k) zd = .lit (.int .i64 v))
  (h':w'.ownsMap Tryz.prog 9 (plainElem Tryz.prog 3) b (M.length+1) (D.put (mM k) (.lit (.int .i64 v)))):oX w' b ((k,v)::M):=by
 have iQ:=La.key (Lb k hk);refine⟨_,by rw[List.length_cons];exact h',fun l=>?_,fun e he=>?_,fun x y hx hg zd=>?_⟩
 ·by_cases he:l=mM k
  ·subst he
   rw[has_put_same h.isMap iQ];exact⟨fun _=>⟨(k,v),by simp,rfl⟩,fun _=>rfl⟩
  ·rw[has_put_other he,h1]
   constructor
   ·rintro⟨x,hx,hl⟩;exact⟨x,by simp[hx],hl⟩
   ·rintro⟨x,hx,hl⟩
    rcases List.mem_cons.1 hx with hx | hx
    ·subst hx
     exact absurd hl.symm he
    ·exact⟨x,hx,hl⟩
 ·rcases List.mem_cons.1 he with he | he
  ·subst he;exact hk
  ·exact h3 e he
 ·by_cases he:x=k
  ·subst he
   rw[Zv1] at hg;cases hg;rw[atKey_put_same h.isMap iQ]
  ·rw[Ztf _ _ _ _ he] at hg
   rw[atKey_put_other (fun e=>he (DQ x k hx hk e))];exact h2 x y hx hg zd
theorem UQ(w:World):(zeroValue 3).run Tryz.prog w = .ok (.int .i64 0) w:=Tryz.zeroValue3 w
theorem oX.look{w:World}{b:Nat}{M:List (List Nat×Int)}(k:List Nat)(hk:NmOk k)(h:oX w b M) :
  (Instr.lookup 116 (.map (some b)) (.string (aB k)) false).run Tryz.prog w = .ok (.int .i64 ((jW M k).getD 0)) w /\
  (Instr.lookup 116 (.map (some b)) (.string (aB k)) true).run Tryz.prog w = .ok (.tuple #[.int .i64 ((jW M k).getD 0),.bool (jW M k).isSome]) w:=by
 obtain⟨D,h1,h2,h4,h3⟩:=h;obtain⟨v,ps,nW,hv⟩:=h1.lookup La Tryz.underlying116 (z:=.int .i64 0) (UQ w) (zd:=.lit (.int .i64 0)) (zp:=[]) (plainElem_int Tryz.underlying3 (by decide)) (Lb k hk);obtain⟨v2,ps2,Xe,qD⟩:=h1.look_ok La Tryz.underlying116 (z:=.int .i64 0) (UQ w) (zd:=.lit (.int .i64 0)) (zp:=[]) (plainElem_int Tryz.underlying3 (by decide)) (Lb k hk);rw[nW,Xe];by_cases hm:∃ e∈M,e.1=k
 ·obtain⟨z,hz⟩:=DS hm
  have hh:has D (mM k)=true:=(h2 _).2 (by obtain⟨e,he,hk⟩:=hm;exact⟨e,he,by rw[hk]⟩);rw[h3 k z hk hz] at hv qD;obtain⟨a,rfl,ha,-⟩:=plainElem_int_inv Tryz.underlying3 hv;obtain⟨a2,rfl,Bx,-⟩:=plainElem_int_inv Tryz.underlying3 qD;simp only[Prod.mk.injEq,DataW.lit.injEq,Lit.int.injEq] at ha Bx;rw[hz,hh,<- ha.1.2,<- Bx.1.2];exact⟨rfl,rfl⟩
 ·have hz:=UP hm
  have hh:has D (mM k)=false:=by
   cases hh:has D (mM k) with
   | false=>rfl
   | true =>
    obtain⟨x,hx,he⟩:=(h2 _).1 hh;exact absurd ⟨x,hx,DQ x.1 k (h4 x hx) hk he⟩ hm
  rw[atKey_of_not_has hh] at hv qD;obtain⟨a,rfl,ha,-⟩:=plainElem_int_inv Tryz.underlying3 hv;obtain⟨a2,rfl,Bx,-⟩:=plainElem_int_inv Tryz.underlying3 qD;simp only[Prod.mk.injEq,DataW.lit.injEq,Lit.int.injEq] at ha Bx;rw[hz,hh,<- ha.1.2,<- Bx.1.2];exact⟨rfl,rfl⟩
theorem UR:NmOk []:=⟨by simp,by simp⟩
theorem Zol{W A B:World}(ha:RowKit.Below W.heap.size W A)(hg:A.grownBy B (some W.heap.size)):RowKit.Below W.heap.size W B :=
 ⟨hg.os.trans ha.os,hg.tape.trans ha.tape,hg.output.trans ha.output,dQ ha.size hg.size,fun k hk=>(hg.block k (gR hk ha.size) (fun e=>by have e':k=W.heap.size:=bF e;omega)).trans (ha.block k hk)⟩
theorem Zzv(W:World):∃ M1:World,
  (Instr.mapUpdate 116 (.map (some W.heap.size)) (.string ⟨#[]⟩) (.int .i64 0)).run Tryz.prog (W.alloc (.map #[] 0)) = .ok () M1/\oX M1 W.heap.size [([],0)]/\RowKit.Below W.heap.size W M1:=by
 have h0:=World.ownsMap_made (H:=Unit) W Tryz.prog 9 (plainElem Tryz.prog 3);obtain⟨M1,r1,o1,g1⟩:=h0.update La Tryz.underlying116 (by decide) (Lb [] UR) (plainElem_int (a:=0) Tryz.underlying3 (by decide));refine⟨M1,r1,oX.put (M:=[]) [] 0 UR h0 (fun l=>⟨fun h=>(by cases h),(by rintro⟨_,h,_⟩;cases h)⟩) (fun e he=>(by cases he)) (fun k v _ h=>(by cases h)) o1,Zol ((aG _ _).alloc (aO _) _) g1⟩
theorem Ztg(w:World)(P:Nat->Prop)(l:List Bnd)(ao:Option Addr)(n cap:Nat)(hn:n=l.length)(bN:n<=10000000000000)(aJ:BndOk l)(hv:∀ b∈l,0<=b.v/\b.v<=65535)(hk:tJ w P l ao) :
  Calls Tryz.prog 92 #[.slice ao n cap] w fun e w'=>e = .returned (.map (some w.heap.size))/\oX w' w.heap.size (gY l)/\RowKit.Below w.heap.size w w':=by
 have HK:=I hk;have HN:=I hn;have cV:=I aJ.nm;have rS:=I hv;obtain⟨M1,r1,q1,b1⟩:=Zzv w;have Q1:=I q1;have BX:=I b1;clear hk hn aJ hv q1 b1;have qG:=@run_makeMap Tryz.prog
 go_enter Tryz.func92,Tryz.ntmps92
 go_upto_region 2 with(fail)
 clear r1 qG
 go_wp2_with fail
 have S0:Hid (oX M1 w.heap.size (gY (l.take 0))):=I Q1.o;have O0:Hid (Only M1 M1 (· = w.heap.size)):=I (Only.refl _ _);clear Q1;have lR:=I (fun(W:World) (hW:Only M1 W (· = w.heap.size))=>Only.later (aG w.heap.size w) (Only.trans (Only.of_below (p:=fun g=>w.heap.size<=g) BX.o) (hW.mono (fun g _ hg=>by rw[hg];exact aO _))) (fun g hg=>hg));generalize hb:w.heap.size=b at *
 go_loopw [10] (fun cc wr=>∃ (i:Nat),cc = .int .i64 i/\i<=n/\Hid (oX wr b (gY (l.take i)))/\Hid (Only M1 wr (· = b))) (fun c _=>(n-intOf c).toNat)
 case atStart=>exact⟨0,rfl,by omega,S0,O0⟩
 case round =>
  clear S0 O0;obtain⟨i,rfl,hi,hq,ho⟩:=hrel;have e2:=w1i i (by omega);by_cases aE:i<n
  ·have ii:(i:Int)<n:=by omega
   have HQ:Hid (∃ q,l[i]?=some q/\∃ g off,ao=some ⟨g,off,none⟩/\g<b/\dD wr g (off+i*2) [.string (aB q.n),.int .i64 q.v]):=I (by
    have hl:i<l.length:=by rw[<- HN.o];exact aE
    refine⟨l[i],aL hl,?_⟩;rcases HK.o with h | ⟨g,off,h1,h2,h3,h4⟩
    ·rw[h] at hl;exact absurd hl (jU _)
    ·have xJ:g<b:=by rw[<- hb];exact h3
     have h5:=Vz h4 i _ (aL hl);have Lv:=BX.o
     exact⟨g,off,h1,xJ,(h5.of_block (Lv.block g xJ)).of_block (ho.o.block g (by have:=Lv.size;omega) (by omega))⟩)
   obtain⟨q,bX,gk,off,bI,dT,aH⟩:=HQ.o;clear HQ;have dM:=I (Zv2 l i q bX);have fW:=I (cV.o q (bU bX));have GR:=I (rS.o q (bU bX));have s0:=aH 0 _ rfl;have s1:=aH 1 _ rfl;rw[Nat.add_zero] at s0;have mT:=I bI;clear aH bX;subst bI;have bx:=(aG wr.heap.size wr).alloc (aO _) (.cells #[.string (aB q.n),.int .i64 q.v] 164);have Y1:=hnw wr 164 [.string (aB q.n),.int .i64 q.v];have kL:=I (hq.o.step bx);have qT:=I (ho.o.step bx);clear bx hq ho
   go_upto_region 5 with(fail)
   have Pj:=I (Lb q.n (Wa fW.o));have Xc:=I (Wa fW.o)
   have xQ:Hid (plainElem (H:=Unit) Tryz.prog 3 (.int .i64 q.v)=some (.lit (.int .i64 q.v),[])):=I (plainElem_int Tryz.underlying3 (by
    have:=GR.o;simp[Lit.wf,IntKind.min,IntKind.max,IntKind.signed,IntKind.bits]
    omega))
   clear fW s0 s1 GR;generalize wr.heap.size=A at *;generalize cY:aB q.n=y at *;clear cY;generalize q.v=v at *;generalize wr.alloc (.cells #[.string y,.int .i64 v] 164)=wy at *;have y0:=Y1.o.cell 0 _ rfl;have y1:=Y1.o.cell 1 _ rfl
   have qW:Hid ((gY (l.take i)).length<maxLen):=I (by
    have:(gY (l.take i)).length<=n+1:=by unfold gY;rw[gL,List.length_reverse,eB,List.length_take];simp;omega
    exact Nat.lt_of_le_of_lt this (Nat.lt_of_le_of_lt (Nat.add_le_add_right bN 1) (by decide)))
   obtain⟨D,bD,hh,Tu,ha⟩:=kL.o;have HH:=I hh;have HA:=I ha;have Lw:=I Tu;have HO:=I bD;clear hh ha bD Tu
   go_wp2_with (at_mapUpdate;refine wpList_mapUpdate_own _ rfl (.tmp 14) (.tmp 16) _ 116 rfl 9 3 La Tryz.underlying116 (plainElem Tryz.prog 3) b (gY (l.take i)).length D rfl HO.o qW.o (.string y) (.int .i64 v) (mM q.n) rfl rfl Pj.o (.lit (.int .i64 v)) [] xQ.o ?_;intro w6 gG fB;have Bw:=I (oX.put q.n v Xc.o HO.o HH.o Lw.o HA.o gG);have Xd:=I (qT.o.trans (eh fB));clear gG fB y0 y1 kL qT Y1 HO HH HA Lw)
   rw[<- dM.o] at Bw;go_roundw
   case rel=>exact⟨i+1,by go_num,by omega,Bw,Xd⟩
   case measure=>simp only[intOf];omega
  ·have ii:¬ ((i:Int)<n):=by omega
   have HF:Hid (oX wr b (gY l)):=I (by have:=hq.o;rwa [show l.take i=l from List.take_of_length_le (by rw[<- HN.o];omega)] at this)
   go_wp2
   go_ret;exact⟨rfl,HF.o,lR.o _ ho.o⟩
end
section
open Go.RowKit Go.Sort Go.Maps
def gvD(M:List (List Nat×Int))(k:List Nat):Int:=(jW M k).getD 0
def mz(M:List (List Nat×Int)):Prop:=∀ e∈M,0<=e.2/\e.2<=65535
theorem DU{M:List (List Nat×Int)}(h:mz M)(k:List Nat):0<=gvD M k/\gvD M k<=65535:=by
 unfold gvD
 cases hg:jW M k with
 | none=>exact⟨by decide,by decide⟩
 | some v=>exact h _ (DT hg)
def fV(M:List (List Nat×Int))(k:Ky):Bool:=decide (gvD M k.l-gvD M k.r<=k.c)
def bdV(M:List (List Nat×Int))(k:Ky):Bool:=(jW M k.l).isSome&&(jW M k.r).isSome
theorem UU{k:Ky}(h:KyOk k):NmOk k.l:=⟨h.lb,h.ll⟩
theorem UV{k:Ky}(h:KyOk k):NmOk k.r:=⟨h.rb,h.rl⟩
theorem Z15(k:Ky)(hk:KyOk k)(Bm b:Nat)(M:List (List Nat×Int))(w:World)(hM:oX w b M)(hv:mz M)(hc:aC w Bm 116 [.map (some b)]) :
  Calls Tryz.prog 151 #[.agg (kyC k).toArray,.pointer (some ⟨Bm,0,none⟩)] w fun e w'=>e = .returned (.bool (fV M k))/\RowKit.Below w.heap.size w w':=by
 have bx:=(aG w.heap.size w).alloc (aO _) (.cells #[.string (aB k.l),.string (aB k.r),.int .i64 k.c] 121);have B1:=I bx;have X1:=hnw w 121 [.string (aB k.l),.string (aB k.r),.int .i64 k.c];have GS:=(oX.look k.l (UU hk) (hM.step bx)).1;have GT:=(oX.look k.r (UV hk) (hM.step bx)).1;have bd1:=DU hv k.l;have bd2:=DU hv k.r;have c0:=(hc.step bx).cell 0 _ rfl;have HF:Hid (fV M k=decide (gvD M k.l-gvD M k.r<=k.c)):=I rfl;obtain⟨V,hV⟩:=exq (fV M k);rw[hV] at HF ⊢;have e1:(jW M k.l).getD 0=gvD M k.l:=rfl;have e2:(jW M k.r).getD 0=gvD M k.r:=rfl;rw[e1] at GS;rw[e2] at GT;unfold kyC;clear bx hM hv hc hV hk e1 e2;generalize gvD M k.l=a at *;generalize gvD M k.r=d at *;generalize aB k.l=y at *;generalize aB k.r=z at *;generalize k.c=c at *;have ew:IntKind.i64.wrap (a-d)=a-d:=fU _ (by omega)
 go_enter Tryz.func151,Tryz.ntmps151
 go_upto_region 1 with(fail)
 generalize w.alloc (.cells #[.string y,.string z,.int .i64 c] 121)=w1 at *;obtain⟨x0,x1,x2⟩:=X1.o.c3
 go_wp2
 go_ret;exact⟨aF HF.o.symm,B1.o⟩
theorem Zv4(k:Ky)(hk:KyOk k)(b:Nat)(M:List (List Nat×Int))(w:World)(hM:oX w b M) :
  Calls Tryz.prog 94 #[.map (some b),.agg (kyC k).toArray] w fun e w'=>e = .returned (.bool (bdV M k))/\RowKit.Below w.heap.size w w':=by
 have bx:=(aG w.heap.size w).alloc (aO _) (.cells #[.string (aB k.l),.string (aB k.r),.int .i64 k.c] 121);have B1:=I bx;have X1:=hnw w 121 [.string (aB k.l),.string (aB k.r),.int .i64 k.c];have GS:=(oX.look k.l (UU hk) (hM.step bx)).2;have GT:=(oX.look k.r (UV hk) (hM.step bx)).2;have HF:Hid (bdV M k=((jW M k.l).isSome&&(jW M k.r).isSome)):=I rfl;obtain⟨V,hV⟩:=exq (bdV M k);rw[hV] at HF ⊢;unfold kyC;clear bx hM hV hk;generalize (jW M k.l).getD 0=a at *;generalize (jW M k.r).getD 0=d at *;generalize (jW M k.l).isSome=p1 at *;generalize (jW M k.r).isSome=p2 at *;generalize aB k.l=y at *;generalize aB k.r=z at *;generalize k.c=c at *
 go_enter Tryz.func94,Tryz.ntmps94
 go_upto_region 1 with(fail)
 generalize w.alloc (.cells #[.string y,.string z,.int .i64 c] 121)=w1 at *;have x0:=X1.o.cell 0 _ rfl;have x1:=X1.o.cell 1 _ rfl
 cases p1 with
 | false =>
  rw[dS] at HF
  go_wp2
  go_ret;exact⟨aF HF.o.symm,B1.o⟩
 | true =>
  rw[cH] at HF
  go_wp2
  go_ret;exact⟨aF HF.o.symm,B1.o⟩
end
section
open Go.RowKit Go.Sort Go.Maps
theorem nf:∀ (S:List (List Nat)) (l:List Bnd),vbG S l=true->∀ b∈l,iG b.n=true/\0<=b.v/\b.v<=65535
 | _,[],_,b,hb=>by cases hb
 | S,x::xs,h,b,hb=>by
  unfold vbG at h;simp only[dB,decide_eq_true_eq] at h;rcases List.mem_cons.1 hb with hb | hb
  ·subst hb;exact⟨h.2.1,h.2.2.1,h.2.2.2.1⟩
  ·exact nf _ xs h.2.2.2.2 b hb
theorem UW{l:List Bnd}(h:vbP l=true):∀ b∈l,0<=b.v/\b.v<=65535:=fun b hb=>(nf [] l h b hb).2
theorem UX{l:List Bnd}(h:vbP l=true):mz (gY l):=fun e he=>by
 unfold gY at he;rcases kI.1 he with he | he
 ·rw[List.mem_reverse,List.mem_map] at he
  obtain⟨b,hb,rfl⟩:=he;exact UW h b hb
 ·rw[List.mem_singleton] at he
  subst he;exact⟨by decide,by decide⟩
def rI(p:Prd)(l:List Bnd):Bool×Int :=
 if (jV p&&vbP l)=false then(false,1) else if (sB p).all (bdV (gY l))=false then(false,4) else(lW (fV (gY l)) p,0)
theorem tJ.below{w w':World}{P:Nat->Prop}{l:List Bnd}{ao:Option Addr}(h:tJ w P l ao)(hb:RowKit.Below w.heap.size w w'):tJ w' P l ao:=by
 rcases h with h | ⟨g,off,h1,h2,h3,h4⟩
 ·exact .inl h
 ·exact .inr ⟨g,off,h1,h2,gR h3 hb.size,h4.of_block (hb.block g h3)⟩
theorem Zzw(b:Nat)(w:World):Calls Tryz.prog 96 #[.map (some b)] w fun e w'=>e = .returned (.func (.func 151) #[] #[.pointer (some ⟨w.heap.size,0,none⟩)])/\w'=w.alloc (.cells #[.map (some b)] 116):=by
 go_enter Tryz.func96,Tryz.ntmps96
 go_wp2
 go_ret;exact⟨rfl,rfl⟩
def ByC(Bm b:Nat)(M:List (List Nat×Int))(w:World):Prop:=oX w b M/\aC w Bm 116 [.map (some b)]
theorem Z36(Bm b:Nat)(M:List (List Nat×Int))(hv:mz M):IsF (ByC Bm b M) 151 #[.pointer (some ⟨Bm,0,none⟩)] (fV M) KyOk :=
 ⟨enters_of Tryz.func151 (by kernel_rfl) rfl,fun w w' h hb=>⟨h.1.step hb,h.2.step hb⟩,fun k w hk hC=>Z15 k hk Bm b M w hC.1 hv hC.2⟩
theorem Zzx(f:Ky->Bool)(l:List Ky)(i:Nat)(k:Ky)(h:l[i]?=some k):(l.drop i).all f=(f k&&(l.drop (i+1)).all f):=by
 rw[DM l i k h,List.all_cons]
theorem Zv7 (p:Prd) (w:World) (P Pb:Nat->Prop) (vs:List Value) (B:Nat) (l:List Bnd) (bo:Option Addr) (m bc:Nat) (hN:cO p<=1000000) (hb:tI p) (h:cK w P p vs) (hT:Tab w B)
  (hm:m=l.length) (bN:m<=10000000000000) (aJ:BndOk l) (hk:tJ w Pb l bo) :
  Calls Tryz.prog 30 #[.agg vs.toArray,.slice bo m bc] w fun e w'=>e = .returned (.tuple #[.bool (rI p l).1,.int .i64 (rI p l).2])/\RowKit.Below w.heap.size w w':=by
 obtain⟨xa,xn,xc,rfl,-⟩:=h.form;have bx:=(aG w.heap.size w).alloc (aO _) (.cells #[.int .i64 p.k,.string (aB p.l),.string (aB p.r),.int .i64 p.c,.slice xa xn xc] 54);have B1:=I bx;have X1:=hnw w 54 [.int .i64 p.k,.string (aB p.l),.string (aB p.r),.int .i64 p.c,.slice xa xn xc];have nM:=I (fun W (hW:RowKit.Below w.heap.size w W)=>Zvu p W P _ B hN hb (h.below hW) (gS.step (w:=w) hT hW));have rS:=I (fun W (hW:RowKit.Below w.heap.size w W)=>Zte W Pb l bo m bc B (show Tab W B from gS.step (w:=w) hT hW) hm bN aJ (hk.below hW));have jG:=I (fun(hv:vbP l=true) W (hW:RowKit.Below w.heap.size w W)=>Ztg W Pb l bo m bc hm bN aJ (UW hv) (hk.below hW));have ge:=I (fun(hv:jV p=true) W (hW:RowKit.Below w.heap.size w W)=>Zvr W P p _ (h.below hW) (by unfold jV at hv;rw[dB] at hv;exact hv.2) hN);have Tv:=I (fun(W:World) (C:World->Prop) (g:Nat) (cb:Array Value) (f:Ky->Bool) (S:Ky->Prop) (hW:RowKit.Below w.heap.size w W) h1 h2 h4=>TZ (cO p) p W P [.int .i64 p.k,.string (aB p.l),.string (aB p.r),.int .i64 p.c,.slice xa xn xc] C g cb f S (aO _) hN h1 h2 (h.below hW) h4);have pG:=I (fun(hv:jV p=true)=>Vs p (by unfold jV at hv;rw[dB] at hv;exact hv.2));have nY:=I (fun(hv:jV p=true) (k:Ky) (hk:k∈sB p)=>Vs p (by unfold jV at hv;rw[dB] at hv;exact hv.2) k ((CH p k).1 hk))
 have xP:Hid ((sB p).length<=1000000):=I (by
  refine dQ (UK _ (oI p) (Zvw (QC p)) (fun x hx=>(CH p x).1 hx)) ?_
  exact dQ (CC p) hN)
 have rq:=I (fun(hv:vbP l=true)=>UX hv);have HV:Hid (rI p l=if (jV p&&vbP l)=false then(false,1) else if (sB p).all (bdV (gY l))=false then(false,4) else(lW (fV (gY l)) p,0)):=I rfl;obtain⟨V,hV⟩:=exq (rI p l);rw[hV] at HV ⊢;clear bx h hT hb hN hV hm aJ hk;generalize jV p=s at *;generalize vbP l=t at *;obtain⟨M,hM⟩:=exq (gY l);rw[hM] at HV jG rq;clear hM;generalize p.k=q0 at *;generalize aB p.l=q1 at *;generalize aB p.r=q2 at *;generalize p.c=q3 at *
 go_enter Tryz.func30,Tryz.ntmps30
 go_upto_region 1 with(fail)
 generalize w.alloc (.cells #[.int .i64 q0,.string q1,.string q2,.int .i64 q3,.slice xa xn xc] 54)=w1 at *
 go_wp2_with (refine wpList_load_row rfl 54 (.tmp 2) rfl w.heap.size ?x1 54 #[.int .i64 q0,.string q1,.string q2,.int .i64 q3,.slice xa xn xc] (0,0) _ X1.o Tryz.underlying54 rfl (oT _ rfl) ?_;(case x1=>rfl))
 refine(nM.o w1 B1.o).mono ?_;rintro e w2 ⟨rfl,b2⟩;have B2:=B1.tr b2;have X2:=I (X1.o.step b2);clear b2 nM B1 X1
 cases s with
 | false =>
  have HX:Hid (V=(false,1)):=I (by rw[HV.o];rfl)
  go_wp2
  go_ret2
  exact⟨by rw[HX.o];rfl,B2.o⟩
 | true =>
  go_wp2_with fail
  refine(rS.o w2 B2.o).mono ?_;rintro e w3 ⟨rfl,b3⟩;have B3:=B2.tr b3;have X3:=I (X2.o.step b3);clear b3 rS B2 X2
  cases t with
  | false =>
   have HX:Hid (V=(false,1)):=I (by rw[HV.o];rfl)
   go_wp2
   go_ret2
   exact⟨by rw[HX.o];rfl,B3.o⟩
  | true =>
   have fZ:Hid (V=if (sB p).all (bdV M)=false then(false,4) else(lW (fV M) p,0)):=I (by rw[HV.o];rfl)
   go_wp2_with fail
   refine(jG.o (by trivial) w3 B3.o).mono ?_;rintro e w4 ⟨rfl,m4,b4⟩;have M4:=I m4;have B4:=B3.tr b4;have X4:=I (X3.o.step b4);clear b4 m4 jG B3 X3 HV;generalize w3.heap.size=mb at *
   go_wp2_with (refine wpList_load_row rfl 54 (.tmp 2) rfl w.heap.size ?x2 54 #[.int .i64 q0,.string q1,.string q2,.int .i64 q3,.slice xa xn xc] (0,0) _ X4.o Tryz.underlying54 rfl (oT _ rfl) ?_;(case x2=>rfl))
   refine(ge.o (by trivial) w4 B4.o).mono ?_;rintro e w5 ⟨ak,ck,rfl,ho,b5⟩;have M5:=I (M4.o.step b5);have B5:=B4.tr b5;have X5:=I (X4.o.step b5);have K5:=I (ho.keysR rfl);clear b5 ho ge B4 X4 M4;obtain⟨ks,By⟩:=exq (sB p);rw[By] at fZ K5 xP nY;rw[By];clear By;obtain⟨n,hn⟩:=exq (ks.length);have HN:=I hn;rw[hn] at xP;rw[hn];clear hn;have hn8:=xP.o;have Xf:Hid (ks.all (bdV M)=(ks.drop 0).all (bdV M)):=I rfl;have Z0:Hid (RowKit.Below w5.heap.size w5 w5):=I (aG _ _)
   go_wp2_with fail
   go_loopw [22] (fun cc wr=>∃ (i:Nat),cc = .int .i64 i/\i<=n/\Hid (RowKit.Below w5.heap.size w5 wr)/\Hid (ks.all (bdV M)=(ks.drop i).all (bdV M))) (fun c _=>(n-intOf c).toNat)
   case atStart=>exact⟨0,rfl,by omega,Z0,Xf⟩
   case round =>
    clear Xf Z0;obtain⟨i,rfl,hi,hw,hv⟩:=hrel;have e2:=w1i i (by omega);by_cases aE:i<n
    ·have ii:(i:Int)<n:=by omega
     have HQ:Hid (∃ k,ks[i]?=some k):=I (by
      have hl:i<ks.length:=by rw[HN.o];exact aE
      exact⟨ks[i],aL hl⟩)
     obtain⟨k,Lo⟩:=HQ.o;clear HQ;have bQ:=I (hv.o.trans (Zzx (bdV M) ks i k Lo));have Wt:=I (nY.o (by trivial) k (bU Lo));obtain⟨g,off,bI,hg,s0,s1,s2⟩:=(K5.o.below hw.o).at i k Lo;have mT:=I bI;subst bI;have GU:=I (fun W (hW:oX W mb M)=>Zv4 k Wt.o mb M W hW);have qy:Hid (kyC k=[.string (aB k.l),.string (aB k.r),.int .i64 k.c]):=I rfl;rw[qy.o] at GU;clear Lo Wt qy hv hg;generalize aB k.l=y1 at *;generalize aB k.r=y2 at *;generalize k.c=y3 at *;generalize bdV M k=bd at *;have bx:=(aG wr.heap.size wr).alloc (aO _) (.cells #[.string y1,.string y2,.int .i64 y3] 121);have Y1:=hnw wr 121 [.string y1,.string y2,.int .i64 y3];have W1:=hw.tr bx;clear bx hw
     go_upto_region 7 with(fail)
     clear s0 s1 s2;generalize wr.alloc (.cells #[.string y1,.string y2,.int .i64 y3] 121)=wk at *
     go_wp2_with (refine wpList_load_row rfl 121 (.tmp 8) rfl wr.heap.size ?x3 121 #[.string y1,.string y2,.int .i64 y3] (0,0) _ Y1.o Tryz.underlying121 rfl (RO _ rfl) ?_;(case x3=>rfl))
     refine(GU.o wk (M5.o.step W1.o)).mono ?_;rintro e w6 ⟨rfl,b6⟩;have W6:=W1.tr b6;clear b6 W1 Y1
     cases bd with
     | false =>
      have HX:Hid (V=(false,4)):=I (by rw[fZ.o,bQ.o];rfl)
      go_wp2
      go_ret2
      exact⟨by rw[HX.o];rfl,B5.o.trans (W6.o.mono B5.o.size)⟩
     | true =>
      have xO:Hid (ks.all (bdV M)=(ks.drop (i+1)).all (bdV M)):=I (by rw[bQ.o,cH])
      go_wp2
      go_roundw
      case rel=>exact⟨i+1,by go_num,by omega,W6,xO⟩
      case measure=>simp only[intOf];omega
    ·have ii:¬ ((i:Int)<n):=by omega
     have HX:Hid (V=(lW (fV M) p,0)):=I (by rw[fZ.o,hv.o,List.drop_eq_nil_of_le (by rw[HN.o];omega)];rfl);have X6:=I (X5.o.step hw.o);have M6:=I (M5.o.step hw.o);have B6:=B5.tr hw.o;clear hv hw fZ K5 X5 M5 B5
     go_upto_region 10 with(fail)
     refine SJ [0,1] [2,3,4,5] (fun w'=>aC w' w.heap.size 54 [.int .i64 q0,.string q1,.string q2,.int .i64 q3,.slice xa xn xc]) (by kernel_rfl) (by kernel_rfl) (by kernel_rfl) (fun _ _ d _ _ h=>by cases d<;>exact h) X6.o ?_;simp only[iH,List.filterMap_cons,List.filterMap_nil,List.getElem?_cons_zero,List.getElem?_cons_succ,Option.map_some,List.map_cons,List.map_nil];apply Exists.intro;refine⟨?hh,?ht⟩
     case hh =>
      intro w' bM;obtain⟨c0,c1,c2,c3,c4⟩:=bM.c5;clear bM
      repeat still_step
      exact wpStill_nil rfl
     case ht =>
      have BD:=(aG wr.heap.size wr).drew;have X7:=I (X6.o.step BD);have M7:=I (M6.o.step BD);have B7:=B6.tr BD;clear BD X6 M6 B6;generalize wr.drew=wd at *;refine Sp ?_
      go_wp2_with fail
      refine(Zzw mb wd).mono ?_;rintro e w8 ⟨rfl,rfl⟩;have BA:=(aG wd.heap.size wd).alloc (aO _) (.cells #[.map (some mb)] 116);have X8:=I (X7.o.step BA);have C8:Hid (ByC wd.heap.size mb M (wd.alloc (.cells #[.map (some mb)] 116))):=I ⟨M7.o.step BA,heap_alloc_new _ _⟩;have B8:=B7.tr BA;clear BA X7 M7 B7;generalize wd.alloc (.cells #[.map (some mb)] 116)=w8 at *
      go_wp2_with fail
      refine aI ⟨X8.o,?_⟩;refine Sp ?_
      go_wp2_with fail
      refine(Tv.o w8 (ByC wd.heap.size mb M) 151 _ (fV M) KyOk B8.o (Z36 wd.heap.size mb M (rq.o (by trivial))) (pG.o (by trivial)) C8.o).mono ?_;rintro e w9 ⟨rfl,b9⟩;have X9:=I (X8.o.step b9);have B9:=B8.tr b9;clear b9 X8 C8 B8
      go_wp2_with fail
      refine aI ⟨X9.o,?_⟩;refine Sp ?_
      go_wp2_with fail
      refine aI ⟨X9.o,?_⟩;refine Sp ?_
      go_wp2_with fail
      refine aI ⟨X9.o,?_⟩;unfold Kv
      go_wp2
      go_ret2
      exact⟨by rw[HX.o];rfl,B9.o⟩
end
section
open Go.RowKit Go.Sort Go.Maps
theorem DV{α:Type}(f:α->Bool)(l:List α)(i:Nat)(k:α)(h:l[i]?=some k):(l.drop i).all f=(f k&&(l.drop (i+1)).all f):=by
 rw[DM l i k h,List.all_cons]
theorem Nt.get{w:World}{P:Nat->Prop}{ks:List Prd}{ao:Option Addr}(h:Nt w P ks ao){i:Nat}(hi:i<ks.length):∃ q,ks[i]?=some q/\∃ g off,ao=some ⟨g,off,none⟩/\g<w.heap.size/\∃ vs,cK w P q vs/\dD w g (off+i*5) vs:=by
 rcases h with h | ⟨g,off,h1,h2,h3,h4⟩
 ·rw[h] at hi;exact absurd hi (jU _)
 ·obtain⟨vs,nU,qD⟩:=gE.at ks g off i _ (aL hi) h4
  exact⟨ks[i],aL hi,g,off,h1,h3,vs,nU,qD⟩
end
section
open Go.RowKit Go.Sort Go.Maps
theorem UY(l:List Nat)(w:World)(hl:l.length<=1000000)(hb:∀ y∈l,y<256) :
  Calls Tryz.prog 199 #[.string (aB l)] w fun e w'=>e = .returned (.bool (gX l))/\RowKit.Below w.heap.size w w':=by
 have H1:=I (Zxl l w hl hb);have H2:=I (fun(W:World) (g:Nat) (hr:aC W g 9 (tY.map (fun s=>.string (aB s))))=>SD g 0 8 8 tY l W rfl (by omega) (fun j u hj=>by rw[Nat.zero_add];exact hr.cell j u hj) hb DW);have HV:Hid (gX l=(nD l&&!yN tY l)):=I rfl;have B0:=I (aG w.heap.size w);clear hl hb;generalize gX l=V at *;generalize nD l=b1 at *;generalize yN tY l=b2 at *;generalize aB l=t at *
 go_enter Tryz.func199,Tryz.ntmps199
 go_wp2_with fail
 refine H1.o.mono ?_;rintro e w1 ⟨rfl,rfl⟩
 cases b1 with
 | false =>
  go_wp2
  go_ret;exact⟨aF (by rw[HV.o];rfl),B0.o⟩
 | true =>
  go_wp2_with fail
  refine(RZ w).mono ?_;rintro e w2 ⟨rfl,hv,uQ⟩;have HH:=I (H2.o w2 _ hv);have B2:=I uQ;clear hv uQ
  go_wp2_with fail
  refine HH.o.mono ?_;rintro e w3 ⟨rfl,rfl⟩
  go_wp2
  go_ret;exact⟨aF (by rw[HV.o];rfl),B2.o⟩
theorem UZ(l:List Nat)(i:Nat)(hi:i<l.length)(h:∀ j,j<i->l.getD j 0≠46)(h2:l.getD i 0=46):bL bO l=i :=
 (ky bO l i (by omega) (fun j hj=>by unfold bO;simpa using h j hj) (fun _=>by unfold bO;rw[h2];rfl)).symm
theorem VB(l:List Nat)(h:∀ j,j<l.length->l.getD j 0≠46):bL bO l=l.length :=
 (ky bO l l.length (by omega) (fun j hj=>by unfold bO;simpa using h j hj) (fun h=>absurd h (by omega))).symm
theorem DX(l:List Nat)(w:World)(hl:l.length<=1000000)(hb:∀ y∈l,y<256) :
  Calls Tryz.prog 172 #[.string (aB l)] w fun e w'=>e = .returned (.bool (iG l))/\RowKit.Below w.heap.size w w':=by
 have SZ:=I (tH l);have HX:Hid (∀ i:Nat,i<l.length->∀ w,(Instr.index 9 (.string (aB l)) (.int .i64 (i:Int))).run Tryz.prog w = .ok (.int .u8 ((l.getD i 0:Nat):Int)) w):=I (fun i hi w=>St l i hi hb w);have HS:Hid (∀ i:Nat,i<=l.length->∀ w,(Instr.slice 9 (.string (aB l)) (some (.int .i64 (i:Int))) none none).run Tryz.prog w = .ok (.string (aB (l.drop i))) w):=I (fun i hi w=>VC l i hi w);have HU:Hid (∀ i:Nat,i<=l.length->∀ w,(Instr.slice 9 (.string (aB l)) none (some (.int .i64 (i:Int))) none).run Tryz.prog w = .ok (.string (aB (l.take i))) w):=I (fun i hi w=>VD l i hi w);have wC:=I (fun(i:Nat) W=>UY (l.take i) W (by rw[List.length_take];omega) (fun y hy=>hb y (List.mem_of_mem_take hy)));have sO:=I (fun(i:Nat) W=>UY (l.drop i) W (by rw[List.length_drop];omega) (fun y hy=>hb y (List.mem_of_mem_drop hy)));have HV:Hid (iG l=(decide (bL bO l<l.length)&&(gX (l.take (bL bO l))&&gX (l.drop (bL bO l+1))))):=I rfl;have HB:=I hb;have B0:=I (aG w.heap.size w);clear hb;generalize iG l=V at *;generalize aB l=t at *
 go_enter Tryz.func172,Tryz.ntmps172
 go_wp2_with fail
 go_loop [3] (fun c=>∃ i:Nat,c = .int .i64 i/\i<=l.length/\Hid (∀ j,j<i->l.getD j 0≠46)) (fun c=>(l.length-intOf c).toNat)
 case atStart=>exact⟨0,rfl,by omega,I (fun j hj=>absurd hj (jU j))⟩
 case round =>
  obtain⟨i,rfl,hi,hz⟩:=hrel;have iK:=SZ.o;have e2:=w1i i (by omega);by_cases aE:i<l.length
  ·have hx:=HX.o i aE
   have ii:(i:Int)<l.length:=by omega
   obtain⟨v,hv⟩:=exq (l.getD i 0);rw[hv] at hx;have uR:=I hv;clear hv;by_cases xL:v=46
   ·have c1:((v:Int)==46)=true:=by rw[beq_iff_eq];omega
    have HR:Hid (bL bO l=i):=I (UZ l i aE hz.o (by rw[uR.o];exact xL));have fZ:Hid (V=(gX (l.take i)&&gX (l.drop (i+1)))):=I (by rw[HV.o,HR.o,decide_eq_true aE,cH]);have hu:=HU.o i (by omega)
    have hs:∀ w,(Instr.slice 9 (.string t) (some (.int .i64 ((i:Int)+1))) none none).run Tryz.prog w = .ok (.string (aB (l.drop (i+1)))) w:=fun w=>by
     have h:=HS.o (i+1) (by omega) w
     rwa [show((i+1:Nat):Int)=(i:Int)+1 from by omega] at h
    have F1:=I (wC.o i);have F2:=I (sO.o (i+1));clear xL HR HV hz uR;generalize gX (l.take i)=b1 at *;generalize gX (l.drop (i+1))=b2 at *;generalize aB (l.take i)=s1 at *;generalize aB (l.drop (i+1))=s2 at *
    go_wp2_with fail
    refine(F1.o w).mono ?_;rintro e w1 ⟨rfl,Xg⟩;have B1:=I Xg;clear Xg
    cases b1 with
    | false =>
     go_wp2
     go_ret;exact⟨aF (by rw[fZ.o];rfl),B1.o⟩
    | true =>
     go_wp2_with fail
     refine(F2.o w1).mono ?_;rintro e w2 ⟨rfl,uQ⟩;have B2:=I (B1.o.trans (uQ.mono B1.o.size));clear uQ hu hs hx F1 F2
     cases b2 with
     | false =>
      go_wp2
      go_ret;exact⟨aF (by rw[fZ.o];rfl),B2.o⟩
     | true =>
      go_wp2
      go_ret;exact⟨aF (by rw[fZ.o];rfl),B2.o⟩
   ·have c1:((v:Int)==46)=false:=by rw[beq_eq_false_iff_ne];omega
    have HZ:Hid (∀ j,j<i+1->l.getD j 0≠46):=I (fun j hj=>by
     rcases gQ j i with h | h
     ·exact hz.o j h
     ·obtain rfl:j=i:=by omega
      rw[uR.o];exact xL)
    clear xL hz
    go_wp2
    go_round
    case rel=>exact⟨i+1,by go_num,by omega,HZ⟩
    case measure=>simp only[intOf];omega
  ·have ii:¬ ((i:Int)<l.length):=by omega
   have HX:Hid (V=false):=I (by rw[HV.o,VB l (fun j hj=>hz.o j (by omega)),decide_eq_false (by omega)];rfl)
   go_wp2
   go_ret;exact⟨aF HX.o.symm,B0.o⟩
theorem Zth(κ:Int)(l r:List Nat)(c:Int)(ao:Option Addr)(n cap:Nat)(w:World)(hl:NmB l)(hr:NmB r) :
  Calls Tryz.prog 198 #[.agg #[.int .i64 κ,.string (aB l),.string (aB r),.int .i64 c,.slice ao n cap]] w fun e w'=>e = .returned (.bool (oV κ l r c n))/\RowKit.Below w.heap.size w w':=by
 have bx:=(aG w.heap.size w).alloc (aO _) (.cells #[.int .i64 κ,.string (aB l),.string (aB r),.int .i64 c,.slice ao n cap] 54);have B1:=I bx;have X1:=hnw w 54 [.int .i64 κ,.string (aB l),.string (aB r),.int .i64 c,.slice ao n cap];have H1:=I (fun W=>DX l W hl.2 hl.1);have H2:=I (fun W=>DX r W hr.2 hr.1);have HV:Hid (oV κ l r c n=(κ==0&&(n==0&&((l==[]||iG l)&&((r==[]||iG r)&&(decide (-1099511627776<=c)&&decide (c<1099511627776))))))):=I rfl
 have HE:∀ m:List Nat,(aB m).toList.isEmpty=(m==[]):=fun m=>by
  cases m with
  | nil=>exact Kz.trans rfl
  | cons a b=>rw[Hp _ (by simp)];rfl
 have Wp:=HE l;have rr:=HE r;obtain⟨V,hV⟩:=exq (oV κ l r c n);rw[hV] at HV ⊢;clear bx hl hr HE hV;generalize (l==[])=e1 at *;generalize (r==[])=e2 at *;generalize iG l=v1 at *;generalize iG r=v2 at *;generalize aB l=y at *;generalize aB r=z at *
 go_enter Tryz.func198,Tryz.ntmps198
 go_upto_region 1 with(fail)
 generalize w.alloc (.cells #[.int .i64 κ,.string y,.string z,.int .i64 c,.slice ao n cap] 54)=w1 at *;obtain⟨x0,x1,x2,x3,x4⟩:=X1.o.c5;by_cases k0:κ=0
 ·have k0b:(κ==0)=true:=beq_iff_eq.mpr k0
  rw[k0b,cH] at HV;clear k0;by_cases n0:n=0
  ·have n0b:(n==0)=true:=beq_iff_eq.mpr n0
   have n0c:((n:Int)==0)=true:=by rw[n0];rfl
   rw[n0b,cH] at HV;clear n0 n0b
   cases e1 with
   | true =>
    rw[Bool.true_or,cH] at HV
    cases e2 with
    | true =>
     rw[Bool.true_or,cH] at HV;by_cases c1:-1099511627776<=c
     ·rw[decide_eq_true c1,cH] at HV
      go_wp2
      go_ret;exact⟨aF (by rw[HV.o]),B1.o⟩
     ·rw[decide_eq_false c1,dS] at HV
      go_wp2
      go_ret;exact⟨aF (by rw[HV.o]),B1.o⟩
    | false =>
     rw[Bool.false_or] at HV
     go_wp2_with fail
     refine(H2.o w1).mono ?_;rintro e w2 ⟨rfl,b2⟩;have B2:=B1.tr b2;have X2:=I (X1.o.step b2);clear b2 x0 x1 x2 x3 x4;have x3:=X2.o.cell 3 _ rfl
     cases v2 with
     | false =>
      rw[dS] at HV
      go_wp2
      go_ret;exact⟨aF (by rw[HV.o]),B2.o⟩
     | true =>
      rw[cH] at HV;by_cases c1:-1099511627776<=c
      ·rw[decide_eq_true c1,cH] at HV
       go_wp2
       go_ret;exact⟨aF (by rw[HV.o]),B2.o⟩
      ·rw[decide_eq_false c1,dS] at HV
       go_wp2
       go_ret;exact⟨aF (by rw[HV.o]),B2.o⟩
   | false =>
    rw[Bool.false_or] at HV
    go_wp2_with fail
    refine(H1.o w1).mono ?_;rintro e w2 ⟨rfl,b2⟩;have B2:=B1.tr b2;have X2:=I (X1.o.step b2);clear b2 x0 x1 x2 x3 x4;have x2:=X2.o.cell 2 _ rfl;have x3:=X2.o.cell 3 _ rfl
    cases v1 with
    | false =>
     rw[dS] at HV
     go_wp2
     go_ret;exact⟨aF (by rw[HV.o]),B2.o⟩
    | true =>
     rw[cH] at HV
     cases e2 with
     | true =>
      rw[Bool.true_or,cH] at HV;by_cases c1:-1099511627776<=c
      ·rw[decide_eq_true c1,cH] at HV
       go_wp2
       go_ret;exact⟨aF (by rw[HV.o]),B2.o⟩
      ·rw[decide_eq_false c1,dS] at HV
       go_wp2
       go_ret;exact⟨aF (by rw[HV.o]),B2.o⟩
     | false =>
      rw[Bool.false_or] at HV
      go_wp2_with fail
      refine(H2.o w2).mono ?_;rintro e w3 ⟨rfl,b3⟩;have B3:=B2.tr b3;have X3:=I (X2.o.step b3);clear b3 x2 x3;have x3:=X3.o.cell 3 _ rfl
      cases v2 with
      | false =>
       rw[dS] at HV
       go_wp2
       go_ret;exact⟨aF (by rw[HV.o]),B3.o⟩
      | true =>
       rw[cH] at HV;by_cases c1:-1099511627776<=c
       ·rw[decide_eq_true c1,cH] at HV
        go_wp2
        go_ret;exact⟨aF (by rw[HV.o]),B3.o⟩
       ·rw[decide_eq_false c1,dS] at HV
        go_wp2
        go_ret;exact⟨aF (by rw[HV.o]),B3.o⟩
  ·have n0b:(n==0)=false:=beq_eq_false_iff_ne.mpr n0
   have n0c:((n:Int)==0)=false:=by rw[beq_eq_false_iff_ne];omega
   rw[n0b,dS] at HV;clear n0 n0b
   go_wp2
   go_ret;exact⟨aF (by rw[HV.o]),B1.o⟩
 ·have k0b:(κ==0)=false:=beq_eq_false_iff_ne.mpr k0
  rw[k0b,dS] at HV;clear k0
  go_wp2
  go_ret;exact⟨aF (by rw[HV.o]),B1.o⟩
end
section
open Go.RowKit Go.Sort Go.Maps
def rvP(l:List Bnd)(x:List Nat):Int×Bool:=match l.find? (fun b=>b.n==x) with
 | some b=>(b.v,true)
 | none=>(0,x==[])
theorem Zv8(l:List Bnd)(x:List Nat)(i:Nat)(b:Bnd)(h:l[i]?=some b):(l.drop i).find? (fun b=>b.n==x)=if (b.n==x)=true then some b else(l.drop (i+1)).find? (fun b=>b.n==x):=by
 rw[DM l i b h,List.find?_cons];cases b.n==x<;>rfl
theorem VE:∀ (S:List (List Nat)) (l:List Bnd),vbG S l=true->(∀ b∈l,b.n ∉ S)/\l.Pairwise (fun a b=>a.n≠b.n)
 | S,[],_=>⟨fun b hb=>absurd hb List.not_mem_nil,.nil⟩
 | S,x::xs,h=>by
  unfold vbG at h;simp only[dB,Bool.not_eq_true',decide_eq_false_iff_not] at h;obtain⟨h1,h2⟩:=VE (S++[x.n]) xs h.2.2.2.2;refine⟨fun b hb=>?_,List.pairwise_cons.2 ⟨fun b hb e=>?_,h2⟩⟩
  ·rcases List.mem_cons.1 hb with rfl | hb
   ·exact h.1
   ·exact fun hm=>h1 b hb (List.mem_append_left _ hm)
  ·exact h1 b hb (List.mem_append_right _ (by rw[e];simp))
theorem Z16{l:List Bnd}(h:l.Pairwise (fun a b=>a.n≠b.n)){a b:Bnd}(ha:a∈l)(hb:b∈l)(e:a.n=b.n):a=b:=by
 induction l with
 | nil=>cases ha
 | cons x xs ih =>
  obtain⟨h1,h2⟩:=List.pairwise_cons.1 h;rcases List.mem_cons.1 ha with Bx | Bx
  ·rcases List.mem_cons.1 hb with fH | fH
   ·rw[Bx,fH]
   ·exact absurd (by rw[<- Bx];exact e) (h1 b fH)
  ·rcases List.mem_cons.1 hb with fH | fH
   ·exact absurd (by rw[<- fH];exact e.symm) (h1 a Bx)
   ·exact ih h2 Bx fH
theorem VF{x:List Nat}(h:iG x=true):x≠[]:=by
 rintro rfl;exact absurd h (by decide)
theorem ng(l:List Bnd)(x:List Nat)(h:vbP l=true):rvP l x=((jW (gY l) x).getD 0,(jW (gY l) x).isSome):=by
 have hp:=(VE [] l h).2;have aJ:=nf [] l h;unfold rvP
 cases hf:l.find? (fun b=>b.n==x) with
 | some b =>
  have hb:=List.mem_of_find?_eq_some hf
  have hx:b.n=x:=by simpa using List.find?_some hf
  have Bz:∃ e∈gY l,e.1=x:=⟨(b.n,b.v),by unfold gY;simp only[kI,List.mem_reverse,List.mem_map];exact .inl ⟨b,hb,rfl⟩,hx⟩;obtain⟨v,hv⟩:=DS Bz;have hm:=DT hv;rw[hv];unfold gY at hm;rcases kI.1 hm with hm | hm
  ·rw[List.mem_reverse,List.mem_map] at hm
   obtain⟨b',rs,he⟩:=hm;injection he with e1 e2;have:b'=b:=Z16 hp rs hb (by rw[e1,hx]);rw[<- this];show(b'.v,true)=(v,true);rw[e2]
  ·rw[List.mem_singleton] at hm
   injection hm with e1 e2;exact absurd (hx.trans e1) (VF (aJ b hb).1)
 | none =>
  have hn:=List.find?_eq_none.1 hf;by_cases h0:x=[]
  ·subst h0
   have Bz:∃ e∈gY l,e.1=([]:List Nat):=⟨([],0),by unfold gY;simp,rfl⟩;obtain⟨v,hv⟩:=DS Bz;have hm:=DT hv;rw[hv];unfold gY at hm;rcases kI.1 hm with hm | hm
   ·rw[List.mem_reverse,List.mem_map] at hm
    obtain⟨b',rs,he⟩:=hm;injection he with e1 e2;exact absurd e1 (VF (aJ b' rs).1)
   ·rw[List.mem_singleton] at hm
    injection hm with e1 e2;rw[e2];rfl
  ·have nK:¬ ∃ e∈gY l,e.1=x:=by
    rintro⟨e,he,hx⟩;unfold gY at he;rcases kI.1 he with he | he
    ·rw[List.mem_reverse,List.mem_map] at he
     obtain⟨b,hb,rfl⟩:=he;exact hn b hb (by simpa using hx)
    ·rw[List.mem_singleton] at he
     subst he;exact h0 hx.symm
   rw[UP nK];show((0:Int),x==[])=(0,false);rw[beq_eq_false_iff_ne.mpr h0]
theorem DY(x:List Nat)(w:World)(Pb:Nat->Prop)(l:List Bnd)(bo:Option Addr)(m bc:Nat)(hx:∀ y∈x,y<256)(hm:m=l.length)(bN:m<=1000000)(aJ:BndOk l)(hk:tJ w Pb l bo) :
  Calls Tryz.prog 219 #[.string (aB x),.slice bo m bc] w fun e w'=>e = .returned (.tuple #[.int .i64 (rvP l x).1,.bool (rvP l x).2])/\w=w':=by
 have HM:=I hm;have HK:=I hk;have HE:=I (fun(b:Bnd) (hb:b∈l)=>Nr b.n x (aJ.nm b hb).1 hx)
 have GY:(aB x).toList.isEmpty=(x==[]):=by
  cases x with
  | nil=>exact Kz.trans rfl
  | cons a b=>rw[Hp _ (by simp)];rfl
 have HV:Hid (rvP l x=match (l.drop 0).find? (fun b=>b.n==x) with | some b=>(b.v,true) | none=>(0,x==[])):=I rfl;obtain⟨V,hV⟩:=exq (rvP l x);rw[hV] at HV ⊢;clear hm aJ hk hV hx;generalize (x==[])=xe at *;generalize aB x=y at *
 go_enter Tryz.func219,Tryz.ntmps219
 go_wp2_with fail
 go_loop [6] (fun c=>∃ i:Nat,c = .int .i64 i/\i<=m/\Hid (V=match (l.drop i).find? (fun b=>b.n==x) with | some b=>(b.v,true) | none=>(0,xe))) (fun c=>(m-intOf c).toNat)
 case atStart=>exact⟨0,rfl,by omega,HV⟩
 case round =>
  clear HV;obtain⟨i,rfl,hi,hv⟩:=hrel;have e2:=w1i i (by omega);by_cases aE:i<m
  ·have ii:(i:Int)<m:=by omega
   have HQ:Hid (∃ q,l[i]?=some q/\∃ g off,bo=some ⟨g,off,none⟩/\dD w g (off+i*2) [.string (aB q.n),.int .i64 q.v]):=I (by
    have hl:i<l.length:=by rw[<- HM.o];exact aE
    refine⟨l[i],aL hl,?_⟩;rcases HK.o with h | ⟨g,off,h1,h2,h3,h4⟩
    ·rw[h] at hl;exact absurd hl (jU _)
    ·exact⟨g,off,h1,Vz h4 i _ (aL hl)⟩)
   obtain⟨q,bX,g,off,dE,aH⟩:=HQ.o;clear HQ;have bQ:=I (Zv8 l x i q bX);have he:=HE.o q (bU bX);have s0:=aH 0 _ rfl;have s1:=aH 1 _ rfl;rw[Nat.add_zero] at s0;have qX:=I dE;clear aH bX;subst dE;generalize (q.n==x)=rb at *;generalize aB q.n=z at *;generalize GZ:q.v=v at *;have Ca:=I GZ;clear GZ
   cases rb with
   | true =>
    have HX:Hid (V=(v,true)):=I (by rw[hv.o,bQ.o,if_pos rfl,<- Ca.o])
    go_wp2
    go_ret2
    exact⟨by rw[HX.o];rfl,rfl⟩
   | false =>
    have HX:Hid (V=match (l.drop (i+1)).find? (fun b=>b.n==x) with | some b=>(b.v,true) | none=>(0,xe)):=I (by rw[hv.o,bQ.o,if_neg (by simp)])
    go_wp2
    go_round
    case rel=>exact⟨i+1,by go_num,by omega,HX⟩
    case measure=>simp only[intOf];omega
  ·have ii:¬ ((i:Int)<m):=by omega
   have HX:Hid (V=(0,xe)):=I (by rw[hv.o,List.drop_eq_nil_of_le (by rw[<- HM.o];omega)];rfl)
   go_wp2
   go_ret2
   exact⟨by rw[HX.o];rfl,rfl⟩
def fR(l:List Bnd)(k:Ky):Bool:=decide ((rvP l k.l).1-(rvP l k.r).1<=k.c)
theorem VG{l:List Bnd}(h:vbP l=true)(x:List Nat):0<=(rvP l x).1/\(rvP l x).1<=65535:=by
 rw[ng l x h];exact DU (UX h) x
theorem Z37{l:List Bnd}(h:vbP l=true)(k:Ky):fR l k=fV (gY l) k:=by
 unfold fR fV gvD;rw[ng l k.l h,ng l k.r h]
theorem Zv9(l' r':List Nat)(c:Int)(x:Value)(sM:x.oneCell'=true)(w:World)(Pb:Nat->Prop)(l:List Bnd)(bo:Option Addr)(m bc:Nat)(hl:∀ y∈l',y<256)(hr:∀ y∈r',y<256)(hm:m=l.length)(bN:m<=1000000)(aJ:BndOk l)(hk:tJ w Pb l bo)(hv:vbP l=true) :
  Calls Tryz.prog 193 #[.agg #[.int .i64 0,.string (aB l'),.string (aB r'),.int .i64 c,x],.slice bo m bc] w fun e w'=>e = .returned (.bool (fR l ⟨l',r',c⟩))/\RowKit.Below w.heap.size w w':=by
 have bx:=(aG w.heap.size w).alloc (aO _) (.cells #[.int .i64 0,.string (aB l'),.string (aB r'),.int .i64 c,x] 54);have B1:=I bx;have X1:=hnw w 54 [.int .i64 0,.string (aB l'),.string (aB r'),.int .i64 c,x];have H1:=I (fun W (hW:RowKit.Below w.heap.size w W)=>DY l' W Pb l bo m bc hl hm bN aJ (hk.below hW));have H2:=I (fun W (hW:RowKit.Below w.heap.size w W)=>DY r' W Pb l bo m bc hr hm bN aJ (hk.below hW));have b1:=VG hv l';have b2:=VG hv r';have HV:Hid (fR l ⟨l',r',c⟩=decide ((rvP l l').1-(rvP l r').1<=c)):=I rfl;obtain⟨V,hV⟩:∃ V,fR l ⟨l',r',c⟩=V:=⟨_,rfl⟩;rw[hV] at HV ⊢;clear bx hl hr hm aJ hk hv hV;generalize (rvP l l').1=a at *;generalize (rvP l r').1=d at *;generalize (rvP l l').2=p1 at *;generalize (rvP l r').2=p2 at *;generalize aB l'=y at *;generalize aB r'=z at *;have ew:IntKind.i64.wrap (a-d)=a-d:=fU _ (by omega)
 go_enter Tryz.func193,Tryz.ntmps193
 go_upto_region 1 with(fail)
 generalize w.alloc (.cells #[.int .i64 0,.string y,.string z,.int .i64 c,x] 54)=w1 at *;obtain⟨x0,x1,x2,x3⟩:=X1.o.c4
 go_wp2_with fail
 refine(H1.o w1 B1.o).mono ?_;rintro e w2 ⟨rfl,rfl⟩
 go_wp2_with fail
 refine(H2.o w1 B1.o).mono ?_;rintro e w2 ⟨rfl,rfl⟩
 go_wp2
 go_ret;exact⟨aF HV.o.symm,B1.o⟩
theorem Zp9(w:World)(P:Nat->Prop)(l:List Bnd)(ao:Option Addr)(n cap:Nat)(hn:n=l.length)(bN:n<=1000000)(aJ:BndOk l)(hk:tJ w P l ao) :
  Calls Tryz.prog 125 #[.slice ao n cap] w fun e w'=>e = .returned (.bool (vbP l))/\RowKit.Below w.heap.size w w':=by
 have HK:=I (fun W (hW:RowKit.Below w.heap.size w W)=>hk.below hW);have HN:=I hn;have cV:=I aJ.nm;have B0:=I (aG w.heap.size w);obtain⟨V,hV⟩:=exq (vbP l);have HV:Hid (V=vbG ((l.take 0).map (·.n)) (l.drop 0)):=I (by rw[<- hV];rfl);rw[hV];clear hk hn aJ hV
 go_enter Tryz.func125,Tryz.ntmps125
 go_wp2_with fail
 go_loopw [3] (fun cc wr=>∃ (i:Nat),cc = .int .i64 i/\i<=n/\Hid (RowKit.Below w.heap.size w wr)/\Hid (V=vbG ((l.take i).map (·.n)) (l.drop i))) (fun c _=>(n-intOf c).toNat)
 case atStart=>exact⟨0,rfl,by omega,B0,HV⟩
 case round =>
  clear B0 HV;obtain⟨i,rfl,hi,hw,hv⟩:=hrel;have e2:=w1i i (by omega);by_cases aE:i<n
  ·have ii:(i:Int)<n:=by omega
   have Pr:Hid (∀ W,RowKit.Below w.heap.size w W->∃ g off,ao=some ⟨g,off,none⟩/\g<w.heap.size/\∀ j b,l[j]?=some b->dD W g (off+j*2) [.string (aB b.n),.int .i64 b.v]):=I (fun W hW=>by
    rcases HK.o W hW with h | ⟨g,off,h1,h2,h3,h4⟩
    ·rw[h] at HN;have:=HN.o;simp at this;omega
    ·rcases HK.o w (aG _ _) with h' | ⟨g',off',kM,Pn,Cb,j6⟩
     ·rw[h'] at HN;have:=HN.o;simp at this;omega
     ·have e:g'=g:=by rw[h1] at kM;injection kM with kM;injection kM with kM _;exact kM.symm
      exact⟨g,off,h1,by rw[<- e];exact Cb,fun j b hb=>Vz h4 j b hb⟩)
   obtain⟨g,off,bI,hg,-⟩:=Pr.o w (aG _ _)
   have mB:Hid (∀ W,RowKit.Below w.heap.size w W->∀ j b,l[j]?=some b->dD W g (off+j*2) [.string (aB b.n),.int .i64 b.v]):=I (fun W hW=>by
    obtain⟨g',off',h1,-,h3⟩:=Pr.o W hW;rw[bI] at h1;injection h1 with h1;injection h1 with e1 e2;subst e1 e2
    exact h3)
   have Gc:=I hg;have mT:=I bI;clear Pr hg;subst bI;have HQ:Hid (∃ q,l[i]?=some q):=I ⟨_,aL (by rw[<- HN.o];exact aE)⟩;obtain⟨q,bX⟩:=HQ.o;have gZ:=I bX;have bQ:=I (hv.o.trans (my l i q bX));have fW:=I (cV.o q (bU bX));have aH:=mB.o wr hw.o i q bX;have s0:=aH 0 _ rfl;have s1:=aH 1 _ rfl;rw[Nat.add_zero] at s0;have Gb:=I (fun W=>DX q.n W fW.o.2 fW.o.1);have sP:=I (fun(b:Bnd) (hb:b∈l)=>Nr b.n q.n (cV.o b hb).1 fW.o.1);have Xh:Hid (decide (q.n∈(l.take i).map (·.n))=decide (q.n∈(l.take i).map (·.n))):=I rfl;clear aH bX HQ hv;obtain⟨mt,uO⟩:=exq (decide (q.n∈(l.take i).map (·.n)));have uS:=I uO;rw[uO] at bQ;clear uO Xh;generalize cY:aB q.n=y at *;have rt:=I cY;clear cY;generalize q.v=v at *;generalize iG q.n=vn at *
   go_wp2_with fail
   refine(Gb.o wr).mono ?_;rintro e w2 ⟨rfl,b2⟩;have W2:=hw.tr b2;have Cc:=cell_later b2 s0;have rx:=cell_later b2 s1;clear b2 hw s0 s1
   cases vn with
   | false =>
    have HF:Hid (V=false):=I (by rw[bQ.o,dS,Bool.and_false])
    go_wp2
    go_ret;exact⟨aF HF.o.symm,W2.o⟩
   | true =>
    by_cases v0:v<0
    ·have HF:Hid (V=false):=I (by rw[bQ.o,decide_eq_false (show ¬ 0<=v by omega),dS,Bool.and_false,Bool.and_false])
     go_wp2
     go_ret;exact⟨aF HF.o.symm,W2.o⟩
    ·by_cases v1:65535<v
     ·have HF:Hid (V=false):=I (by rw[bQ.o,decide_eq_false (show ¬ v<=65535 by omega),dS,Bool.and_false,Bool.and_false,Bool.and_false])
      go_wp2
      go_ret;exact⟨aF HF.o.symm,W2.o⟩
     ·have HF:Hid (V=(!mt&&vbG ((l.take (i+1)).map (·.n)) (l.drop (i+1)))):=I (by rw[bQ.o,decide_eq_true (show 0<=v by omega),decide_eq_true (show v<=65535 by omega),cH,cH,cH])
      clear bQ
      go_wp2_with fail
      clear Cc rx;have Z2:=I (aG w2.heap.size w2);have N0:Hid (q.n ∉ (l.take 0).map (·.n)):=I (by simp)
      go_loopw [4] (fun cc wr=>∃ (k:Nat),cc = .int .i64 k/\k<=i/\Hid (RowKit.Below w2.heap.size w2 wr)/\Hid (q.n ∉ (l.take k).map (·.n))) (fun c _=>(i-intOf c).toNat)
      case atStart=>exact⟨0,rfl,by omega,Z2,N0⟩
      case round =>
       clear Z2 N0;obtain⟨k,rfl,hk,hq,Xi⟩:=hrel;have e3:=w1i k (by omega);have W3:=W2.tr hq.o;by_cases iQ:k<i
       ·have kk:(k:Int)<i:=by omega
        have kn:(k:Int)<n:=by omega
        have HQ:Hid (∃ b,l[k]?=some b):=I ⟨_,aL (by rw[<- HN.o];omega)⟩;obtain⟨b,mC⟩:=HQ.o;have t0:wr.cell? ⟨g,off+k*2,none⟩=some (.string (aB b.n)):=mB.o wr W3.o k b mC 0 _ rfl
        have s0:wr.cell? ⟨g,off+i*2,none⟩=some (.string y):=by rw[<- rt.o];exact mB.o wr W3.o i q gZ.o 0 _ rfl
        have he:=sP.o b (bU mC);have dM:Hid ((l.take (k+1)).map (·.n)=(l.take k).map (·.n)++[b.n]):=I (by rw[lN,mC,List.map_append];rfl)
        have ry:Hid ((b.n==q.n)=true->q.n∈(l.take i).map (·.n)):=I (fun h=>by
         have fH:b∈l.take i:=bU (i:=k) (by rw[List.getElem?_take,if_pos iQ];exact mC)
         exact List.mem_map.2 ⟨b,fH,by simpa using h⟩)
        have gg:Hid ((b.n==q.n)=false->q.n≠b.n):=I (fun h e=>by rw[e] at h;simp at h);clear mC HQ;generalize (b.n==q.n)=rb at *;generalize aB b.n=z at *
        go_upto_region 9 with(fail)
        go_quiet (fail)
        have Q2:=I (below_drewN hq.o nq);have W4:=I (below_drewN W3.o nq);clear hq s0 t0 W3;generalize wr.drewN nq=wd at *
        cases rb with
        | true =>
         have HX:Hid (V=false):=I (by rw[HF.o,<- uS.o,decide_eq_true (ry.o rfl)];rfl)
         go_wp2
         go_ret;exact⟨aF HX.o.symm,W4.o⟩
        | false =>
         have Lx:Hid (q.n ∉ (l.take (k+1)).map (·.n)):=I (by
          rw[dM.o,kI];rintro (h | h)
          ·exact Xi.o h
          ·exact gg.o rfl (by simpa using h))
         go_wp2
         go_roundw
         case rel=>exact⟨k+1,by go_num,by omega,Q2,Lx⟩
         case measure=>simp only[intOf];omega
       ·have kk:¬ ((k:Int)<i):=by omega
        obtain rfl:k=i:=by omega
        have HX:Hid (V=vbG ((l.take (k+1)).map (·.n)) (l.drop (k+1))):=I (by rw[HF.o,<- uS.o,decide_eq_false Xi.o];rfl)
        go_wp2
        go_roundw
        case rel=>exact⟨k+1,by go_num,by omega,W3,HX⟩
        case measure=>simp only[intOf];omega
  ·have ii:¬ ((i:Int)<n):=by omega
   have HX:Hid (V=true):=I (by rw[hv.o,List.drop_eq_nil_of_le (by rw[<- HN.o];omega),vbG])
   go_wp2
   go_ret;exact⟨aF HX.o.symm,hw.o⟩
end
end Go.Proofs.YtbcgocpihobjnaaGreatDoor
