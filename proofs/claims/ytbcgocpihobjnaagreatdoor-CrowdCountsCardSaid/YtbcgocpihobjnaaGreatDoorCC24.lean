import Derived.WalkSmall
import Derived.Maps.StringElems
import Derived.Defers
import Derived.Test.YtbcgocpihobjnaaGreatDoorCC23
import Derived.Test.YtbcgocpihobjnaaGreatDoorCC2
import Derived.Test.YtbcgocpihobjnaaGreatDoorShelf
import Derived.Test.YtbcgocpihobjnaaGreatDoorCC16
set_option linter.all false
set_option maxHeartbeats 8000000
set_option maxRecDepth 100000
namespace Go.Proofs.YtbcgocpihobjnaaGreatDoor
section
open Go.RowKit Go.Sort
theorem Zly(s:List Nat):(Zad s).data.toList=s.map UInt8.ofNat:=by simp[Zad]
end
section
open Go.RowKit Go.Sort
def Zvx(w:World)(P:Nat->Prop)(ks:List Prd)(ao:Option Addr):Prop:=ks=[]\/∃ g off,ao=some ⟨g,off,none⟩/\P g/\g<w.heap.size/\Zbe w P ks g off
theorem Zvx.below{w w':World}{P:Nat->Prop}{ks:List Prd}{ao:Option Addr}(h:Zvx w P ks ao)(hb:Below w.heap.size w w'):Zvx w' P ks ao:=by
 rcases h with h | ⟨g,off,h1,h2,h3,h4⟩
 ·exact .inl h
 ·exact .inr ⟨g,off,h1,h2,đm h3 hb.size,Zbe.keep (fun x _ hx=>hb.block x hx) hb.size (fun _ h _=>h) ks g off h2 h3 h4⟩
theorem Zvx.any{w w':World}{P:Nat->Prop}{ks:List Prd}{ao:Option Addr}(h:Zvx w P ks ao)(hb:Below w.heap.size w w'):Zvx w' (fun g=>g<w'.heap.size) ks ao:=by
 rcases h with h | ⟨g,off,h1,h2,h3,h4⟩
 ·exact .inl h
 ·exact .inr ⟨g,off,h1,đm h3 hb.size,đm h3 hb.size,Zbe.keep (fun x _ hx=>hb.block x hx) hb.size (fun x _ hx=>đm hx hb.size) ks g off h2 h3 h4⟩
end
section
open Go.RowKit Go.Sort
mutual
def Zgg(M:Nat):Nat->Prd->Nat
 | 0,_=>M+1
 | L+1,.mk _ _ _ _ ks=>Zia M L 1 ks
def Zia(M:Nat):Nat->Nat->List Prd->Nat
 | _,n,[]=>n
 | L,n,q::qs=>if n<=M then Zia M L (n+Zgg M L q) qs else n
end
theorem Zvy(M L:Nat)(h:∀ q,Zgg M L q<=(L+1)*(M+1)):∀ (ks:List Prd) (n:Nat),n<=(L+2)*(M+1)->Zia M L n ks<=(L+2)*(M+1)
 | [],n,hn=>by rw[Zia];exact hn
 | q::qs,n,hn=>by
  rw[Zia]
  have e:(L+2)*(M+1)=(L+1)*(M+1)+(M+1):=by rw[show L+2=(L+1)+1 from rfl,Nat.add_mul (L+1) 1,Nat.one_mul]
  split
  ·exact Zvy M L h qs _ (by have:=h q;omega)
  ·exact hn
theorem Zvz(M:Nat):∀ (L:Nat) (p:Prd),Zgg M L p<=(L+1)*(M+1)
 | 0,p=>by rw[Zgg];omega
 | L+1,.mk k l r c ks=>by
  rw[Zgg];exact Zvy M L (Zvz M L) ks 1 (đo (Nat.le_add_left 1 M) (Nat.le_mul_of_pos_left _ (by omega)))
theorem Zz0(w:World)(κ:Int)(l r:ByteArray)(c:Int)(ao:Option Addr)(n cap M:Nat)(hM:M<=1000) :
  Calls Tryz.prog 134 #[.agg #[.int .i64 κ,.string l,.string r,.int .i64 c,.slice ao n cap],.int .i64 (M:Int),.int .i64 0] w fun e w'=>e = .returned (.int .i64 ((M+1:Nat):Int))/\Below w.heap.size w w':=by
 have B1:=ħ ((đc w.heap.size w).alloc (đd _) (.cells #[.int .i64 κ,.string l,.string r,.int .i64 c,.slice ao n cap] 54));have ew:IntKind.i64.wrap ((M:Int)+1)=((M+1:Nat):Int):=đh _ (by omega)
 go_enter Tryz.func134,Tryz.ntmps134
 go_wp2
 go_ret;exact⟨Zbb (by omega),B1.o⟩
theorem Zv0(M L n:Nat)(ks:List Prd)(i:Nat)(q:Prd)(h:ks[i]?=some q):Zia M L n (ks.drop i)=if n<=M then Zia M L (n+Zgg M L q) (ks.drop (i+1)) else n:=by
 have h1:ks.drop i=q::ks.drop (i+1):=List.drop_eq_getElem?_toList_append .. |>.trans (by rw[h];rfl);rw[h1,Zia]
theorem Zz1 (w:World) (P:Nat->Prop) (κ:Int) (l r:List Nat) (c:Int) (ks:List Prd) (ao:Option Addr) (n cap M L:Nat) (hM:M<=1000) (hL:L<=1000) (hn:n=ks.length) (hbig:n<=9223372036854775807)
  (hk:ks=[]\/∃ g off,ao=some ⟨g,off,none⟩/\P g/\g<w.heap.size/\Zbe w P ks g off)
  (ih:∀ (q:Prd) (W:World) (vs:List Value),q∈ks->Zao W P q vs->Calls Tryz.prog 134 #[.agg vs.toArray,.int .i64 (M:Int),.int .i64 (L:Int)] W fun e w'=>e = .returned (.int .i64 (Zgg M L q:Nat))/\Below W.heap.size W w') :
  Calls Tryz.prog 134 #[.agg #[.int .i64 κ,.string (Zad l),.string (Zad r),.int .i64 c,.slice ao n cap],.int .i64 (M:Int),.int .i64 ((L+1:Nat):Int)] w fun e w'=>e = .returned (.int .i64 (Zia M L 1 ks:Nat))/\Below w.heap.size w w':=by
 have bx:=(đc w.heap.size w).alloc (đd _) (.cells #[.int .i64 κ,.string (Zad l),.string (Zad r),.int .i64 c,.slice ao n cap] 54);have B1:=ħ bx;have X1:Hid (Zae (w.alloc (.cells #[.int .i64 κ,.string (Zad l),.string (Zad r),.int .i64 c,.slice ao n cap] 54)) w.heap.size 54 [.int .i64 κ,.string (Zad l),.string (Zad r),.int .i64 c,.slice ao n cap]):=ħ (heap_alloc_new w _);have HK:=ħ hk;have HN:=ħ hn;have IH:=ħ ih;have HB:Hid (∀ q,Zgg M L q<=(L+1)*(M+1)):=ħ (Zvz M L);have HB2:(L+1)*(M+1)<=1002001:=Nat.mul_le_mul (show L+1<=1001 by omega) (show M+1<=1001 by omega);obtain⟨V,hV⟩:∃ V,Zia M L 1 ks=V:=⟨_,rfl⟩;have S0:Hid (V=Zia M L 1 (ks.drop 0)):=ħ (by rw[List.drop_zero];exact hV.symm);rw[hV]
 have hl0:¬ ((L+1:Nat):Int)<1:=by omega
 have es:IntKind.i64.wrap (((L+1:Nat):Int)-1)=(L:Int):=by rw[đh _ (by omega)];omega
 clear bx hk ih hn hV;generalize hΛ:((L+1:Nat):Int)=Λ at *;clear hΛ;generalize Zad l=y at *;generalize Zad r=z at *
 go_enter Tryz.func134,Tryz.ntmps134
 go_upto_region 1 with(fail)
 generalize w.alloc (.cells #[.int .i64 κ,.string y,.string z,.int .i64 c,.slice ao n cap] 54)=w1 at *
 go_wp2_with fail
 go_loopw [7,8] (fun c1 c2 wr=>∃ (m i:Nat),c1 = .int .i64 m/\c2 = .int .i64 i/\i<=n/\m<=2004003/\Hid (V=Zia M L m (ks.drop i))/\Hid (Below w.heap.size w wr)/\Hid (Zae wr w.heap.size 54 [.int .i64 κ,.string y,.string z,.int .i64 c,.slice ao n cap])) (fun _ c2 _=>(n-intOf c2).toNat)
 case atStart=>exact⟨1,0,rfl,rfl,by omega,by omega,S0,B1,X1⟩
 case round =>
  clear S0 B1 X1;obtain⟨m,i,rfl,rfl,hi,hm,hs,hw,hx⟩:=hrel;have x4:=hx.o.cell 4 _ rfl;by_cases hlt:i<n
  ·have ii:(i:Int)<n:=by omega
   have e2:IntKind.i64.wrap ((i:Int)+1)=((i+1:Nat):Int):=đh _ (by omega)
   have HQ:Hid (∃ q,ks[i]?=some q/\∃ g off,ao=some ⟨g,off,none⟩/\∃ vs,Zao wr P q vs/\Zav wr g (off+i*5) vs):=ħ (by
    have hl:i<ks.length:=by rw[<- HN.o];exact hlt
    refine⟨ks[i],đb hl,?_⟩;rcases HK.o with h | ⟨g,off,h1,h2,h3,h4⟩
    ·rw[h] at hl;exact absurd hl (đu _)
    ·obtain⟨vs,hv1,hv2⟩:=Zbe.at ks g off i _ (đb hl) h4
     exact⟨g,off,h1,vs,hv1.below hw.o,hv2.of_block (hw.o.block g h3)⟩)
   obtain⟨q,hqi,gk,off,hao,vs,hpc,hrd⟩:=HQ.o;clear HQ;have HST:=ħ (hs.o.trans (Zv0 M L m ks i q hqi));by_cases hmM:m<=M
   ·have hmM':(m:Int)<=(M:Int):=by omega
    obtain⟨xa,xn,xc,hvf,-⟩:=hpc.form;rw[hvf] at hrd hpc;have HCL:=ħ (IH.o q wr _ (đe hqi) hpc);have HS2:Hid (V=Zia M L (m+Zgg M L q) (ks.drop (i+1))):=ħ (by rw[HST.o,if_pos hmM]);have hcq:=HB.o q;have s0:=hrd 0 _ rfl;have s1:=hrd 1 _ rfl;have s2:=hrd 2 _ rfl;have s3:=hrd 3 _ rfl;have s4:=hrd 4 _ rfl;rw[Nat.add_zero] at s0;have HAO:=ħ hao;clear hrd hpc hvf vs hqi hs HST;subst hao;generalize q.k=q0 at *;generalize Zad q.l=q1 at *;generalize Zad q.r=q2 at *;generalize q.c=q3 at *;generalize Zgg M L q=cq at *;have e3:IntKind.i64.wrap ((m:Int)+(cq:Int))=((m+cq:Nat):Int):=đh _ (by omega)
    go_wp2_with fail
    refine HCL.o.mono ?_;rintro e w3 ⟨rfl,b3⟩;have W3:=ħ (hw.o.trans (b3.mono hw.o.size));have X3:=ħ (hx.o.step b3);clear b3 s0 s1 s2 s3 s4 x4 hw hx HCL
    go_wp2
    go_roundw
    case rel=>exact⟨m+cq,i+1,by go_num,by go_num,by omega,by omega,HS2,W3,X3⟩
    case measure=>simp only[intOf];omega
   ·have hmM':¬ (m:Int)<=(M:Int):=by omega
    have HF:Hid (V=m):=ħ (by rw[HST.o,if_neg hmM])
    go_wp2
    go_ret;exact⟨Zbb (by rw[HF.o]),hw.o⟩
  ·have ii:¬ ((i:Int)<n):=by omega
   have HF:Hid (V=m):=ħ (by rw[hs.o,List.drop_eq_nil_of_le (by rw[<- HN.o];omega),Zia])
   go_wp2
   go_ret;exact⟨Zbb (by rw[HF.o]),hw.o⟩
mutual
def Zp0:Prd->Prop
 | .mk _ _ _ _ ks=>ks.length<=9223372036854775807/\Z19 ks
def Z19:List Prd->Prop
 | []=>True
 | p::ps=>Zp0 p/\Z19 ps
end
theorem Zm0:∀ ks:List Prd,Z19 ks↔∀ q∈ks,Zp0 q
 | []=>by simp[Z19]
 | p::ps=>by simp[Z19,Zm0 ps]
theorem Zv1(M:Nat)(hM:M<=1000):∀ (L:Nat) (p:Prd) (w:World) (P:Nat->Prop) (vs:List Value),L<=1000->Zp0 p->Zao w P p vs ->
  Calls Tryz.prog 134 #[.agg vs.toArray,.int .i64 (M:Int),.int .i64 (L:Int)] w fun e w'=>e = .returned (.int .i64 (Zgg M L p:Nat))/\Below w.heap.size w w'
 | 0,.mk κ l r c ks,w,P,vs,_,_,h=>by
  unfold Zao at h;obtain⟨ao,cap,rfl,-⟩:=h;have:=Zz0 w κ (Zad l) (Zad r) c ao ks.length cap M hM;rw[Zgg];exact this
 | L+1,.mk κ l r c ks,w,P,vs,hL,hlen,h=>by
  unfold Zao at h;unfold Zp0 at hlen;obtain⟨ao,cap,rfl,hk⟩:=h;rw[Zgg];exact Zz1 w P κ l r c ks ao ks.length cap M L hM (by omega) rfl hlen.1 hk (fun q W us hq hpc=>Zv1 M hM L q W P us (by omega) ((Zm0 ks).1 hlen.2 q hq) hpc)
def Zp1(p:Prd)(M L:Nat):Bool:=decide (Zgg M L p<=M)
theorem Zp2(p:Prd)(M L:Nat)(hM:M<=1000)(hL:L<=1000)(w:World)(P:Nat->Prop)(vs:List Value)(hlen:Zp0 p)(h:Zao w P p vs) :
  Calls Tryz.prog 71 #[.agg vs.toArray,.int .i64 (M:Int),.int .i64 (L:Int)] w fun e w'=>e = .returned (.bool (Zp1 p M L))/\Below w.heap.size w w':=by
 obtain⟨xa,xn,xc,rfl,-⟩:=h.form;have bx:=(đc w.heap.size w).alloc (đd _) (.cells #[.int .i64 p.k,.string (Zad p.l),.string (Zad p.r),.int .i64 p.c,.slice xa xn xc] 54);have B1:=ħ bx;have X1:Hid (Zae (w.alloc (.cells #[.int .i64 p.k,.string (Zad p.l),.string (Zad p.r),.int .i64 p.c,.slice xa xn xc] 54)) w.heap.size 54 [.int .i64 p.k,.string (Zad p.l),.string (Zad p.r),.int .i64 p.c,.slice xa xn xc]):=ħ (heap_alloc_new w _);have HC:=ħ (fun W (hW:Below w.heap.size w W)=>Zv1 M hM L p W P _ hL hlen (h.below hW));have HV:Hid (Zp1 p M L=decide (Zgg M L p<=M)):=ħ rfl;obtain⟨V,hV⟩:∃ V,Zp1 p M L=V:=⟨_,rfl⟩;rw[hV] at HV ⊢;clear bx h hlen hV;generalize Zgg M L p=cp at *;generalize p.k=q0 at *;generalize Zad p.l=q1 at *;generalize Zad p.r=q2 at *;generalize p.c=q3 at *
 go_enter Tryz.func71,Tryz.ntmps71
 go_upto_region 1 with(fail)
 generalize w.alloc (.cells #[.int .i64 q0,.string q1,.string q2,.int .i64 q3,.slice xa xn xc] 54)=w1 at *
 go_wp2_with (refine Zbp (by rfl) 54 (.tmp 3) rfl w.heap.size (by rfl) 54 #[.int .i64 q0,.string q1,.string q2,.int .i64 q3,.slice xa xn xc] (0,0) _ X1.o Tryz.underlying54 rfl (Za4 _ rfl) ?_)
 refine(HC.o w1 B1.o).mono ?_;rintro e w2 ⟨rfl,b2⟩;have B2:=ħ (B1.o.trans (b2.mono B1.o.size));clear b2 HC;by_cases hle:cp<=M
 ·have h1:(cp:Int)<=(M:Int):=by omega
  have HX:Hid (V=true):=ħ (by rw[HV.o];exact decide_eq_true hle);clear hle
  go_wp2
  go_ret;exact⟨Zac HX.o.symm,B2.o⟩
 ·have h1:¬ (cp:Int)<=(M:Int):=by omega
  have HX:Hid (V=false):=ħ (by rw[HV.o];exact decide_eq_false hle)
  go_wp2
  go_ret;exact⟨Zac HX.o.symm,B2.o⟩
end
section
open Go.RowKit Go.Sort Go.Maps
structure Bnd where
 n:List Nat
 v:Int
def Z1h(b:Bnd):List Value:=[.string (Zad b.n),.int .i64 b.v]
def vbG(S:List (List Nat)):List Bnd->Bool
 | []=>true
 | b::bs=>!decide (b.n∈S)&&(Za5 b.n&&(decide (0<=b.v)&&(decide (b.v<=65535)&&vbG (S++[b.n]) bs)))
def vbP(l:List Bnd):Bool:=vbG [] l
theorem Ziw(l:List Bnd)(i:Nat)(b:Bnd)(h:l[i]?=some b):vbG ((l.take i).map (·.n)) (l.drop i)=(!decide (b.n∈(l.take i).map (·.n))&&(Za5 b.n&&(decide (0<=b.v)&&(decide (b.v<=65535)&&vbG ((l.take (i+1)).map (·.n)) (l.drop (i+1)))))):=by
 have h1:l.drop i=b::l.drop (i+1):=List.drop_eq_getElem?_toList_append .. |>.trans (by rw[h];rfl)
 have h2:l.take (i+1)=l.take i++[b]:=by rw[đv,h];rfl
 rw[h1,h2,List.map_append];rfl
def Zib(s:List Nat):Lit:=.string (Zad s).data.toList
structure NmOk (s:List Nat):Prop where
 b:∀ y∈s,y<256
 l:s.length<=maxLen
theorem Zm1(s t:List Nat)(hs:NmOk s)(ht:NmOk t)(e:Zib s=Zib t):s=t:=by
 unfold Zib at e;injection e with e;rw[Zly,Zly] at e;exact Ze2 s t hs.b ht.b e
theorem Zm2:Keyed Tryz.prog 9:=string_keyed Tryz.underlying9
theorem Zdu(s:List Nat)(h:NmOk s):keyOf Tryz.prog 9 (.string (Zad s))=some (Zib s):=WideMaps.keyOf_string_mk Tryz.underlying9 (by rw[Zbc];exact h.l)
def Zin(w:World)(b:Nat)(S:List (List Nat)):Prop :=
 ∃ D:DataW Unit,w.ownsMap Tryz.prog 9 (plainElem Tryz.prog 4) b S.length D/\(∀ l,has D l=true↔∃ k∈S,Zib k=l)/\∀ k∈S,∀ zd,D.atKey (Zib k) zd = .lit (.bool true)
theorem Zin.lt{w:World}{b:Nat}{S:List (List Nat)}(h:Zin w b S):b<w.heap.size:=by
 obtain⟨D,h1,_⟩:=h;exact h1.lt
theorem Zin.step{w w':World}{b:Nat}{S:List (List Nat)}(h:Zin w b S)(hb:RowKit.Below w.heap.size w w'):Zin w' b S:=by
 obtain⟨D,h1,h2⟩:=h;exact⟨D,h1.kept (Zde hb none) (by simp),h2⟩
theorem Zin.nil(w:World):Zin (w.alloc (.map #[] 0)) w.heap.size []:=by
 refine⟨_,World.ownsMap_made w _ _ _,fun l=>?_,fun k hk=>absurd hk List.not_mem_nil⟩;constructor
 ·intro h;cases h
 ·rintro⟨k,hk,_⟩;exact absurd hk List.not_mem_nil
theorem Zin.put {w w':World} {b:Nat} {S:List (List Nat)} {D:DataW Unit} (k:List Nat) (hk:NmOk k) (h:w.ownsMap Tryz.prog 9 (plainElem Tryz.prog 4) b S.length D) (h1:∀ l,has D l=true↔∃ k∈S,Zib k=l) (h2:∀ k∈S,∀ zd,D.atKey (Zib k) zd = .lit (.bool true))
  (h':w'.ownsMap Tryz.prog 9 (plainElem Tryz.prog 4) b (S.length+1) (D.put (Zib k) (.lit (.bool true)))):Zin w' b (S++[k]):=by
 have hkl:=Zm2.key (Zdu k hk);refine⟨_,by rw[đn];exact h',fun l=>?_,fun x hx zd=>?_⟩
 ·by_cases he:l=Zib k
  ·subst he
   rw[has_put_same h.isMap hkl];exact⟨fun _=>⟨k,by simp,rfl⟩,fun _=>rfl⟩
  ·rw[has_put_other he,h1]
   constructor
   ·rintro⟨x,hx,hl⟩;exact⟨x,by simp[hx],hl⟩
   ·rintro⟨x,hx,hl⟩
    rcases đt.1 hx with hx | hx
    ·exact⟨x,hx,hl⟩
    ·rw[List.mem_singleton] at hx
     subst hx;exact absurd hl.symm he
 ·by_cases he:Zib x=Zib k
  ·rw[he,atKey_put_same h.isMap hkl]
  ·rw[atKey_put_other he]
   rcases đt.1 hx with hx | hx
   ·exact h2 x hx zd
   ·rw[List.mem_singleton] at hx
    subst hx;exact absurd rfl he
theorem Zin.look{w:World}{b:Nat}{S:List (List Nat)}(hS:∀ k∈S,NmOk k)(k:List Nat)(hk:NmOk k)(h:Zin w b S) :
  (Instr.lookup 162 (.map (some b)) (.string (Zad k)) false).run Tryz.prog w = .ok (.bool (decide (k∈S))) w:=by
 obtain⟨D,h1,h2,h3⟩:=h;obtain⟨v,ps,hrun,hv⟩:=h1.lookup Zm2 Tryz.underlying162 (z:=.bool false) (Zvv w) (zd:=.lit (.bool false)) (zp:=[]) (plainElem_bool Tryz.underlying4 false) (Zdu k hk);by_cases hm:k∈S
 ·rw[h3 k hm] at hv
  rw[decide_eq_true hm];rw[hrun,Zec Tryz.underlying4 hv]
 ·have hf:has D (Zib k)=false:=by
   cases hh:has D (Zib k) with
   | false=>rfl
   | true =>
    obtain⟨x,hx,he⟩:=(h2 _).1 hh;exact absurd (Zm1 x k (hS x hx) hk he ▸ hx) hm
  rw[atKey_of_not_has hf] at hv;rw[decide_eq_false hm];rw[hrun,Zec Tryz.underlying4 hv]
end
section
open Go.RowKit Go.Sort Go.Maps
def Zoq(w:World)(P:Nat->Prop)(l:List Bnd)(ao:Option Addr):Prop:=l=[]\/∃ g off,ao=some ⟨g,off,none⟩/\P g/\g<w.heap.size/\Zav w g off (l.flatMap Z1h)
structure BndOk (l:List Bnd):Prop where
 nm:∀ b∈l,NmB b.n
theorem Zm3(b:Bnd):(Z1h b).length=2:=rfl
theorem Zex{w:World}{g off:Nat}{l:List Bnd}(h:Zav w g off (l.flatMap Z1h))(i:Nat)(b:Bnd)(hb:l[i]?=some b):Zav w g (off+i*2) [.string (Zad b.n),.int .i64 b.v]:=fun j u hj=>by
 have hj2:j<2:=(đg.1 hj).1;have:=h (i*2+j) u (by rw[Zdg Z1h 2 Zm3 l i j b hb hj2];exact hj)
 rwa [<- Nat.add_assoc] at this
theorem Zhp{s:List Nat}(h:NmB s):NmOk s:=⟨h.1,đo h.2 (by decide)⟩
theorem Zs1(w:World)(P:Nat->Prop)(l:List Bnd)(ao:Option Addr)(n cap B:Nat)(hT:Tab w B)(hn:n=l.length)(hbig:n<=10000000000000)(hok:BndOk l)(hk:Zoq w P l ao) :
  Calls Tryz.prog 91 #[.slice ao n cap] w fun e w'=>e = .returned (.bool (vbP l))/\RowKit.Below w.heap.size w w':=by
 have HK:=ħ hk;have HN:=ħ hn;have HOK:=ħ hok.nm;have HT:=ħ hT;have bx:=(đc w.heap.size w).alloc (đd _) (.map #[] 0);have BX:=ħ bx;have QX:Hid (Zin (w.alloc (.map #[] 0)) w.heap.size []):=ħ (Zin.nil w);obtain⟨V,hV⟩:∃ V,vbP l=V:=⟨_,rfl⟩;have HV:Hid (V=vbG ((l.take 0).map (·.n)) (l.drop 0)):=ħ (by rw[<- hV];rfl);rw[hV];clear hk hn hok hT bx hV;have hmm:=@run_makeMap Tryz.prog
 go_enter Tryz.func91,Tryz.ntmps91
 go_upto_region 2 with(fail)
 generalize hwx:w.alloc (.map #[] 0)=wx at *
 go_wp2_with fail
 have S0:Hid (Zin wx w.heap.size ((l.take 0).map (·.n))):=ħ (by simpa using QX.o);have O0:Hid (Only wx wx (· = w.heap.size)):=ħ (Only.refl _ _);clear QX;have HTS:=ħ (fun W (hW:RowKit.Below w.heap.size w W)=>Zbw.step (w:=w) HT.o hW);have HXX:=ħ (fun(W:World) (hW:Only wx W (· = w.heap.size))=>Only.later (đc w.heap.size w) (Only.trans (Only.of_below (p:=fun g=>w.heap.size<=g) BX.o) (hW.mono (fun g _ hg=>by rw[hg];exact đd _))) (fun g hg=>hg));generalize hb:w.heap.size=b at *
 go_loopw [9] (fun cc wr=>∃ (i:Nat),cc = .int .i64 i/\i<=n/\Hid (Zin wr b ((l.take i).map (·.n)))/\Hid (Only wx wr (· = b))/\Hid (V=vbG ((l.take i).map (·.n)) (l.drop i))) (fun c _=>(n-intOf c).toNat)
 case atStart=>exact⟨0,rfl,by omega,S0,O0,HV⟩
 case round =>
  clear S0 O0 HV;obtain⟨i,rfl,hi,hq,ho,hv⟩:=hrel;have e2:IntKind.i64.wrap ((i:Int)+1)=((i+1:Nat):Int):=đh _ (by omega);by_cases hlt:i<n
  ·have ii:(i:Int)<n:=by omega
   have HQ:Hid (∃ q,l[i]?=some q/\∃ g off,ao=some ⟨g,off,none⟩/\g<b/\Zav wr g (off+i*2) [.string (Zad q.n),.int .i64 q.v]):=ħ (by
    have hl:i<l.length:=by rw[<- HN.o];exact hlt
    refine⟨l[i],đb hl,?_⟩;rcases HK.o with h | ⟨g,off,h1,h2,h3,h4⟩
    ·rw[h] at hl;exact absurd hl (đu _)
    ·have hgb:g<b:=by rw[<- hb];exact h3
     have h5:=Zex h4 i _ (đb hl);have hbx:=BX.o
     exact⟨g,off,h1,hgb,(h5.of_block (hbx.block g hgb)).of_block (ho.o.block g (by have:=hbx.size;omega) (by omega))⟩)
   obtain⟨q,hqi,gk,off,hao,hgl,hrd⟩:=HQ.o;clear HQ;have HST:=ħ (hv.o.trans (Ziw l i q hqi));have HNM:=ħ (HOK.o q (đe hqi));have HTK:Hid ((l.take i).map (·.n)++[q.n]=(l.take (i+1)).map (·.n)):=ħ (by rw[đv,hqi,List.map_append];rfl)
   have HSO:Hid (∀ k∈(l.take i).map (·.n),NmOk k):=ħ (fun k hk=>by
    obtain⟨x,hx,rfl⟩:=List.mem_map.1 hk
    exact Zhp (HOK.o x (List.mem_of_mem_take hx)))
   have s0:=hrd 0 _ rfl;have s1:=hrd 1 _ rfl;rw[Nat.add_zero] at s0;have HAO:=ħ hao;clear hrd hqi;subst hao;have HLK:=ħ (fun W (hW:Zin W b ((l.take i).map (·.n)))=>Zin.look HSO.o q.n (Zhp HNM.o) hW);have HVN:=ħ (fun W (hW:Only wx W (· = b))=>Zom q.n W B (show Tab W B from HTS.o W (HXX.o W hW)) HNM.o.2 HNM.o.1);have bx:=(đc wr.heap.size wr).alloc (đd _) (.cells #[.string (Zad q.n),.int .i64 q.v] 164);have Y1:Hid (Zae (wr.alloc (.cells #[.string (Zad q.n),.int .i64 q.v] 164)) wr.heap.size 164 [.string (Zad q.n),.int .i64 q.v]):=ħ (heap_alloc_new wr _);have hq1:=ħ (hq.o.step bx);have ho1:=ħ (ho.o.step bx);clear bx hq ho hv
   go_upto_region 5 with(fail)
   have HKY:=ħ (Zdu q.n (Zhp HNM.o));have HNK:=ħ (Zhp HNM.o);clear HNM s0 s1;generalize wr.heap.size=A at *;generalize hnm:Zad q.n=y at *;clear hnm;generalize q.v=v at *;generalize wr.alloc (.cells #[.string y,.int .i64 v] 164)=wy at *;have y0:=Y1.o.cell 0 _ rfl;have y1:=Y1.o.cell 1 _ rfl;have hlk:=HLK.o wy hq1.o;generalize hmt:decide (q.n∈(l.take i).map (·.n))=mt at *;clear hmt;generalize Za5 q.n=vn at *
   cases mt with
   | true =>
    have HF:Hid (V=false):=ħ HST.o
    go_wp2
    go_ret;exact⟨Zac HF.o.symm,HXX.o _ ho1.o⟩
   | false =>
    have HST2:Hid (V=(vn&&(decide (0<=v)&&(decide (v<=65535)&&vbG ((l.take (i+1)).map (·.n)) (l.drop (i+1)))))):=ħ HST.o;clear HST
    go_wp2_with fail
    refine(HVN.o wy ho1.o).mono ?_;rintro e w2 ⟨rfl,d2⟩;have hq2:=ħ (hq1.o.step (Zbv d2));have ho2:=ħ (ho1.o.step (Zbv d2));have Y2:=ħ (Y1.o.step (Zbv d2));clear d2 y0 y1 hlk hq1 ho1 Y1;have y0:=Y2.o.cell 0 _ rfl;have y1:=Y2.o.cell 1 _ rfl
    cases vn with
    | false =>
     have HF:Hid (V=false):=ħ HST2.o
     go_wp2
     go_ret;exact⟨Zac HF.o.symm,hb ▸ HXX.o _ ho2.o⟩
    | true =>
     have HST3:Hid (V=(decide (0<=v)&&(decide (v<=65535)&&vbG ((l.take (i+1)).map (·.n)) (l.drop (i+1))))):=ħ HST2.o;clear HST2;by_cases v0:v<0
     ·have HF:Hid (V=false):=ħ (by rw[HST3.o,decide_eq_false (show ¬ 0<=v by omega),đq])
      go_wp2
      go_ret;exact⟨Zac HF.o.symm,hb ▸ HXX.o _ ho2.o⟩
     ·by_cases v1:65535<v
      ·have HF:Hid (V=false):=ħ (by rw[HST3.o,decide_eq_false (show ¬ v<=65535 by omega),đq,Bool.and_false])
       go_wp2
       go_ret;exact⟨Zac HF.o.symm,hb ▸ HXX.o _ ho2.o⟩
      ·have HF:Hid (V=vbG ((l.take (i+1)).map (·.n)) (l.drop (i+1))):=ħ (by rw[HST3.o,decide_eq_true (show 0<=v by omega),decide_eq_true (show v<=65535 by omega),đk,đk])
       have HLEN:Hid (((l.take i).map (·.n)).length<maxLen):=ħ (by rw[đr,List.length_take];exact Nat.lt_of_le_of_lt (Nat.min_le_left _ _) (Nat.lt_of_le_of_lt hi (Nat.lt_of_le_of_lt hbig (by decide))));obtain⟨D,hown,hh,ha⟩:=hq2.o;have HH:=ħ hh;have HA:=ħ ha;have HO:=ħ hown;clear hh ha hown
       go_wp2_with (at_mapUpdate;refine wpList_mapUpdate_own _ rfl (.tmp 33) (.tmp 35) _ 162 rfl 9 4 Zm2 Tryz.underlying162 (plainElem Tryz.prog 4) b ((l.take i).map (·.n)).length D rfl HO.o HLEN.o (.string y) (.bool true) (Zib q.n) rfl rfl HKY.o (.lit (.bool true)) [] (plainElem_bool Tryz.underlying4 true) ?_;intro w6 hown6 hgrow6;have hq6:=ħ (Zin.put q.n HNK.o HO.o HH.o HA.o hown6);have ho6:=ħ (ho2.o.trans (Zc1 hgrow6));clear hown6 hgrow6 y0 y1 hq2 ho2 Y2 HO HH HA)
       rw[HTK.o] at hq6;go_roundw
       case rel=>exact⟨i+1,by go_num,by omega,hq6,ho6,HF⟩
       case measure=>simp only[intOf];omega
  ·have ii:¬ ((i:Int)<n):=by omega
   have HF:Hid (V=true):=ħ (by rw[hv.o,List.drop_eq_nil_of_le (by rw[<- HN.o];omega),vbG])
   go_wp2
   go_ret;exact⟨Zac HF.o.symm,HXX.o _ ho.o⟩
end
section
open Go.RowKit Go.Sort Go.Maps
def Zf7(M:List (List Nat×Int))(k:List Nat):Option Int:=(M.find? (fun e=>e.1==k)).map (·.2)
theorem Zv2(M:List (List Nat×Int))(k:List Nat)(v:Int):Zf7 ((k,v)::M) k=some v:=by
 unfold Zf7;rw[List.find?_cons_of_pos (by simp)];rfl
theorem Zs2(M:List (List Nat×Int))(k k':List Nat)(v:Int)(h:k≠k'):Zf7 ((k',v)::M) k=Zf7 M k:=by
 unfold Zf7;rw[List.find?_cons_of_neg (by simpa using fun e=>h e.symm)]
theorem Zjr{M:List (List Nat×Int)}{k:List Nat}(h:∃ e∈M,e.1=k):∃ v,Zf7 M k=some v:=by
 obtain⟨e,he,hk⟩:=h
 cases hf:M.find? (fun e=>e.1==k) with
 | none =>
  have:=List.find?_eq_none.1 hf e he;exact absurd (by simpa using hk) this
 | some x=>exact⟨x.2,by unfold Zf7;rw[hf];rfl⟩
theorem Zor{M:List (List Nat×Int)}{k:List Nat}(h:¬ ∃ e∈M,e.1=k):Zf7 M k=none:=by
 unfold Zf7;rw[List.find?_eq_none.2 (fun e he=>by simpa using fun hk=>h ⟨e,he,hk⟩)];rfl
theorem Zm4{M:List (List Nat×Int)}{k:List Nat}{v:Int}(h:Zf7 M k=some v):(k,v)∈M:=by
 unfold Zf7 at h
 cases hf:M.find? (fun e=>e.1==k) with
 | none=>rw[hf] at h;cases h
 | some x =>
  rw[hf] at h;have h2:x.2=v:=đa h
  have h1:x.1=k:=by simpa using List.find?_some hf
  have:=List.mem_of_find?_eq_some hf;rw[<- h1,<- h2];exact this
def Zfh(l:List Bnd):List (List Nat×Int):=(l.map fun b=>(b.n,b.v)).reverse++[([],0)]
theorem Zv3(l:List Bnd)(i:Nat)(q:Bnd)(h:l[i]?=some q):Zfh (l.take (i+1))=(q.n,q.v)::Zfh (l.take i):=by
 unfold Zfh;rw[đv,h,List.map_append,List.reverse_append];rfl
def Zix(w:World)(b:Nat)(M:List (List Nat×Int)):Prop :=
 ∃ D:DataW Unit,w.ownsMap Tryz.prog 9 (plainElem Tryz.prog 3) b M.length D/\(∀ l,has D l=true↔∃ e∈M,Zib e.1=l)/\(∀ e∈M,NmOk e.1)/\∀ k v,NmOk k->Zf7 M k=some v->∀ zd,D.atKey (Zib k) zd = .lit (.int .i64 v)
theorem Zix.lt{w:World}{b:Nat}{M:List (List Nat×Int)}(h:Zix w b M):b<w.heap.size:=by
 obtain⟨D,h1,_⟩:=h;exact h1.lt
theorem Zix.step{w w':World}{b:Nat}{M:List (List Nat×Int)}(h:Zix w b M)(hb:RowKit.Below w.heap.size w w'):Zix w' b M:=by
 obtain⟨D,h1,h2⟩:=h;exact⟨D,h1.kept (Zde hb none) (by simp),h2⟩
theorem Zix.put {w w':World} {b:Nat} {M:List (List Nat×Int)} {D:DataW Unit} (k:List Nat) (v:Int) (hk:NmOk k) (h:w.ownsMap Tryz.prog 9 (plainElem Tryz.prog 3) b M.length D) (h1:∀ l,has D l=true↔∃ e∈M,Zib e.1=l) (h3:∀ e∈M,NmOk e.1) (h2:∀ k v,NmOk k->Zf7 M k=some v->∀ zd,D.atKey (Zib k) zd = .lit (.int .i64 v))
  (h':w'.ownsMap Tryz.prog 9 (plainElem Tryz.prog 3) b (M.length+1) (D.put (Zib k) (.lit (.int .i64 v)))):Zix w' b ((k,v)::M):=by
 have hkl:=Zm2.key (Zdu k hk);refine⟨_,by rw[List.length_cons];exact h',fun l=>?_,fun e he=>?_,fun x y hx hg zd=>?_⟩
 ·by_cases he:l=Zib k
  ·subst he
   rw[has_put_same h.isMap hkl];exact⟨fun _=>⟨(k,v),by simp,rfl⟩,fun _=>rfl⟩
  ·rw[has_put_other he,h1]
   constructor
   ·rintro⟨x,hx,hl⟩;exact⟨x,by simp[hx],hl⟩
   ·rintro⟨x,hx,hl⟩
    rcases List.mem_cons.1 hx with hx | hx
    ·subst hx
     exact absurd hl.symm he
    ·exact⟨x,hx,hl⟩
 ·rcases List.mem_cons.1 he with he | he
  ·subst he;exact hk
  ·exact h3 e he
 ·by_cases he:x=k
  ·subst he
   rw[Zv2] at hg;cases hg;rw[atKey_put_same h.isMap hkl]
  ·rw[Zs2 _ _ _ _ he] at hg
   rw[atKey_put_other (fun e=>he (Zm1 x k hx hk e))];exact h2 x y hx hg zd
theorem Zrl(w:World):(zeroValue 3).run Tryz.prog w = .ok (.int .i64 0) w:=Tryz.zeroValue3 w
theorem Zix.look{w:World}{b:Nat}{M:List (List Nat×Int)}(k:List Nat)(hk:NmOk k)(h:Zix w b M) :
  (Instr.lookup 116 (.map (some b)) (.string (Zad k)) false).run Tryz.prog w = .ok (.int .i64 ((Zf7 M k).getD 0)) w /\
  (Instr.lookup 116 (.map (some b)) (.string (Zad k)) true).run Tryz.prog w = .ok (.tuple #[.int .i64 ((Zf7 M k).getD 0),.bool (Zf7 M k).isSome]) w:=by
 obtain⟨D,h1,h2,h4,h3⟩:=h;obtain⟨v,ps,hrun,hv⟩:=h1.lookup Zm2 Tryz.underlying116 (z:=.int .i64 0) (Zrl w) (zd:=.lit (.int .i64 0)) (zp:=[]) (plainElem_int Tryz.underlying3 (by decide)) (Zdu k hk);obtain⟨v2,ps2,hrun2,hv2⟩:=h1.look_ok Zm2 Tryz.underlying116 (z:=.int .i64 0) (Zrl w) (zd:=.lit (.int .i64 0)) (zp:=[]) (plainElem_int Tryz.underlying3 (by decide)) (Zdu k hk);rw[hrun,hrun2];by_cases hm:∃ e∈M,e.1=k
 ·obtain⟨z,hz⟩:=Zjr hm
  have hh:has D (Zib k)=true:=(h2 _).2 (by obtain⟨e,he,hk⟩:=hm;exact⟨e,he,by rw[hk]⟩);rw[h3 k z hk hz] at hv hv2;obtain⟨a,rfl,ha,-⟩:=plainElem_int_inv Tryz.underlying3 hv;obtain⟨a2,rfl,ha2,-⟩:=plainElem_int_inv Tryz.underlying3 hv2;simp only[Prod.mk.injEq,DataW.lit.injEq,Lit.int.injEq] at ha ha2;rw[hz,hh,<- ha.1.2,<- ha2.1.2];exact⟨rfl,rfl⟩
 ·have hz:=Zor hm
  have hh:has D (Zib k)=false:=by
   cases hh:has D (Zib k) with
   | false=>rfl
   | true =>
    obtain⟨x,hx,he⟩:=(h2 _).1 hh;exact absurd ⟨x,hx,Zm1 x.1 k (h4 x hx) hk he⟩ hm
  rw[atKey_of_not_has hh] at hv hv2;obtain⟨a,rfl,ha,-⟩:=plainElem_int_inv Tryz.underlying3 hv;obtain⟨a2,rfl,ha2,-⟩:=plainElem_int_inv Tryz.underlying3 hv2;simp only[Prod.mk.injEq,DataW.lit.injEq,Lit.int.injEq] at ha ha2;rw[hz,hh,<- ha.1.2,<- ha2.1.2];exact⟨rfl,rfl⟩
theorem Zrm:NmOk []:=⟨by simp,by simp⟩
theorem Zos{W A B:World}(ha:RowKit.Below W.heap.size W A)(hg:A.grownBy B (some W.heap.size)):RowKit.Below W.heap.size W B :=
 ⟨hg.os.trans ha.os,hg.tape.trans ha.tape,hg.output.trans ha.output,đo ha.size hg.size,fun k hk=>(hg.block k (đm hk ha.size) (fun e=>by have e':k=W.heap.size:=đa e;omega)).trans (ha.block k hk)⟩
theorem Zz2(W:World):∃ M1:World,
  (Instr.mapUpdate 116 (.map (some W.heap.size)) (.string ⟨#[]⟩) (.int .i64 0)).run Tryz.prog (W.alloc (.map #[] 0)) = .ok () M1/\Zix M1 W.heap.size [([],0)]/\RowKit.Below W.heap.size W M1:=by
 have h0:=World.ownsMap_made (H:=Unit) W Tryz.prog 9 (plainElem Tryz.prog 3);obtain⟨M1,r1,o1,g1⟩:=h0.update Zm2 Tryz.underlying116 (by decide) (Zdu [] Zrm) (plainElem_int (a:=0) Tryz.underlying3 (by decide));refine⟨M1,r1,Zix.put (M:=[]) [] 0 Zrm h0 (fun l=>⟨fun h=>(by cases h),(by rintro⟨_,h,_⟩;cases h)⟩) (fun e he=>(by cases he)) (fun k v _ h=>(by cases h)) o1,Zos ((đc _ _).alloc (đd _) _) g1⟩
theorem Zs3(w:World)(P:Nat->Prop)(l:List Bnd)(ao:Option Addr)(n cap:Nat)(hn:n=l.length)(hbig:n<=10000000000000)(hok:BndOk l)(hv:∀ b∈l,0<=b.v/\b.v<=65535)(hk:Zoq w P l ao) :
  Calls Tryz.prog 92 #[.slice ao n cap] w fun e w'=>e = .returned (.map (some w.heap.size))/\Zix w' w.heap.size (Zfh l)/\RowKit.Below w.heap.size w w':=by
 have HK:=ħ hk;have HN:=ħ hn;have HOK:=ħ hok.nm;have HVB:=ħ hv;obtain⟨M1,r1,q1,b1⟩:=Zz2 w;have Q1:=ħ q1;have BX:=ħ b1;clear hk hn hok hv q1 b1;have hmm:=@run_makeMap Tryz.prog
 go_enter Tryz.func92,Tryz.ntmps92
 go_upto_region 2 with(fail)
 clear r1 hmm
 go_wp2_with fail
 have S0:Hid (Zix M1 w.heap.size (Zfh (l.take 0))):=ħ Q1.o;have O0:Hid (Only M1 M1 (· = w.heap.size)):=ħ (Only.refl _ _);clear Q1;have HXX:=ħ (fun(W:World) (hW:Only M1 W (· = w.heap.size))=>Only.later (đc w.heap.size w) (Only.trans (Only.of_below (p:=fun g=>w.heap.size<=g) BX.o) (hW.mono (fun g _ hg=>by rw[hg];exact đd _))) (fun g hg=>hg));generalize hb:w.heap.size=b at *
 go_loopw [10] (fun cc wr=>∃ (i:Nat),cc = .int .i64 i/\i<=n/\Hid (Zix wr b (Zfh (l.take i)))/\Hid (Only M1 wr (· = b))) (fun c _=>(n-intOf c).toNat)
 case atStart=>exact⟨0,rfl,by omega,S0,O0⟩
 case round =>
  clear S0 O0;obtain⟨i,rfl,hi,hq,ho⟩:=hrel;have e2:IntKind.i64.wrap ((i:Int)+1)=((i+1:Nat):Int):=đh _ (by omega);by_cases hlt:i<n
  ·have ii:(i:Int)<n:=by omega
   have HQ:Hid (∃ q,l[i]?=some q/\∃ g off,ao=some ⟨g,off,none⟩/\g<b/\Zav wr g (off+i*2) [.string (Zad q.n),.int .i64 q.v]):=ħ (by
    have hl:i<l.length:=by rw[<- HN.o];exact hlt
    refine⟨l[i],đb hl,?_⟩;rcases HK.o with h | ⟨g,off,h1,h2,h3,h4⟩
    ·rw[h] at hl;exact absurd hl (đu _)
    ·have hgb:g<b:=by rw[<- hb];exact h3
     have h5:=Zex h4 i _ (đb hl);have hbx:=BX.o
     exact⟨g,off,h1,hgb,(h5.of_block (hbx.block g hgb)).of_block (ho.o.block g (by have:=hbx.size;omega) (by omega))⟩)
   obtain⟨q,hqi,gk,off,hao,hgl,hrd⟩:=HQ.o;clear HQ;have HTK:=ħ (Zv3 l i q hqi);have HNM:=ħ (HOK.o q (đe hqi));have HVQ:=ħ (HVB.o q (đe hqi));have s0:=hrd 0 _ rfl;have s1:=hrd 1 _ rfl;rw[Nat.add_zero] at s0;have HAO:=ħ hao;clear hrd hqi;subst hao;have bx:=(đc wr.heap.size wr).alloc (đd _) (.cells #[.string (Zad q.n),.int .i64 q.v] 164);have Y1:Hid (Zae (wr.alloc (.cells #[.string (Zad q.n),.int .i64 q.v] 164)) wr.heap.size 164 [.string (Zad q.n),.int .i64 q.v]):=ħ (heap_alloc_new wr _);have hq1:=ħ (hq.o.step bx);have ho1:=ħ (ho.o.step bx);clear bx hq ho
   go_upto_region 5 with(fail)
   have HKY:=ħ (Zdu q.n (Zhp HNM.o));have HNK:=ħ (Zhp HNM.o)
   have HPE:Hid (plainElem (H:=Unit) Tryz.prog 3 (.int .i64 q.v)=some (.lit (.int .i64 q.v),[])):=ħ (plainElem_int Tryz.underlying3 (by
    have:=HVQ.o;simp[Lit.wf,IntKind.min,IntKind.max,IntKind.signed,IntKind.bits]
    omega))
   clear HNM s0 s1 HVQ;generalize wr.heap.size=A at *;generalize hnm:Zad q.n=y at *;clear hnm;generalize q.v=v at *;generalize wr.alloc (.cells #[.string y,.int .i64 v] 164)=wy at *;have y0:=Y1.o.cell 0 _ rfl;have y1:=Y1.o.cell 1 _ rfl
   have HLEN:Hid ((Zfh (l.take i)).length<maxLen):=ħ (by
    have:(Zfh (l.take i)).length<=n+1:=by unfold Zfh;rw[đn,List.length_reverse,đr,List.length_take];simp;omega
    exact Nat.lt_of_le_of_lt this (Nat.lt_of_le_of_lt (Nat.add_le_add_right hbig 1) (by decide)))
   obtain⟨D,hown,hh,hn3,ha⟩:=hq1.o;have HH:=ħ hh;have HA:=ħ ha;have HM3:=ħ hn3;have HO:=ħ hown;clear hh ha hown hn3
   go_wp2_with (at_mapUpdate;refine wpList_mapUpdate_own _ rfl (.tmp 14) (.tmp 16) _ 116 rfl 9 3 Zm2 Tryz.underlying116 (plainElem Tryz.prog 3) b (Zfh (l.take i)).length D rfl HO.o HLEN.o (.string y) (.int .i64 v) (Zib q.n) rfl rfl HKY.o (.lit (.int .i64 v)) [] HPE.o ?_;intro w6 hown6 hgrow6;have hq6:=ħ (Zix.put q.n v HNK.o HO.o HH.o HM3.o HA.o hown6);have ho6:=ħ (ho1.o.trans (Zc1 hgrow6));clear hown6 hgrow6 y0 y1 hq1 ho1 Y1 HO HH HA HM3)
   rw[<- HTK.o] at hq6;go_roundw
   case rel=>exact⟨i+1,by go_num,by omega,hq6,ho6⟩
   case measure=>simp only[intOf];omega
  ·have ii:¬ ((i:Int)<n):=by omega
   have HF:Hid (Zix wr b (Zfh l)):=ħ (by have:=hq.o;rwa [show l.take i=l from List.take_of_length_le (by rw[<- HN.o];omega)] at this)
   go_wp2
   go_ret;exact⟨rfl,HF.o,HXX.o _ ho.o⟩
end
section
open Go.RowKit Go.Sort Go.Maps
def gvD(M:List (List Nat×Int))(k:List Nat):Int:=(Zf7 M k).getD 0
def Z32(M:List (List Nat×Int)):Prop:=∀ e∈M,0<=e.2/\e.2<=65535
theorem Zv4{M:List (List Nat×Int)}(h:Z32 M)(k:List Nat):0<=gvD M k/\gvD M k<=65535:=by
 unfold gvD
 cases hg:Zf7 M k with
 | none=>exact⟨by decide,by decide⟩
 | some v=>exact h _ (Zm4 hg)
def fV(M:List (List Nat×Int))(k:Ky):Bool:=decide (gvD M k.l-gvD M k.r<=k.c)
def bdV(M:List (List Nat×Int))(k:Ky):Bool:=(Zf7 M k.l).isSome&&(Zf7 M k.r).isSome
theorem Z1i{k:Ky}(h:KyOk k):NmOk k.l:=⟨h.lb,h.ll⟩
theorem Z1j{k:Ky}(h:KyOk k):NmOk k.r:=⟨h.rb,h.rl⟩
theorem Z2a(k:Ky)(hk:KyOk k)(Bm b:Nat)(M:List (List Nat×Int))(w:World)(hM:Zix w b M)(hv:Z32 M)(hc:Zae w Bm 116 [.map (some b)]) :
  Calls Tryz.prog 151 #[.agg (kyC k).toArray,.pointer (some ⟨Bm,0,none⟩)] w fun e w'=>e = .returned (.bool (fV M k))/\RowKit.Below w.heap.size w w':=by
 have bx:=(đc w.heap.size w).alloc (đd _) (.cells #[.string (Zad k.l),.string (Zad k.r),.int .i64 k.c] 121);have B1:=ħ bx;have X1:Hid (Zae (w.alloc (.cells #[.string (Zad k.l),.string (Zad k.r),.int .i64 k.c] 121)) w.heap.size 121 [.string (Zad k.l),.string (Zad k.r),.int .i64 k.c]):=ħ (heap_alloc_new w _);have lk1:=(Zix.look k.l (Z1i hk) (hM.step bx)).1;have lk2:=(Zix.look k.r (Z1j hk) (hM.step bx)).1;have bd1:=Zv4 hv k.l;have bd2:=Zv4 hv k.r;have c0:=(hc.step bx).cell 0 _ rfl;have HF:Hid (fV M k=decide (gvD M k.l-gvD M k.r<=k.c)):=ħ rfl;obtain⟨V,hV⟩:∃ V,fV M k=V:=⟨_,rfl⟩;rw[hV] at HF ⊢;have e1:(Zf7 M k.l).getD 0=gvD M k.l:=rfl;have e2:(Zf7 M k.r).getD 0=gvD M k.r:=rfl;rw[e1] at lk1;rw[e2] at lk2;unfold kyC;clear bx hM hv hc hV hk e1 e2;generalize gvD M k.l=a at *;generalize gvD M k.r=d at *;generalize Zad k.l=y at *;generalize Zad k.r=z at *;generalize k.c=c at *;have ew:IntKind.i64.wrap (a-d)=a-d:=đh _ (by omega)
 go_enter Tryz.func151,Tryz.ntmps151
 go_upto_region 1 with(fail)
 generalize w.alloc (.cells #[.string y,.string z,.int .i64 c] 121)=w1 at *;have x0:=X1.o.cell 0 _ rfl;have x1:=X1.o.cell 1 _ rfl;have x2:=X1.o.cell 2 _ rfl
 go_wp2
 go_ret;exact⟨Zac HF.o.symm,B1.o⟩
theorem Zv5(k:Ky)(hk:KyOk k)(b:Nat)(M:List (List Nat×Int))(w:World)(hM:Zix w b M) :
  Calls Tryz.prog 94 #[.map (some b),.agg (kyC k).toArray] w fun e w'=>e = .returned (.bool (bdV M k))/\RowKit.Below w.heap.size w w':=by
 have bx:=(đc w.heap.size w).alloc (đd _) (.cells #[.string (Zad k.l),.string (Zad k.r),.int .i64 k.c] 121);have B1:=ħ bx;have X1:Hid (Zae (w.alloc (.cells #[.string (Zad k.l),.string (Zad k.r),.int .i64 k.c] 121)) w.heap.size 121 [.string (Zad k.l),.string (Zad k.r),.int .i64 k.c]):=ħ (heap_alloc_new w _);have lk1:=(Zix.look k.l (Z1i hk) (hM.step bx)).2;have lk2:=(Zix.look k.r (Z1j hk) (hM.step bx)).2;have HF:Hid (bdV M k=((Zf7 M k.l).isSome&&(Zf7 M k.r).isSome)):=ħ rfl;obtain⟨V,hV⟩:∃ V,bdV M k=V:=⟨_,rfl⟩;rw[hV] at HF ⊢;unfold kyC;clear bx hM hV hk;generalize (Zf7 M k.l).getD 0=a at *;generalize (Zf7 M k.r).getD 0=d at *;generalize (Zf7 M k.l).isSome=p1 at *;generalize (Zf7 M k.r).isSome=p2 at *;generalize Zad k.l=y at *;generalize Zad k.r=z at *;generalize k.c=c at *
 go_enter Tryz.func94,Tryz.ntmps94
 go_upto_region 1 with(fail)
 generalize w.alloc (.cells #[.string y,.string z,.int .i64 c] 121)=w1 at *;have x0:=X1.o.cell 0 _ rfl;have x1:=X1.o.cell 1 _ rfl
 cases p1 with
 | false =>
  rw[đq] at HF
  go_wp2
  go_ret;exact⟨Zac HF.o.symm,B1.o⟩
 | true =>
  rw[đk] at HF
  go_wp2
  go_ret;exact⟨Zac HF.o.symm,B1.o⟩
end
section
open Go.RowKit Go.Sort Go.Maps
theorem Zrn:∀ (S:List (List Nat)) (l:List Bnd),vbG S l=true->∀ b∈l,Za5 b.n=true/\0<=b.v/\b.v<=65535
 | _,[],_,b,hb=>by cases hb
 | S,x::xs,h,b,hb=>by
  unfold vbG at h;simp only[đi,decide_eq_true_eq] at h;rcases List.mem_cons.1 hb with hb | hb
  ·subst hb;exact⟨h.2.1,h.2.2.1,h.2.2.2.1⟩
  ·exact Zrn _ xs h.2.2.2.2 b hb
theorem Zv6{l:List Bnd}(h:vbP l=true):∀ b∈l,0<=b.v/\b.v<=65535:=fun b hb=>(Zrn [] l h b hb).2
theorem Zv7{l:List Bnd}(h:vbP l=true):Z32 (Zfh l):=fun e he=>by
 unfold Zfh at he;rcases đt.1 he with he | he
 ·rw[List.mem_reverse,List.mem_map] at he
  obtain⟨b,hb,rfl⟩:=he;exact Zv6 h b hb
 ·rw[List.mem_singleton] at he
  subst he;exact⟨by decide,by decide⟩
def Ze8(p:Prd)(l:List Bnd):Bool×Int :=
 if (Zba p&&vbP l)=false then(false,1) else if (Zc7 p).all (bdV (Zfh l))=false then(false,4) else(Zbs (fV (Zfh l)) p,0)
theorem Zoq.below{w w':World}{P:Nat->Prop}{l:List Bnd}{ao:Option Addr}(h:Zoq w P l ao)(hb:RowKit.Below w.heap.size w w'):Zoq w' P l ao:=by
 rcases h with h | ⟨g,off,h1,h2,h3,h4⟩
 ·exact .inl h
 ·exact .inr ⟨g,off,h1,h2,đm h3 hb.size,h4.of_block (hb.block g h3)⟩
theorem Zz3(b:Nat)(w:World):Calls Tryz.prog 96 #[.map (some b)] w fun e w'=>e = .returned (.func (.func 151) #[] #[.pointer (some ⟨w.heap.size,0,none⟩)])/\w'=w.alloc (.cells #[.map (some b)] 116):=by
 go_enter Tryz.func96,Tryz.ntmps96
 go_wp2
 go_ret;exact⟨rfl,rfl⟩
def ByC(Bm b:Nat)(M:List (List Nat×Int))(w:World):Prop:=Zix w b M/\Zae w Bm 116 [.map (some b)]
theorem Z4f(Bm b:Nat)(M:List (List Nat×Int))(hv:Z32 M):IsF (ByC Bm b M) 151 #[.pointer (some ⟨Bm,0,none⟩)] (fV M) KyOk :=
 ⟨enters_of Tryz.func151 (by kernel_rfl) rfl,fun w w' h hb=>⟨h.1.step hb,h.2.step hb⟩,fun k w hk hC=>Z2a k hk Bm b M w hC.1 hv hC.2⟩
theorem Zz4(f:Ky->Bool)(l:List Ky)(i:Nat)(k:Ky)(h:l[i]?=some k):(l.drop i).all f=(f k&&(l.drop (i+1)).all f):=by
 rw[Ze7 l i k h,List.all_cons]
theorem Zv8 (p:Prd) (w:World) (P Pb:Nat->Prop) (vs:List Value) (B:Nat) (l:List Bnd) (bo:Option Addr) (m bc:Nat) (hN:Zb0 p<=1000000) (hb:Zon p) (h:Zao w P p vs) (hT:Tab w B)
  (hm:m=l.length) (hbig:m<=10000000000000) (hok:BndOk l) (hk:Zoq w Pb l bo) :
  Calls Tryz.prog 30 #[.agg vs.toArray,.slice bo m bc] w fun e w'=>e = .returned (.tuple #[.bool (Ze8 p l).1,.int .i64 (Ze8 p l).2])/\RowKit.Below w.heap.size w w':=by
 obtain⟨xa,xn,xc,rfl,-⟩:=h.form;have bx:=(đc w.heap.size w).alloc (đd _) (.cells #[.int .i64 p.k,.string (Zad p.l),.string (Zad p.r),.int .i64 p.c,.slice xa xn xc] 54);have B1:=ħ bx;have X1:Hid (Zae (w.alloc (.cells #[.int .i64 p.k,.string (Zad p.l),.string (Zad p.r),.int .i64 p.c,.slice xa xn xc] 54)) w.heap.size 54 [.int .i64 p.k,.string (Zad p.l),.string (Zad p.r),.int .i64 p.c,.slice xa xn xc]):=ħ (heap_alloc_new w _);have HVP:=ħ (fun W (hW:RowKit.Below w.heap.size w W)=>Zvu p W P _ B hN hb (h.below hW) (Zbw.step (w:=w) hT hW));have HVB:=ħ (fun W (hW:RowKit.Below w.heap.size w W)=>Zs1 W Pb l bo m bc B (show Tab W B from Zbw.step (w:=w) hT hW) hm hbig hok (hk.below hW));have HVL:=ħ (fun(hv:vbP l=true) W (hW:RowKit.Below w.heap.size w W)=>Zs3 W Pb l bo m bc hm hbig hok (Zv6 hv) (hk.below hW));have HAT:=ħ (fun(hv:Zba p=true) W (hW:RowKit.Below w.heap.size w W)=>Zvr W P p _ (h.below hW) (by unfold Zba at hv;rw[đi] at hv;exact hv.2) hN);have HTR:=ħ (fun(W:World) (C:World->Prop) (g:Nat) (cb:Array Value) (f:Ky->Bool) (S:Ky->Prop) (hW:RowKit.Below w.heap.size w W) h1 h2 h4=>Zoj (Zb0 p) p W P [.int .i64 p.k,.string (Zad p.l),.string (Zad p.r),.int .i64 p.c,.slice xa xn xc] C g cb f S (đd _) hN h1 h2 (h.below hW) h4);have HFK:=ħ (fun(hv:Zba p=true)=>Zev p (by unfold Zba at hv;rw[đi] at hv;exact hv.2));have HFA:=ħ (fun(hv:Zba p=true) (k:Ky) (hk:k∈Zc7 p)=>Zev p (by unfold Zba at hv;rw[đi] at hv;exact hv.2) k ((Zhk p k).1 hk))
 have HLK:Hid ((Zc7 p).length<=1000000):=ħ (by
  refine đo (Zh9 _ (Zdy p) (Zvw (Zlk p)) (fun x hx=>(Zhk p x).1 hx)) ?_
  exact đo (Zi5 p) hN)
 have HMB:=ħ (fun(hv:vbP l=true)=>Zv7 hv);have HV:Hid (Ze8 p l=if (Zba p&&vbP l)=false then(false,1) else if (Zc7 p).all (bdV (Zfh l))=false then(false,4) else(Zbs (fV (Zfh l)) p,0)):=ħ rfl;obtain⟨V,hV⟩:∃ V,Ze8 p l=V:=⟨_,rfl⟩;rw[hV] at HV ⊢;clear bx h hT hb hN hV hm hok hk;generalize Zba p=s at *;generalize vbP l=t at *;obtain⟨M,hM⟩:∃ M,Zfh l=M:=⟨_,rfl⟩;rw[hM] at HV HVL HMB;clear hM;generalize p.k=q0 at *;generalize Zad p.l=q1 at *;generalize Zad p.r=q2 at *;generalize p.c=q3 at *
 go_enter Tryz.func30,Tryz.ntmps30
 go_upto_region 1 with(fail)
 generalize w.alloc (.cells #[.int .i64 q0,.string q1,.string q2,.int .i64 q3,.slice xa xn xc] 54)=w1 at *
 go_wp2_with (refine wpList_load_row rfl 54 (.tmp 2) rfl w.heap.size ?x1 54 #[.int .i64 q0,.string q1,.string q2,.int .i64 q3,.slice xa xn xc] (0,0) _ X1.o Tryz.underlying54 rfl (Za4 _ rfl) ?_;(case x1=>rfl))
 refine(HVP.o w1 B1.o).mono ?_;rintro e w2 ⟨rfl,b2⟩;have B2:=ħ (B1.o.trans (b2.mono B1.o.size));have X2:=ħ (X1.o.step b2);clear b2 HVP B1 X1
 cases s with
 | false =>
  have HX:Hid (V=(false,1)):=ħ (by rw[HV.o];rfl)
  go_wp2
  go_ret2
  exact⟨by rw[HX.o];rfl,B2.o⟩
 | true =>
  go_wp2_with fail
  refine(HVB.o w2 B2.o).mono ?_;rintro e w3 ⟨rfl,b3⟩;have B3:=ħ (B2.o.trans (b3.mono B2.o.size));have X3:=ħ (X2.o.step b3);clear b3 HVB B2 X2
  cases t with
  | false =>
   have HX:Hid (V=(false,1)):=ħ (by rw[HV.o];rfl)
   go_wp2
   go_ret2
   exact⟨by rw[HX.o];rfl,B3.o⟩
  | true =>
   have HV2:Hid (V=if (Zc7 p).all (bdV M)=false then(false,4) else(Zbs (fV M) p,0)):=ħ (by rw[HV.o];rfl)
   go_wp2_with fail
   refine(HVL.o (by trivial) w3 B3.o).mono ?_;rintro e w4 ⟨rfl,m4,b4⟩;have M4:=ħ m4;have B4:=ħ (B3.o.trans (b4.mono B3.o.size));have X4:=ħ (X3.o.step b4);clear b4 m4 HVL B3 X3 HV;generalize w3.heap.size=mb at *
   go_wp2_with (refine wpList_load_row rfl 54 (.tmp 2) rfl w.heap.size ?x2 54 #[.int .i64 q0,.string q1,.string q2,.int .i64 q3,.slice xa xn xc] (0,0) _ X4.o Tryz.underlying54 rfl (Za4 _ rfl) ?_;(case x2=>rfl))
   refine(HAT.o (by trivial) w4 B4.o).mono ?_;rintro e w5 ⟨ak,ck,rfl,ho,b5⟩;have M5:=ħ (M4.o.step b5);have B5:=ħ (B4.o.trans (b5.mono B4.o.size));have X5:=ħ (X4.o.step b5);have K5:=ħ (ho.keysR rfl);clear b5 ho HAT B4 X4 M4;obtain⟨ks,hks⟩:∃ ks,Zc7 p=ks:=⟨_,rfl⟩;rw[hks] at HV2 K5 HLK HFA;rw[hks];clear hks;obtain⟨n,hn⟩:∃ n,ks.length=n:=⟨_,rfl⟩;have HN:=ħ hn;rw[hn] at HLK;rw[hn];clear hn;have hn8:=HLK.o;have HA0:Hid (ks.all (bdV M)=(ks.drop 0).all (bdV M)):=ħ rfl;have Z0:Hid (RowKit.Below w5.heap.size w5 w5):=ħ (đc _ _)
   go_wp2_with fail
   go_loopw [22] (fun cc wr=>∃ (i:Nat),cc = .int .i64 i/\i<=n/\Hid (RowKit.Below w5.heap.size w5 wr)/\Hid (ks.all (bdV M)=(ks.drop i).all (bdV M))) (fun c _=>(n-intOf c).toNat)
   case atStart=>exact⟨0,rfl,by omega,Z0,HA0⟩
   case round =>
    clear HA0 Z0;obtain⟨i,rfl,hi,hw,hv⟩:=hrel;have e2:IntKind.i64.wrap ((i:Int)+1)=((i+1:Nat):Int):=đh _ (by omega);by_cases hlt:i<n
    ·have ii:(i:Int)<n:=by omega
     have HQ:Hid (∃ k,ks[i]?=some k):=ħ (by
      have hl:i<ks.length:=by rw[HN.o];exact hlt
      exact⟨ks[i],đb hl⟩)
     obtain⟨k,hki⟩:=HQ.o;clear HQ;have HST:=ħ (hv.o.trans (Zz4 (bdV M) ks i k hki));have HKO:=ħ (HFA.o (by trivial) k (đe hki));obtain⟨g,off,hao,hg,s0,s1,s2⟩:=(K5.o.below hw.o).at i k hki;have HAO:=ħ hao;subst hao;have HBD:=ħ (fun W (hW:Zix W mb M)=>Zv5 k HKO.o mb M W hW);have HKC:Hid (kyC k=[.string (Zad k.l),.string (Zad k.r),.int .i64 k.c]):=ħ rfl;rw[HKC.o] at HBD;clear hki HKO HKC hv hg;generalize Zad k.l=y1 at *;generalize Zad k.r=y2 at *;generalize k.c=y3 at *;generalize bdV M k=bd at *;have bx:=(đc wr.heap.size wr).alloc (đd _) (.cells #[.string y1,.string y2,.int .i64 y3] 121);have Y1:Hid (Zae (wr.alloc (.cells #[.string y1,.string y2,.int .i64 y3] 121)) wr.heap.size 121 [.string y1,.string y2,.int .i64 y3]):=ħ (heap_alloc_new _ _);have W1:=ħ (hw.o.trans (bx.mono hw.o.size));clear bx hw
     go_upto_region 7 with(fail)
     clear s0 s1 s2;generalize wr.alloc (.cells #[.string y1,.string y2,.int .i64 y3] 121)=wk at *
     go_wp2_with (refine wpList_load_row rfl 121 (.tmp 8) rfl wr.heap.size ?x3 121 #[.string y1,.string y2,.int .i64 y3] (0,0) _ Y1.o Tryz.underlying121 rfl (Zvb _ rfl) ?_;(case x3=>rfl))
     refine(HBD.o wk (M5.o.step W1.o)).mono ?_;rintro e w6 ⟨rfl,b6⟩;have W6:=ħ (W1.o.trans (b6.mono W1.o.size));clear b6 W1 Y1
     cases bd with
     | false =>
      have HX:Hid (V=(false,4)):=ħ (by rw[HV2.o,HST.o];rfl)
      go_wp2
      go_ret2
      exact⟨by rw[HX.o];rfl,B5.o.trans (W6.o.mono B5.o.size)⟩
     | true =>
      have HS2:Hid (ks.all (bdV M)=(ks.drop (i+1)).all (bdV M)):=ħ (by rw[HST.o,đk])
      go_wp2
      go_roundw
      case rel=>exact⟨i+1,by go_num,by omega,W6,HS2⟩
      case measure=>simp only[intOf];omega
    ·have ii:¬ ((i:Int)<n):=by omega
     have HX:Hid (V=(Zbs (fV M) p,0)):=ħ (by rw[HV2.o,hv.o,List.drop_eq_nil_of_le (by rw[HN.o];omega)];rfl);have X6:=ħ (X5.o.step hw.o);have M6:=ħ (M5.o.step hw.o);have B6:=ħ (B5.o.trans (hw.o.mono B5.o.size));clear hv hw HV2 K5 X5 M5 B5
     go_upto_region 10 with(fail)
     refine Zft [0,1] [2,3,4,5] (fun w'=>Zae w' w.heap.size 54 [.int .i64 q0,.string q1,.string q2,.int .i64 q3,.slice xa xn xc]) (by kernel_rfl) (by kernel_rfl) (by kernel_rfl) (fun _ _ d _ _ h=>by cases d<;>exact h) X6.o ?_;simp only[Zb6,List.filterMap_cons,List.filterMap_nil,List.getElem?_cons_zero,List.getElem?_cons_succ,Option.map_some,List.map_cons,List.map_nil];apply Exists.intro;refine⟨?hh,?ht⟩
     case hh =>
      intro w' hw';have c0:=hw'.cell 0 _ rfl;have c1:=hw'.cell 1 _ rfl;have c2:=hw'.cell 2 _ rfl;have c3:=hw'.cell 3 _ rfl;have c4:=hw'.cell 4 _ rfl;clear hw'
      repeat still_step
      exact wpStill_nil rfl
     case ht =>
      have BD:=(đc wr.heap.size wr).drew;have X7:=ħ (X6.o.step BD);have M7:=ħ (M6.o.step BD);have B7:=ħ (B6.o.trans (BD.mono B6.o.size));clear BD X6 M6 B6;generalize wr.drew=wd at *;refine Zb8 ?_
      go_wp2_with fail
      refine(Zz3 mb wd).mono ?_;rintro e w8 ⟨rfl,rfl⟩;have BA:=(đc wd.heap.size wd).alloc (đd _) (.cells #[.map (some mb)] 116);have X8:=ħ (X7.o.step BA);have C8:Hid (ByC wd.heap.size mb M (wd.alloc (.cells #[.map (some mb)] 116))):=ħ ⟨M7.o.step BA,heap_alloc_new _ _⟩;have B8:=ħ (B7.o.trans (BA.mono B7.o.size));clear BA X7 M7 B7;generalize wd.alloc (.cells #[.map (some mb)] 116)=w8 at *
      go_wp2_with fail
      refine Zaa ⟨X8.o,?_⟩;refine Zb8 ?_
      go_wp2_with fail
      refine(HTR.o w8 (ByC wd.heap.size mb M) 151 _ (fV M) KyOk B8.o (Z4f wd.heap.size mb M (HMB.o (by trivial))) (HFK.o (by trivial)) C8.o).mono ?_;rintro e w9 ⟨rfl,b9⟩;have X9:=ħ (X8.o.step b9);have B9:=ħ (B8.o.trans (b9.mono B8.o.size));clear b9 X8 C8 B8
      go_wp2_with fail
      refine Zaa ⟨X9.o,?_⟩;refine Zb8 ?_
      go_wp2_with fail
      refine Zaa ⟨X9.o,?_⟩;refine Zb8 ?_
      go_wp2_with fail
      refine Zaa ⟨X9.o,?_⟩;unfold Ze5
      go_wp2
      go_ret2
      exact⟨by rw[HX.o];rfl,B9.o⟩
end
section
open Go.RowKit Go.Sort Go.Maps
theorem Zjs{α:Type}(f:α->Bool)(l:List α)(i:Nat)(k:α)(h:l[i]?=some k):(l.drop i).all f=(f k&&(l.drop (i+1)).all f):=by
 rw[Ze7 l i k h,List.all_cons]
theorem Zvx.get{w:World}{P:Nat->Prop}{ks:List Prd}{ao:Option Addr}(h:Zvx w P ks ao){i:Nat}(hi:i<ks.length):∃ q,ks[i]?=some q/\∃ g off,ao=some ⟨g,off,none⟩/\g<w.heap.size/\∃ vs,Zao w P q vs/\Zav w g (off+i*5) vs:=by
 rcases h with h | ⟨g,off,h1,h2,h3,h4⟩
 ·rw[h] at hi;exact absurd hi (đu _)
 ·obtain⟨vs,hv1,hv2⟩:=Zbe.at ks g off i _ (đb hi) h4
  exact⟨ks[i],đb hi,g,off,h1,h3,vs,hv1,hv2⟩
end
section
open Go.RowKit Go.Sort Go.Maps
theorem Zot(l:List Nat)(w:World)(hl:l.length<=1000000)(hb:∀ y∈l,y<256) :
  Calls Tryz.prog 199 #[.string (Zad l)] w fun e w'=>e = .returned (.bool (Zbz l))/\RowKit.Below w.heap.size w w':=by
 have H1:=ħ (Zxe l w hl hb);have H2:=ħ (fun(W:World) (g:Nat) (hr:Zae W g 9 (Zdh.map (fun s=>.string (Zad s))))=>Zrb g 0 8 8 Zdh l W rfl (by omega) (fun j u hj=>by rw[Nat.zero_add];exact hr.cell j u hj) hb Zh4);have HV:Hid (Zbz l=(Zdo l&&!Zqz Zdh l)):=ħ rfl;have B0:=ħ (đc w.heap.size w);clear hl hb;generalize Zbz l=V at *;generalize Zdo l=b1 at *;generalize Zqz Zdh l=b2 at *;generalize Zad l=t at *
 go_enter Tryz.func199,Tryz.ntmps199
 go_wp2_with fail
 refine H1.o.mono ?_;rintro e w1 ⟨rfl,rfl⟩
 cases b1 with
 | false =>
  go_wp2
  go_ret;exact⟨Zac (by rw[HV.o];rfl),B0.o⟩
 | true =>
  go_wp2_with fail
  refine(Zlu w).mono ?_;rintro e w2 ⟨rfl,hv,b2'⟩;have HH:=ħ (H2.o w2 _ hv);have B2:=ħ b2';clear hv b2'
  go_wp2_with fail
  refine HH.o.mono ?_;rintro e w3 ⟨rfl,rfl⟩
  go_wp2
  go_ret;exact⟨Zac (by rw[HV.o];rfl),B2.o⟩
theorem Zro(l:List Nat)(i:Nat)(hi:i<l.length)(h:∀ j,j<i->l.getD j 0≠46)(h2:l.getD i 0=46):Zbh Zai l=i :=
 (Zmj Zai l i (by omega) (fun j hj=>by unfold Zai;simpa using h j hj) (fun _=>by unfold Zai;rw[h2];rfl)).symm
theorem Zrp(l:List Nat)(h:∀ j,j<l.length->l.getD j 0≠46):Zbh Zai l=l.length :=
 (Zmj Zai l l.length (by omega) (fun j hj=>by unfold Zai;simpa using h j hj) (fun h=>absurd h (by omega))).symm
theorem Zhq(l:List Nat)(w:World)(hl:l.length<=1000000)(hb:∀ y∈l,y<256) :
  Calls Tryz.prog 172 #[.string (Zad l)] w fun e w'=>e = .returned (.bool (Za5 l))/\RowKit.Below w.heap.size w w':=by
 have SZ:=ħ (Zbc l);have HX:Hid (∀ i:Nat,i<l.length->∀ w,(Instr.index 9 (.string (Zad l)) (.int .i64 (i:Int))).run Tryz.prog w = .ok (.int .u8 ((l.getD i 0:Nat):Int)) w):=ħ (fun i hi w=>Zj2 l i hi hb w);have HS:Hid (∀ i:Nat,i<=l.length->∀ w,(Instr.slice 9 (.string (Zad l)) (some (.int .i64 (i:Int))) none none).run Tryz.prog w = .ok (.string (Zad (l.drop i))) w):=ħ (fun i hi w=>Zso l i hi w);have HU:Hid (∀ i:Nat,i<=l.length->∀ w,(Instr.slice 9 (.string (Zad l)) none (some (.int .i64 (i:Int))) none).run Tryz.prog w = .ok (.string (Zad (l.take i))) w):=ħ (fun i hi w=>Zsp l i hi w);have HF1:=ħ (fun(i:Nat) W=>Zot (l.take i) W (by rw[List.length_take];omega) (fun y hy=>hb y (List.mem_of_mem_take hy)));have HF2:=ħ (fun(i:Nat) W=>Zot (l.drop i) W (by rw[List.length_drop];omega) (fun y hy=>hb y (List.mem_of_mem_drop hy)));have HV:Hid (Za5 l=(decide (Zbh Zai l<l.length)&&(Zbz (l.take (Zbh Zai l))&&Zbz (l.drop (Zbh Zai l+1))))):=ħ rfl;have HB:=ħ hb;have B0:=ħ (đc w.heap.size w);clear hb;generalize Za5 l=V at *;generalize Zad l=t at *
 go_enter Tryz.func172,Tryz.ntmps172
 go_wp2_with fail
 go_loop [3] (fun c=>∃ i:Nat,c = .int .i64 i/\i<=l.length/\Hid (∀ j,j<i->l.getD j 0≠46)) (fun c=>(l.length-intOf c).toNat)
 case atStart=>exact⟨0,rfl,by omega,ħ (fun j hj=>absurd hj (đu j))⟩
 case round =>
  obtain⟨i,rfl,hi,hz⟩:=hrel;have hsz:=SZ.o;have e2:IntKind.i64.wrap ((i:Int)+1)=((i+1:Nat):Int):=đh _ (by omega);by_cases hlt:i<l.length
  ·have hx:=HX.o i hlt
   have ii:(i:Int)<l.length:=by omega
   obtain⟨v,hv⟩:∃ v,l.getD i 0=v:=⟨_,rfl⟩;rw[hv] at hx;have HVV:=ħ hv;clear hv;by_cases h46:v=46
   ·have c1:((v:Int)==46)=true:=by rw[beq_iff_eq];omega
    have HR:Hid (Zbh Zai l=i):=ħ (Zro l i hlt hz.o (by rw[HVV.o];exact h46));have HV2:Hid (V=(Zbz (l.take i)&&Zbz (l.drop (i+1)))):=ħ (by rw[HV.o,HR.o,decide_eq_true hlt,đk]);have hu:=HU.o i (by omega)
    have hs:∀ w,(Instr.slice 9 (.string t) (some (.int .i64 ((i:Int)+1))) none none).run Tryz.prog w = .ok (.string (Zad (l.drop (i+1)))) w:=fun w=>by
     have h:=HS.o (i+1) (by omega) w
     rwa [show((i+1:Nat):Int)=(i:Int)+1 from by omega] at h
    have F1:=ħ (HF1.o i);have F2:=ħ (HF2.o (i+1));clear h46 HR HV hz HVV;generalize Zbz (l.take i)=b1 at *;generalize Zbz (l.drop (i+1))=b2 at *;generalize Zad (l.take i)=s1 at *;generalize Zad (l.drop (i+1))=s2 at *
    go_wp2_with fail
    refine(F1.o w).mono ?_;rintro e w1 ⟨rfl,b1'⟩;have B1:=ħ b1';clear b1'
    cases b1 with
    | false =>
     go_wp2
     go_ret;exact⟨Zac (by rw[HV2.o];rfl),B1.o⟩
    | true =>
     go_wp2_with fail
     refine(F2.o w1).mono ?_;rintro e w2 ⟨rfl,b2'⟩;have B2:=ħ (B1.o.trans (b2'.mono B1.o.size));clear b2' hu hs hx F1 F2
     cases b2 with
     | false =>
      go_wp2
      go_ret;exact⟨Zac (by rw[HV2.o];rfl),B2.o⟩
     | true =>
      go_wp2
      go_ret;exact⟨Zac (by rw[HV2.o];rfl),B2.o⟩
   ·have c1:((v:Int)==46)=false:=by rw[beq_eq_false_iff_ne];omega
    have HZ:Hid (∀ j,j<i+1->l.getD j 0≠46):=ħ (fun j hj=>by
     rcases đw j i with h | h
     ·exact hz.o j h
     ·obtain rfl:j=i:=by omega
      rw[HVV.o];exact h46)
    clear h46 hz
    go_wp2
    go_round
    case rel=>exact⟨i+1,by go_num,by omega,HZ⟩
    case measure=>simp only[intOf];omega
  ·have ii:¬ ((i:Int)<l.length):=by omega
   have HX:Hid (V=false):=ħ (by rw[HV.o,Zrp l (fun j hj=>hz.o j (by omega)),decide_eq_false (by omega)];rfl)
   go_wp2
   go_ret;exact⟨Zac HX.o.symm,B0.o⟩
theorem Zs4(κ:Int)(l r:List Nat)(c:Int)(ao:Option Addr)(n cap:Nat)(w:World)(hl:NmB l)(hr:NmB r) :
  Calls Tryz.prog 198 #[.agg #[.int .i64 κ,.string (Zad l),.string (Zad r),.int .i64 c,.slice ao n cap]] w fun e w'=>e = .returned (.bool (Zd9 κ l r c n))/\RowKit.Below w.heap.size w w':=by
 have bx:=(đc w.heap.size w).alloc (đd _) (.cells #[.int .i64 κ,.string (Zad l),.string (Zad r),.int .i64 c,.slice ao n cap] 54);have B1:=ħ bx;have X1:Hid (Zae (w.alloc (.cells #[.int .i64 κ,.string (Zad l),.string (Zad r),.int .i64 c,.slice ao n cap] 54)) w.heap.size 54 [.int .i64 κ,.string (Zad l),.string (Zad r),.int .i64 c,.slice ao n cap]):=ħ (heap_alloc_new w _);have H1:=ħ (fun W=>Zhq l W hl.2 hl.1);have H2:=ħ (fun W=>Zhq r W hr.2 hr.1);have HV:Hid (Zd9 κ l r c n=(κ==0&&(n==0&&((l==[]||Za5 l)&&((r==[]||Za5 r)&&(decide (-1099511627776<=c)&&decide (c<1099511627776))))))):=ħ rfl
 have HE:∀ m:List Nat,(Zad m).toList.isEmpty=(m==[]):=fun m=>by
  cases m with
  | nil=>exact Zc3.trans rfl
  | cons a b=>rw[Zdf _ (by simp)];rfl
 have he1:=HE l;have he2:=HE r;obtain⟨V,hV⟩:∃ V,Zd9 κ l r c n=V:=⟨_,rfl⟩;rw[hV] at HV ⊢;clear bx hl hr HE hV;generalize (l==[])=e1 at *;generalize (r==[])=e2 at *;generalize Za5 l=v1 at *;generalize Za5 r=v2 at *;generalize Zad l=y at *;generalize Zad r=z at *
 go_enter Tryz.func198,Tryz.ntmps198
 go_upto_region 1 with(fail)
 generalize w.alloc (.cells #[.int .i64 κ,.string y,.string z,.int .i64 c,.slice ao n cap] 54)=w1 at *;have x0:=X1.o.cell 0 _ rfl;have x1:=X1.o.cell 1 _ rfl;have x2:=X1.o.cell 2 _ rfl;have x3:=X1.o.cell 3 _ rfl;have x4:=X1.o.cell 4 _ rfl;by_cases k0:κ=0
 ·have k0b:(κ==0)=true:=beq_iff_eq.mpr k0
  rw[k0b,đk] at HV;clear k0;by_cases n0:n=0
  ·have n0b:(n==0)=true:=beq_iff_eq.mpr n0
   have n0c:((n:Int)==0)=true:=by rw[n0];rfl
   rw[n0b,đk] at HV;clear n0 n0b
   cases e1 with
   | true =>
    rw[Bool.true_or,đk] at HV
    cases e2 with
    | true =>
     rw[Bool.true_or,đk] at HV;by_cases c1:-1099511627776<=c
     ·rw[decide_eq_true c1,đk] at HV
      go_wp2
      go_ret;exact⟨Zac (by rw[HV.o]),B1.o⟩
     ·rw[decide_eq_false c1,đq] at HV
      go_wp2
      go_ret;exact⟨Zac (by rw[HV.o]),B1.o⟩
    | false =>
     rw[Bool.false_or] at HV
     go_wp2_with fail
     refine(H2.o w1).mono ?_;rintro e w2 ⟨rfl,b2⟩;have B2:=ħ (B1.o.trans (b2.mono B1.o.size));have X2:=ħ (X1.o.step b2);clear b2 x0 x1 x2 x3 x4;have x3:=X2.o.cell 3 _ rfl
     cases v2 with
     | false =>
      rw[đq] at HV
      go_wp2
      go_ret;exact⟨Zac (by rw[HV.o]),B2.o⟩
     | true =>
      rw[đk] at HV;by_cases c1:-1099511627776<=c
      ·rw[decide_eq_true c1,đk] at HV
       go_wp2
       go_ret;exact⟨Zac (by rw[HV.o]),B2.o⟩
      ·rw[decide_eq_false c1,đq] at HV
       go_wp2
       go_ret;exact⟨Zac (by rw[HV.o]),B2.o⟩
   | false =>
    rw[Bool.false_or] at HV
    go_wp2_with fail
    refine(H1.o w1).mono ?_;rintro e w2 ⟨rfl,b2⟩;have B2:=ħ (B1.o.trans (b2.mono B1.o.size));have X2:=ħ (X1.o.step b2);clear b2 x0 x1 x2 x3 x4;have x2:=X2.o.cell 2 _ rfl;have x3:=X2.o.cell 3 _ rfl
    cases v1 with
    | false =>
     rw[đq] at HV
     go_wp2
     go_ret;exact⟨Zac (by rw[HV.o]),B2.o⟩
    | true =>
     rw[đk] at HV
     cases e2 with
     | true =>
      rw[Bool.true_or,đk] at HV;by_cases c1:-1099511627776<=c
      ·rw[decide_eq_true c1,đk] at HV
       go_wp2
       go_ret;exact⟨Zac (by rw[HV.o]),B2.o⟩
      ·rw[decide_eq_false c1,đq] at HV
       go_wp2
       go_ret;exact⟨Zac (by rw[HV.o]),B2.o⟩
     | false =>
      rw[Bool.false_or] at HV
      go_wp2_with fail
      refine(H2.o w2).mono ?_;rintro e w3 ⟨rfl,b3⟩;have B3:=ħ (B2.o.trans (b3.mono B2.o.size));have X3:=ħ (X2.o.step b3);clear b3 x2 x3;have x3:=X3.o.cell 3 _ rfl
      cases v2 with
      | false =>
       rw[đq] at HV
       go_wp2
       go_ret;exact⟨Zac (by rw[HV.o]),B3.o⟩
      | true =>
       rw[đk] at HV;by_cases c1:-1099511627776<=c
       ·rw[decide_eq_true c1,đk] at HV
        go_wp2
        go_ret;exact⟨Zac (by rw[HV.o]),B3.o⟩
       ·rw[decide_eq_false c1,đq] at HV
        go_wp2
        go_ret;exact⟨Zac (by rw[HV.o]),B3.o⟩
  ·have n0b:(n==0)=false:=beq_eq_false_iff_ne.mpr n0
   have n0c:((n:Int)==0)=false:=by rw[beq_eq_false_iff_ne];omega
   rw[n0b,đq] at HV;clear n0 n0b
   go_wp2
   go_ret;exact⟨Zac (by rw[HV.o]),B1.o⟩
 ·have k0b:(κ==0)=false:=beq_eq_false_iff_ne.mpr k0
  rw[k0b,đq] at HV;clear k0
  go_wp2
  go_ret;exact⟨Zac (by rw[HV.o]),B1.o⟩
end
end Go.Proofs.YtbcgocpihobjnaaGreatDoor
