import Derived.Shelf.SlSortCmp.NoneTotal
import Derived.Deep.OwnRows
import Derived.Test.YtbcgocpihobjnaaGreatDoorCL22
import Derived.Test.YtbcgocpihobjnaaGreatDoorShelf
set_option linter.all false
set_option maxHeartbeats 8000000
set_option maxRecDepth 100000
namespace Go.Proofs.YtbcgocpihobjnaaGreatDoor
section
open Go.RowKit Go.Sort
theorem Kx:(Tryz.prog.info? 4).map (fun i=>(i.zero,i.size,i.bytes))=some (some (.bool false),1,1):=by kernel_rfl
def bvs(bs:List Bool):List Value:=bs.map Value.bool
theorem zY(bs:List Bool)(i:Nat)(v:Bool):bvs (bs.set i v)=(bvs bs).set i (.bool v):=by unfold bvs;rw[List.map_set]
theorem Vv(N:Nat):(madeCells #[Value.bool false] N)=(bvs (List.replicate N false)).toArray:=by
 apply Array.ext
 ·simp[madeCells,bvs]
 ·intro i h1 h2
  simp[madeCells,bvs,Nat.mod_one]
end
section
open Go.RowKit Go.Sort
theorem DN:∀ l:List Nat,(∀ y∈l,y<256)->Lib.index (l.map UInt8.ofNat) [46]=if bL bO l<l.length then(bL bO l:Int) else -1
 | [],_=>rfl
 | c::l,h=>by
  have hc:=h c (List.mem_cons_self ..);have ih:=DN l (fun y hy=>h y (List.mem_cons_of_mem _ hy))
  have hp:([46]:List UInt8).isPrefixOf (UInt8.ofNat c::l.map UInt8.ofNat)=(c==46):=by
   rw[Bool.eq_iff_iff];simp only[List.isPrefixOf_cons_cons,List.isPrefixOf_nil_left,Bool.and_true,beq_iff_eq];rw[<- UInt8.toNat_inj];simp[Nat.mod_eq_of_lt hc];exact eq_comm
  rw[List.map_cons,Lib.index,hp];by_cases xL:c=46
  ·subst xL
   have:bL bO (46::l)=0:=by simp[bL,bO]
   rw[this];simp
  ·have hn:bO c=true:=by simp[bO,xL]
   have:bL bO (c::l)=bL bO l+1:=by unfold bL;rw[List.takeWhile_cons,if_pos hn];rfl
   have h46b:(c==46)=false:=by rw[beq_eq_false_iff_ne];exact xL
   rw[this,h46b,List.length_cons];by_cases hl:bL bO l<l.length
   ·rw[if_pos hl] at ih
    have e1:((bL bO l:Int) == -1)=false:=by rw[beq_eq_false_iff_ne];omega
    rw[ih,e1,if_pos (show bL bO l+1<l.length+1 by omega)];simp
   ·rw[if_neg hl] at ih
    rw[ih,if_neg (show ¬ bL bO l+1<l.length+1 by omega)];simp
theorem UC(l:List Nat):(aB l).data.toList=l.map UInt8.ofNat:=by simp[aB]
theorem Z12(l:List Nat):(⟨(l.map UInt8.ofNat).toArray⟩:ByteArray)=aB l:=rfl
theorem Z13(l:List Nat)(hb:∀ y∈l,y<256):Lib.cut (aB l).data.toList (⟨#[46]⟩:ByteArray).data.toList=(if bL bO l<l.length then((l.take (bL bO l)).map UInt8.ofNat,(l.drop (bL bO l+1)).map UInt8.ofNat,true) else(l.map UInt8.ofNat,[],false)):=by
 unfold Lib.cut;rw[UC];show(if 0<=Lib.index (l.map UInt8.ofNat) [46] then _ else _)=_;rw[DN l hb];by_cases h:bL bO l<l.length
 ·rw[if_pos h,if_pos h,if_pos (by omega)]
  simp[List.map_take,List.map_drop]
 ·rw[if_neg h,if_neg h,if_neg (by omega)]
theorem UD(l:List Nat)(w:World)(B:Nat)(hT:Tab w B)(hl:l.length<=1000000)(hb:∀ y∈l,y<256) :
  Calls Tryz.prog 145 #[.string (aB l)] w fun e w'=>e = .returned (.bool (iG l))/\∃ n,w'=w.drewN n:=by
 obtain⟨mm,qG⟩:=hT.maxl;have HC:=I (Tryz.strings_Cut (aB l) ⟨#[46]⟩ mm w (by rw[tH];omega) qG);rw[Z13 l hb] at HC;have HF:=I (fun(m:List Nat) (n:Nat) h1 h2=>UE m (w.drewN n) B (hT.keep (fun _ _=>rfl) (aO _)) h1 h2);have HB:=I hb;have qH:=I hl;have HV:Hid (iG l=(decide (bL bO l<l.length)&&(gX (l.take (bL bO l))&&gX (l.drop (bL bO l+1))))):=I rfl;clear hT qG hb hl;by_cases h:bL bO l<l.length
 ·rw[decide_eq_true h,cH] at HV
  rw[if_pos h] at HC;simp only[Z12] at HC;have H1:=I (fun n=>HF.o (l.take (bL bO l)) n (by rw[List.length_take];have:=qH.o;omega) (fun y hy=>HB.o y (List.mem_of_mem_take hy)));have H2:=I (fun n=>HF.o (l.drop (bL bO l+1)) n (by rw[List.length_drop];have:=qH.o;omega) (fun y hy=>HB.o y (List.mem_of_mem_drop hy)));generalize gX (l.take (bL bO l))=b1 at *;generalize gX (l.drop (bL bO l+1))=b2 at *;generalize aB (l.take (bL bO l))=s1 at *;generalize aB (l.drop (bL bO l+1))=s2 at *;generalize iG l=V at *;clear h HF HB qH;generalize aB l=s0 at *
  go_enter Tryz.func145,Tryz.ntmps145
  go_wp2_with fail
  refine HC.o.mono ?_;rintro e w1 ⟨rfl,n,rfl⟩
  go_wp2_with fail
  refine(H1.o n).mono ?_;rintro e w2 ⟨rfl,rfl⟩
  cases b1 with
  | true =>
   go_wp2_with fail
   refine(H2.o n).mono ?_;rintro e w3 ⟨rfl,rfl⟩
   go_wp2
   go_ret;exact⟨aF (by rw[HV.o];rfl),n,rfl⟩
  | false =>
   go_wp2
   go_ret;exact⟨aF (by rw[HV.o];rfl),n,rfl⟩
 ·rw[decide_eq_false h,dS] at HV
  rw[if_neg h] at HC;generalize iG l=V at *;generalize l.map UInt8.ofNat=lm at *;clear h HF HB qH;generalize aB l=s0 at *
  go_enter Tryz.func145,Tryz.ntmps145
  go_wp2_with fail
  refine HC.o.mono ?_;rintro e w1 ⟨rfl,n,rfl⟩
  go_wp2
  go_ret;exact⟨aF HV.o.symm,n,rfl⟩
theorem UF(l:List Nat)(w:World)(B:Nat)(hT:Tab w B)(hl:l.length<=1000000)(hb:∀ y∈l,y<256) :
  Calls Tryz.prog 209 #[.string (aB l)] w fun e w'=>e = .returned (.bool (nF l))/\∃ n,w'=w.drewN n:=by
 have HN:=I (UD l w B hT hl hb);have HV:Hid (nF l=(l==[]||iG l)):=I rfl;clear hT hl;by_cases h0:l=[]
 ·have he:=Kz
  rw[h0] at HV ⊢;generalize nF []=V at *;clear HN h0;generalize aB []=s at *
  go_enter Tryz.func209,Tryz.ntmps209
  go_wp2
  go_ret;exact⟨aF (by rw[HV.o];rfl),0,rfl⟩
 ·have he:=Hp l (fun h=>h0 (List.eq_nil_of_length_eq_zero h))
  have Xa:(l==[])=false:=by rw[beq_eq_false_iff_ne];exact h0
  rw[Xa,Bool.false_or] at HV;clear hb Xa h0;generalize iG l=v at *;generalize nF l=V at *;generalize aB l=s at *
  go_enter Tryz.func209,Tryz.ntmps209
  go_wp2_with fail
  refine HN.o.mono ?_;rintro e w2 ⟨rfl,n,rfl⟩
  go_wp2
  go_ret;exact⟨aF HV.o.symm,n,rfl⟩
end
section
open Go.RowKit Go.Sort
def NmB(l:List Nat):Prop:=(∀ y∈l,y<256)/\l.length<=1000000
mutual
def tI:Prd->Prop
 | .mk k l r c ks=>NmB l/\NmB r/\zZ ks
def zZ:List Prd->Prop
 | []=>True
 | p::ps=>tI p/\zZ ps
end
theorem Vw:∀ ks:List Prd,zZ ks↔∀ q∈ks,tI q
 | []=>by simp[zZ]
 | p::ps=>by simp[zZ,Vw ps]
def oV(κ:Int)(l r:List Nat)(c:Int)(n:Nat):Bool:=κ==0&&(n==0&&(nF l&&(nF r&&(decide (-1099511627776<=c)&&decide (c<1099511627776)))))
theorem vN{w w':World}(h:∃ n,w'=w.drewN n):Below w.heap.size w w':=by obtain⟨n,rfl⟩:=h;exact below_drewN (aG _ _) n
theorem Zvs(κ:Int)(l r:List Nat)(c:Int)(ao:Option Addr)(n cap:Nat)(w:World)(B:Nat)(hT:Tab w B)(hl:NmB l)(hr:NmB r) :
  Calls Tryz.prog 177 #[.agg #[.int .i64 κ,.string (aB l),.string (aB r),.int .i64 c,.slice ao n cap]] w fun e w'=>e = .returned (.bool (oV κ l r c n))/\Below w.heap.size w w':=by
 have bx:=bwA w (.cells #[.int .i64 κ,.string (aB l),.string (aB r),.int .i64 c,.slice ao n cap] 54);have B1:=I bx;have X1:=hnw w 54 [.int .i64 κ,.string (aB l),.string (aB r),.int .i64 c,.slice ao n cap];have TT:Hid (∀ W:World,Below w.heap.size w W->Tab W B):=I (fun W hW=>hT.keep (fun k hk=>hW.block k (gR hk hT.size)) hW.size);have H1:=I (fun W hW=>UF l W B (TT.o W hW) hl.2 hl.1);have H2:=I (fun W hW=>UF r W B (TT.o W hW) hr.2 hr.1);have HV:Hid (oV κ l r c n=(κ==0&&(n==0&&(nF l&&(nF r&&(decide (-1099511627776<=c)&&decide (c<1099511627776))))))):=I rfl;clear bx hT hl hr TT;generalize oV κ l r c n=V at *;generalize nF l=b1 at *;generalize nF r=b2 at *;generalize aB l=y at *;generalize aB r=z at *
 go_enter Tryz.func177,Tryz.ntmps177
 go_upto_region 2 with(fail)
 generalize w.alloc (.cells #[.int .i64 κ,.string y,.string z,.int .i64 c,.slice ao n cap] 54)=w1 at *;obtain⟨x0,x1,x2,x3,x4⟩:=X1.o.c5;by_cases k0:κ=0
 ·have k0b:(κ==0)=true:=beq_iff_eq.mpr k0
  rw[k0b,cH] at HV;clear k0;by_cases n0:n=0
  ·have n0b:(n==0)=true:=beq_iff_eq.mpr n0
   have n0c:((n:Int)==0)=true:=by rw[n0];rfl
   rw[n0b,cH] at HV;clear n0
   go_wp2_with fail
   refine(H1.o w1 B1.o).mono ?_;rintro e w2 ⟨rfl,d2⟩;have B2:=I (B1.o.trans ((vN d2).mono B1.o.size));have X2:=I (X1.o.step (vN d2));clear d2 x0 x1 x2 x3 x4;obtain⟨x0,x1,x2,x3,x4⟩:=X2.o.c5
   cases b1 with
   | true =>
    rw[cH] at HV
    go_wp2_with fail
    refine(H2.o w2 B2.o).mono ?_;rintro e w3 ⟨rfl,d3⟩;have B3:=I (B2.o.trans ((vN d3).mono B2.o.size));have X3:=I (X2.o.step (vN d3));clear d3 x0 x1 x2 x3 x4;have x3:=X3.o.cell 3 _ rfl
    cases b2 with
    | true =>
     rw[cH] at HV;by_cases c1:-1099511627776<=c
     ·have c1b:decide (-1099511627776<=c)=true:=decide_eq_true c1
      rw[c1b,cH] at HV;clear c1
      go_wp2
      go_ret;exact⟨aF HV.o.symm,B3.o⟩
     ·have c1b:decide (-1099511627776<=c)=false:=decide_eq_false c1
      rw[c1b,dS] at HV;clear c1
      go_wp2
      go_ret;exact⟨aF HV.o.symm,B3.o⟩
    | false =>
     rw[dS] at HV
     go_wp2
     go_ret;exact⟨aF HV.o.symm,B3.o⟩
   | false =>
    rw[dS] at HV
    go_wp2
    go_ret;exact⟨aF HV.o.symm,B2.o⟩
  ·have n0b:(n==0)=false:=beq_eq_false_iff_ne.mpr n0
   have n0c:((n:Int)==0)=false:=by rw[beq_eq_false_iff_ne];omega
   rw[n0b,dS] at HV;clear n0
   go_wp2
   go_ret;exact⟨aF HV.o.symm,B1.o⟩
 ·have k0b:(κ==0)=false:=beq_eq_false_iff_ne.mpr k0
  rw[k0b,dS] at HV;clear k0
  go_wp2
  go_ret;exact⟨aF HV.o.symm,B1.o⟩
end
section
open Go.RowKit Go.Sort
structure PrF (C:World->Prop) (P:Nat->Prop) (g:Nat) (cb:Array Value) (f:Prd->Bool) (S:Prd->Prop):Prop where
 enters:∀ args w,(callFunc g args).run Tryz.prog w = .ok (.enter g args) w
 step:∀ w w',C w->Below w.heap.size w w'->C w'
 calls:∀ q w vs,S q->cK w P q vs->C w->Calls Tryz.prog g (#[.agg vs.toArray]++cb) w fun e w'=>e = .returned (.bool (f q))/\Below w.heap.size w w'
def Vx(f:Prd->Bool)(ks:List Prd):Int:=match ks.findIdx? f with
 | some i=>(i:Int)
 | none=>-1
theorem Zzr (w:World) (P:Nat->Prop) (ks:List Prd) (ao:Option Addr) (n cap:Nat) (hn:n=ks.length) (bN:n<=1000000)
  (hk:ks=[]\/∃ g off,ao=some ⟨g,off,none⟩/\P g/\g<w.heap.size/\gE w P ks g off)
  (C:World->Prop) (g:Nat) (cb:Array Value) (f:Prd->Bool) (S:Prd->Prop) (hf:PrF C P g cb f S) (hS:∀ q∈ks,S q) (hC:C w) :
  Calls Tryz.prog 135 #[.slice ao n cap,.func (.func g) #[] cb] w fun e w'=>e = .returned (.int .i64 (Vx f ks))/\Below w.heap.size w w':=by
 have HK:=I hk;have HN:=I hn;have HS:=I hS;have bQ:=I hf.step;have yW:=I hf.calls;have eg:=hf.enters;have HI:Hid (Vx f ks=match ks.findIdx? f with | some i=>(i:Int) | none=>-1):=I rfl;obtain⟨V,hV⟩:=exq (Vx f ks);rw[hV] at HI ⊢;have C0:=I hC;have B0:=I (aG w.heap.size w);clear hk hn hS hC hf hV
 go_enter Tryz.func135,Tryz.ntmps135
 go_wp2_with fail
 go_loopw [8] (fun cc wr=>∃ (i:Nat),cc = .int .i64 i/\i<=n/\Hid (Below w.heap.size w wr)/\Hid (C wr)/\Hid (∀ j k,j<i->ks[j]?=some k->f k=false)) (fun c _=>(n-intOf c).toNat)
 case atStart=>exact⟨0,rfl,by omega,B0,C0,I (fun j k hj=>absurd hj (jU j))⟩
 case round =>
  clear B0 C0;obtain⟨i,rfl,hi,hw,hc,nK⟩:=hrel;have e2:=w1i i (by omega);by_cases aE:i<n
  ·have ii:(i:Int)<n:=by omega
   have HQ:Hid (∃ q,ks[i]?=some q/\∃ g off,ao=some ⟨g,off,none⟩/\g<w.heap.size/\∃ vs,cK wr P q vs/\dD wr g (off+i*5) vs):=I (by
    have hl:i<ks.length:=by rw[<- HN.o];exact aE
    refine⟨ks[i],aL hl,?_⟩;rcases HK.o with h | ⟨g,off,h1,h2,h3,h4⟩
    ·rw[h] at hl;exact absurd hl (jU _)
    ·obtain⟨vs,nU,qD⟩:=gE.at ks g off i _ (aL hl) h4
     exact⟨g,off,h1,h3,vs,nU.below hw.o,qD.of_block (hw.o.block g h3)⟩)
   obtain⟨q,bX,gk,off,bI,hg,vs,bH,aH⟩:=HQ.o;clear HQ;have gZ:=I bX;obtain⟨xa,xn,xc,mS,-⟩:=bH.form;rw[mS] at aH bH;have PC:=I bH;have s0:=aH 0 _ rfl;have s1:=aH 1 _ rfl;have s2:=aH 2 _ rfl;have s3:=aH 3 _ rfl;have s4:=aH 4 _ rfl;clear aH bH mS vs bX;rw[Nat.add_zero] at s0;have mT:=I bI;subst bI;generalize q.k=q0 at *;generalize aB q.l=q1 at *;generalize aB q.r=q2 at *;generalize q.c=q3 at *
   go_wp2_with fail
   refine(yW.o q wr _ (HS.o q (bU gZ.o)) PC.o hc.o).mono ?_;rintro e w3 ⟨rfl,b3⟩;have kA:=hw.tr b3;have qE:=I (bQ.o _ _ hc.o b3);clear b3 s0 s1 s2 s3 s4 hw hc PC
   cases hq:f q with
   | true =>
    have HX:Hid (V=(i:Int)):=I (by
     have nV:i<ks.length:=by rw[<- HN.o];exact aE
     have:ks.findIdx? f=some i:=by
      rw[List.findIdx?_eq_some_iff_getElem];refine⟨nV,?_,fun j hj=>?_⟩
      ·have:ks[i]=q:=by have:=gZ.o;rw[aL nV] at this;exact bF this
       rw[this];exact hq
      ·have:=nK.o j ks[j] hj (aL (by omega))
       simp[this]
     rw[HI.o,this])
    clear hq
    go_wp2
    go_ret;exact⟨mI HX.o.symm,kA.o⟩
   | false =>
    have Bu:=I hq;clear hq
    go_wp2
    go_roundw
    case rel=>exact⟨i+1,by go_num,by omega,kA,qE,I (fun j k' hj kZ=>by
     rcases gQ j i with h | h
     ·exact nK.o j k' h kZ
     ·obtain rfl:j=i:=by omega
      rw[gZ.o] at kZ;obtain rfl:=bF kZ
      exact Bu.o)⟩
    case measure=>simp only[intOf];omega
  ·have ii:¬ ((i:Int)<n):=by omega
   have HX:Hid (V = -1):=I (by
    have:ks.findIdx? f=none:=by
     rw[List.findIdx?_eq_none_iff];intro k hk;obtain⟨j,hj⟩:=pV.1 hk;have pF:=(fD.1 hj).1;exact nK.o j k (by rw[<- HN.o] at pF;omega) hj
    rw[HI.o,this])
   go_wp2
   go_ret;exact⟨mI HX.o.symm,hw.o⟩
theorem Zzs(f:Prd->Bool)(ks:List Prd):decide (0<=Vx f ks)=ks.any f:=by
 unfold Vx
 cases h:ks.findIdx? f with
 | none =>
  rw[List.findIdx?_eq_none_iff] at h
  have:ks.any f=false:=by rw[List.any_eq_false];intro x hx;simp[h x hx]
  rw[this];rfl
 | some i =>
  rw[List.findIdx?_eq_some_iff_getElem] at h;obtain⟨h1,h2,_⟩:=h;have:ks.any f=true:=List.any_eq_true.2 ⟨_,List.getElem_mem h1,h2⟩;rw[this];show decide (0<=(i:Int))=true;exact decide_eq_true (by omega)
theorem UG (w:World) (P:Nat->Prop) (ks:List Prd) (ao:Option Addr) (n cap:Nat) (hn:n=ks.length) (bN:n<=1000000)
  (hk:ks=[]\/∃ g off,ao=some ⟨g,off,none⟩/\P g/\g<w.heap.size/\gE w P ks g off)
  (C:World->Prop) (g:Nat) (cb:Array Value) (f:Prd->Bool) (S:Prd->Prop) (hf:PrF C P g cb f S) (hS:∀ q∈ks,S q) (hC:C w) :
  Calls Tryz.prog 72 #[.slice ao n cap,.func (.func g) #[] cb] w fun e w'=>e = .returned (.bool (ks.any f))/\Below w.heap.size w w':=by
 have HC:=I (Zzr w P ks ao n cap hn bN hk C g cb f S hf hS hC);have HV:=I (Zzs f ks);generalize Vx f ks=x at *;generalize ks.any f=V at *;clear hk hf hS hC hn
 go_enter Tryz.func72,Tryz.ntmps72
 go_wp2_with fail
 refine HC.o.mono ?_;rintro e w3 ⟨rfl,b3⟩;have B3:=I b3;clear b3
 go_wp2
 go_ret;exact⟨aF (by rw[<- HV.o]),B3.o⟩
end
section
open Go.RowKit Go.Sort
def gS(B:Nat)(w:World):Prop:=Tab w B
theorem gS.step{B:Nat}{w w':World}(h:gS B w)(hb:Below w.heap.size w w'):gS B w':=Tab.keep h (fun k hk=>hb.block k (gR hk h.size)) hb.size
theorem Vy(k:Int)(l r:List Nat)(c:Int)(ks:List Prd):dV (.mk k l r c ks)=if k=0 then oV k l r c ks.length else(mK k ks.length c&&(l==[]&&(r==[]&&!(ks.any (fun q=>!dV q))))):=by
 rw[dV];by_cases h:k=0
 ·rw[if_pos h,if_pos h]
  unfold oV inC;subst h
  have:ks.isEmpty=(ks.length==0):=by cases ks<;>rfl
  rw[this];simp[Bool.and_assoc]
 ·rw[if_neg h,if_neg h]
  have:zX ks=!(ks.any (fun q=>!dV q)):=by
   rw[Bool.eq_iff_iff,DF];simp
  rw[this];simp[Bool.and_assoc]
theorem Zvt(l r:List Nat)(c:Int)(ao:Option Addr)(n cap:Nat)(w:World)(B:Nat)(hT:Tab w B)(hl:NmB l)(hr:NmB r) :
  Calls Tryz.prog 137 #[.agg #[.int .i64 0,.string (aB l),.string (aB r),.int .i64 c,.slice ao n cap]] w fun e w'=>e = .returned (.bool (oV 0 l r c n))/\Below w.heap.size w w':=by
 have bx:=bwA w (.cells #[.int .i64 0,.string (aB l),.string (aB r),.int .i64 c,.slice ao n cap] 54);have B1:=I bx;have X1:=hnw w 54 [.int .i64 0,.string (aB l),.string (aB r),.int .i64 c,.slice ao n cap];have HA:=I (fun W hW=>Zvs 0 l r c ao n cap W B (gS.step (w:=w) (w':=W) hT hW) hl hr);clear bx hT hl hr;generalize oV 0 l r c n=V at *;generalize aB l=y at *;generalize aB r=z at *
 go_enter Tryz.func137,Tryz.ntmps137
 go_upto_region 1 with(fail)
 generalize w.alloc (.cells #[.int .i64 0,.string y,.string z,.int .i64 c,.slice ao n cap] 54)=w1 at *;have x0:=X1.o.cell 0 _ rfl;have x4:=X1.o.cell 4 _ rfl
 go_wp2_with (refine wpList_load_row rfl 54 (.tmp 1) rfl w.heap.size ?x1 54 (lw 0 y z c ao n cap).toArray (0,0) _ X1.o Tryz.underlying54 rfl (oT _ rfl) ?_;(case x1=>rfl))
 refine(HA.o w1 B1.o).mono ?_;rintro e w2 ⟨rfl,b2⟩;have B2:=B1.tr b2;clear b2
 go_wp2
 go_ret;exact⟨rfl,B2.o⟩
theorem UH (w:World) (P:Nat->Prop) (κ:Int) (l r:List Nat) (c:Int) (ks:List Prd) (ao:Option Addr) (n cap:Nat) (hκ:κ≠0) (hn:n=ks.length) (bN:n<=1000000) (B:Nat) (hT:Tab w B)
  (hk:ks=[]\/∃ g off,ao=some ⟨g,off,none⟩/\P g/\g<w.heap.size/\gE w P ks g off)
  (ih:∀ (q:Prd) (w:World) (vs:List Value),q∈ks->cK w P q vs->Tab w B->Calls Tryz.prog 137 #[.agg vs.toArray] w fun e w'=>e = .returned (.bool (dV q))/\Below w.heap.size w w') :
  Calls Tryz.prog 137 #[.agg #[.int .i64 κ,.string (aB l),.string (aB r),.int .i64 c,.slice ao n cap]] w fun e w'=>e = .returned (.bool (dV (.mk κ l r c ks)))/\Below w.heap.size w w':=by
 have HV:Hid (dV (.mk κ l r c ks)=(mK κ n c&&(l==[]&&(r==[]&&!(ks.any (fun q=>!dV q)))))):=I (by rw[Vy,if_neg hκ,hn]);obtain⟨V,hV⟩:=exq (dV (.mk κ l r c ks));rw[hV] at HV ⊢;clear hV;have bx:=bwA w (.cells #[.int .i64 κ,.string (aB l),.string (aB r),.int .i64 c,.slice ao n cap] 54);have B1:=I bx;have X1:=hnw w 54 [.int .i64 κ,.string (aB l),.string (aB r),.int .i64 c,.slice ao n cap]
 have dW:∀ q W us,q∈ks->cK W P q us->Tab W B->Calls Tryz.prog 178 #[.agg us.toArray] W fun e w'=>e = .returned (.bool (!dV q))/\Below W.heap.size W w':=by
  intro q W us hq bH hTW;have HI:=I (fun W' us' h1 h2=>ih q W' us' hq h1 h2);obtain⟨xa,xn,xc,mS,-⟩:=bH.form;rw[mS] at bH ⊢;have gd:=bwA W (.cells #[.int .i64 q.k,.string (aB q.l),.string (aB q.r),.int .i64 q.c,.slice xa xn xc] 54);have Ga:=I (bH.below gd);have Jf:=I (gS.step (w:=W) hTW gd);have BY:=I gd;have Y1:=hnw W 54 [.int .i64 q.k,.string (aB q.l),.string (aB q.r),.int .i64 q.c,.slice xa xn xc];clear gd bH hTW mS ih;generalize q.k=q0 at *;generalize aB q.l=q1 at *;generalize aB q.r=q2 at *;generalize q.c=q3 at *
  go_enter Tryz.func178,Tryz.ntmps178
  go_wp2_with (refine wpList_load_row rfl 54 (.tmp 1) rfl W.heap.size ?x1 54 #[.int .i64 q0,.string q1,.string q2,.int .i64 q3,.slice xa xn xc] (0,0) _ Y1.o Tryz.underlying54 rfl (oT _ rfl) ?_;(case x1=>rfl))
  refine(HI.o _ _ Ga.o Jf.o).mono ?_;rintro e w2 ⟨rfl,b2⟩;have B2:=BY.tr b2;clear b2
  go_wp2
  go_ret;exact⟨rfl,B2.o⟩
 have Lu:Hid (PrF (gS B) P 178 #[] (fun q=>!dV q) (fun q=>q∈ks)):=I ⟨enters_of Tryz.func178 (by kernel_rfl) rfl,fun w w' h hb=>h.step hb,fun q w vs hq bH hC=>dW q w vs hq bH hC⟩
 have rQ:=I (fun W (hW:Below w.heap.size w W)=>UG W P ks ao n cap hn bN (by
  rcases hk with h | ⟨g,off,h1,h2,h3,h4⟩
  ·exact .inl h
  ·exact .inr ⟨g,off,h1,h2,gR h3 hW.size,gE.keep (fun x _ hx=>hW.block x hx) hW.size (fun _ h _=>h) ks g off h2 h3 h4⟩) (gS B) 178 #[] (fun q=>!dV q) (fun q=>q∈ks) Lu.o (fun q hq=>hq) (gS.step (w:=w) hT hW))
 obtain⟨A,hA⟩:∃ A,ks.any (fun q=>!dV q)=A:=⟨_,rfl⟩;simp only[hA] at rQ;rw[hA] at HV;have hκb:(κ==0)=false:=beq_eq_false_iff_ne.mpr hκ
 have tQ:Hid ((aB l).toList.isEmpty=(l==[])/\(aB r).toList.isEmpty=(r==[])):=I (by
  have:∀ m:List Nat,(aB m).toList.isEmpty=(m==[]):=fun m=>by
   cases m with
   | nil=>exact Kz.trans rfl
   | cons a b=>rw[Hp _ (by simp)];rfl
  exact⟨this l,this r⟩)
 have xM:=tQ.o.1;have xN:=tQ.o.2;generalize (l==[])=e1 at *;generalize (r==[])=e2 at *;clear bx hk ih hT hn hA hκ dW Lu tQ;generalize aB l=y at *;generalize aB r=z at *
 go_enter Tryz.func137,Tryz.ntmps137
 go_upto_region 1 with(fail)
 generalize w.alloc (.cells #[.int .i64 κ,.string y,.string z,.int .i64 c,.slice ao n cap] 54)=w1 at *;obtain⟨x0,x1,x2,x3,x4⟩:=X1.o.c5;have HB:Hid (mK κ n c=(((κ==1||κ==2)&&decide (2<=n)&&c==0)||(κ==3&&decide (1<=c)&&decide (c<=(n:Int))))):=I rfl;obtain⟨LB,hLB⟩:=exq (mK κ n c);rw[hLB] at HB HV;clear hLB;by_cases Bv:κ=1\/κ=2
 ·by_cases n2:n<2
  ·have fZ:Hid (V=false):=I (by
    have:LB=false:=by rw[HB.o];rcases Bv with h | h<;>subst h<;>simp<;>omega
    rw[HV.o,this,dS])
   clear HV HB rQ
   have j4:(n:Int)<2:=by omega
   clear n2;rcases Bv with h | h
   ·subst h
    go_wp2
    go_ret;exact⟨aF fZ.o.symm,B1.o⟩
   ·subst h
    go_wp2
    go_ret;exact⟨aF fZ.o.symm,B1.o⟩
  ·have j4:¬ (n:Int)<2:=by omega
   by_cases c0:c=0
   ·have fZ:Hid (V=(e1&&(e2&&!A))):=I (by
     have:LB=true:=by rw[HB.o];rcases Bv with h | h<;>subst h<;>simp[c0]<;>omega
     rw[HV.o,this,cH])
    clear HV HB n2
    rename Hid (V=_)=>HV
    subst c0;rcases Bv with h | h
    ·subst h
     cases e1 with
     | true =>
      cases e2 with
      | true =>
       rw[cH,cH] at HV
       go_wp2_with fail
       refine(rQ.o w1 B1.o).mono ?_;rintro e w2 ⟨rfl,b2⟩;have B2:=B1.tr b2;clear b2
       go_wp2
       go_ret;exact⟨aF HV.o.symm,B2.o⟩
      | false =>
       rw[cH,dS] at HV
       go_wp2
       go_ret;exact⟨aF HV.o.symm,B1.o⟩
     | false =>
      rw[dS] at HV
      go_wp2
      go_ret;exact⟨aF HV.o.symm,B1.o⟩
    ·subst h
     cases e1 with
     | true =>
      cases e2 with
      | true =>
       rw[cH,cH] at HV
       go_wp2_with fail
       refine(rQ.o w1 B1.o).mono ?_;rintro e w2 ⟨rfl,b2⟩;have B2:=B1.tr b2;clear b2
       go_wp2
       go_ret;exact⟨aF HV.o.symm,B2.o⟩
      | false =>
       rw[cH,dS] at HV
       go_wp2
       go_ret;exact⟨aF HV.o.symm,B1.o⟩
     | false =>
      rw[dS] at HV
      go_wp2
      go_ret;exact⟨aF HV.o.symm,B1.o⟩
   ·have fZ:Hid (V=false):=I (by
     have:LB=false:=by rw[HB.o];rcases Bv with h | h<;>subst h<;>simp[c0]
     rw[HV.o,this,dS])
    have c0b:(c==0)=false:=beq_eq_false_iff_ne.mpr c0;clear HV HB rQ n2 c0;rcases Bv with h | h
    ·subst h
     go_wp2
     go_ret;exact⟨aF fZ.o.symm,B1.o⟩
    ·subst h
     go_wp2
     go_ret;exact⟨aF fZ.o.symm,B1.o⟩
 ·have k1b:(κ==1)=false:=beq_eq_false_iff_ne.mpr (fun h=>Bv (.inl h))
  have k2b:(κ==2)=false:=beq_eq_false_iff_ne.mpr (fun h=>Bv (.inr h));clear Bv;by_cases k3:κ=3
  ·subst k3
   by_cases c1:c<1
   ·have fZ:Hid (V=false):=I (by
     have:LB=false:=by rw[HB.o];simp;omega
     rw[HV.o,this,dS])
    clear HV HB rQ
    go_wp2
    go_ret;exact⟨aF fZ.o.symm,B1.o⟩
   ·by_cases cn:(n:Int)<c
    ·have fZ:Hid (V=false):=I (by
      have:LB=false:=by rw[HB.o];simp;omega
      rw[HV.o,this,dS])
     clear HV HB rQ
     go_wp2
     go_ret;exact⟨aF fZ.o.symm,B1.o⟩
    ·have fZ:Hid (V=(e1&&(e2&&!A))):=I (by
      have:LB=true:=by rw[HB.o];simp;omega
      rw[HV.o,this,cH])
     clear HV HB
     rename Hid (V=_)=>HV
     cases e1 with
     | true =>
      cases e2 with
      | true =>
       rw[cH,cH] at HV
       go_wp2_with fail
       refine(rQ.o w1 B1.o).mono ?_;rintro e w2 ⟨rfl,b2⟩;have B2:=B1.tr b2;clear b2
       go_wp2
       go_ret;exact⟨aF HV.o.symm,B2.o⟩
      | false =>
       rw[cH,dS] at HV
       go_wp2
       go_ret;exact⟨aF HV.o.symm,B1.o⟩
     | false =>
      rw[dS] at HV
      go_wp2
      go_ret;exact⟨aF HV.o.symm,B1.o⟩
  ·have fZ:Hid (V=false):=I (by
     have:LB=false:=by rw[HB.o,k1b,k2b];simp[k3]
     rw[HV.o,this,dS])
   have k3b:(κ==3)=false:=beq_eq_false_iff_ne.mpr k3;clear HV HB rQ k3
   go_wp2
   go_ret;exact⟨aF fZ.o.symm,B1.o⟩
theorem UI:∀ (N:Nat) (p:Prd) (w:World) (P:Nat->Prop) (vs:List Value) (B:Nat),cO p<=N->N<=1000000->tI p->cK w P p vs->Tab w B ->
  Calls Tryz.prog 137 #[.agg vs.toArray] w fun e w'=>e = .returned (.bool (dV p))/\Below w.heap.size w w'
 | 0,p,w,P,vs,B,hN,_,_,_,_=>by have:=Hl p;omega
 | N+1,.mk κ l r c ks,w,P,vs,B,hN,hM,hb,h,hT=>by
  have uL:cR ks<=N:=by unfold cO at hN;omega
  have hl:=Hm ks;unfold cK at h;unfold tI at hb;obtain⟨ao,cap,rfl,hk⟩:=h;by_cases hκ:κ=0
  ·subst hκ
   have:=Zvt l r c ao ks.length cap w B hT hb.1 hb.2.1;rw[Vy,if_pos rfl];exact this
  ·exact UH w P κ l r c ks ao ks.length cap hκ rfl (by omega) B hT hk (fun q w' us hq bH hT'=>UI N q w' P us B (by
    obtain⟨i,hi⟩:=pV.1 hq;have:=Hn ks i q hi
    omega) (by omega) ((Vw ks).1 hb.2.2 q hq) bH hT')
theorem Ba {P:Program} {ops:Array Oper} {rest:List Oper} {o:Oper} {a:Act} {w:World} {Q:Exit->Act->World->Prop} (hw:Region.wanted o (yielded ops a.tmps)=true) (ty:TypeId) (x:Operand) (ho:o.op = .load ty x)
  (g:Nat) (hx:a.eval x = .pointer (some ⟨g,0,none⟩)) (t:TypeId) (cs:Array Value) (fr:Nat×Nat) (d:TypeDesc) (hg:w.heap[g]?=some (.cells cs t fr))
  (hu:P.underlying ty=some d) (hd:(match d with | .struct _ | .array _ _=>true | _=>false)=true) (hi:(P.info? ty).map (·.size)=some cs.size)
  (h:wpList P ops Q rest (a.put o.dst (.agg cs)) w):wpList P ops Q (o::rest) a w :=
 BigFrame.wpList_want hw fun K hK=>wp_load_row ty x ho g hx t cs fr d hg hu hd hi (hK _ _ h)
theorem Zvu(p:Prd)(w:World)(P:Nat->Prop)(vs:List Value)(B:Nat)(hN:cO p<=1000000)(hb:tI p)(h:cK w P p vs)(hT:Tab w B) :
  Calls Tryz.prog 74 #[.agg vs.toArray] w fun e w'=>e = .returned (.bool (jV p))/\Below w.heap.size w w':=by
 obtain⟨xa,xn,xc,rfl,-⟩:=h.form;have bx:=bwA w (.cells #[.int .i64 p.k,.string (aB p.l),.string (aB p.r),.int .i64 p.c,.slice xa xn xc] 54);have B1:=I bx;have X1:=hnw w 54 [.int .i64 p.k,.string (aB p.l),.string (aB p.r),.int .i64 p.c,.slice xa xn xc];have HS:=I (fun W (hW:Below w.heap.size w W)=>RU W P p [.int .i64 p.k,.string (aB p.l),.string (aB p.r),.int .i64 p.c,.slice xa xn xc] (h.below hW) hN);have HF:=I (fun W (hW:Below w.heap.size w W)=>UI 1000000 p W P [.int .i64 p.k,.string (aB p.l),.string (aB p.r),.int .i64 p.c,.slice xa xn xc] B hN (aO _) hb (h.below hW) (gS.step (w:=w) hT hW));have HV:Hid (jV p=(sA p&&dV p)):=I rfl;obtain⟨V,hV⟩:=exq (jV p);rw[hV] at HV ⊢;clear bx h hT hb hN hV;generalize sA p=s at *;generalize dV p=f at *;generalize p.k=q0 at *;generalize aB p.l=q1 at *;generalize aB p.r=q2 at *;generalize p.c=q3 at *
 go_enter Tryz.func74,Tryz.ntmps74
 go_upto_region 1 with(fail)
 generalize w.alloc (.cells #[.int .i64 q0,.string q1,.string q2,.int .i64 q3,.slice xa xn xc] 54)=w1 at *
 go_wp2_with (refine wpList_load_row rfl 54 (.tmp 1) rfl w.heap.size ?x1 54 #[.int .i64 q0,.string q1,.string q2,.int .i64 q3,.slice xa xn xc] (0,0) _ X1.o Tryz.underlying54 rfl (oT _ rfl) ?_;(case x1=>rfl))
 refine(HS.o w1 B1.o).mono ?_;rintro e w2 ⟨rfl,b2⟩;have B2:=B1.tr b2;have X2:=I (X1.o.step b2);clear b2
 cases s with
 | false =>
  rw[dS] at HV
  go_wp2
  go_ret;exact⟨aF HV.o.symm,B2.o⟩
 | true =>
  rw[cH] at HV
  go_wp2_with (refine Ba (by rfl) 54 (.tmp 1) rfl w.heap.size ?x2 54 #[.int .i64 q0,.string q1,.string q2,.int .i64 q3,.slice xa xn xc] (0,0) _ X2.o Tryz.underlying54 rfl (oT _ rfl) ?_;(case x2=>rfl))
  refine(HF.o w2 B2.o).mono ?_;rintro e w3 ⟨rfl,b3⟩;have B3:=B2.tr b3;clear b3
  go_wp2
  go_ret;exact⟨aF HV.o.symm,B3.o⟩
end
section
open Go.RowKit Go.Sort Go.Maps
theorem UJ{H:Type}{P:Program}{e:TypeId}(he:P.underlying e=some .bool){v:Value}{x:Bool}{ps:List MemPlace}(h:plainElem (H:=H) P e v=some (.lit (.bool x),ps)):v = .bool x:=by
 unfold plainElem at h;rw[he] at h;cases v<;>simp at h;rw[h.1]
theorem Zvv(w:World):(zeroValue 4).run Tryz.prog w = .ok (.bool false) w:=Tryz.zeroValue4 w
end
section
open Go.RowKit Go.Sort
theorem OwnK.made(w:World)(T:TypeId)(k:Nat):OwnK (w.alloc (.cells #[] T)) w.heap.size k 0 0 [] (some ⟨w.heap.size,0,none⟩) :=
 .at w.heap.size 0 ⟨aO _,by simp,by simp,fun j u h=>by simp at h,fun j h=>by simp at h,fun j h=>by simp at h⟩ (by simp) (by simp[maxLen]) (aO _)
end
section
open Go.RowKit Go.Sort
theorem UK{α:Type}[DecidableEq α]:∀ (l m:List α),l.Nodup->(∀ x∈l,x∈m)->l.length<=m.length
 | [],m,_,_=>Nat.zero_le _
 | x::l,m,hd,hs=>by
  have hx:x∈m:=hs x (by simp);have GP:=List.nodup_cons.1 hd;have h:=UK l (m.erase x) GP.2 (fun y hy=>(List.mem_erase_of_ne (by rintro rfl;exact GP.1 hy)).2 (hs y (by simp[hy])));rw[List.length_erase_of_mem hx] at h;have:0<m.length:=List.length_pos_of_mem hx;rw[List.length_cons];omega
theorem Zvw{m:List Ky}(hm:wV m):m.Nodup:=hm.imp (fun {a b} uF e=>by rw[e,ld] at uF;cases uF)
section
variable {α:Type} {EL:World->(Nat->Prop)->α->List Value->Prop} {k base:Nat}
end
end
end Go.Proofs.YtbcgocpihobjnaaGreatDoor
