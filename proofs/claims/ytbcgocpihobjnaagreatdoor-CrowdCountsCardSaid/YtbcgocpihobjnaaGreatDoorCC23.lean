import Derived.Shelf.SlSortCmp.NoneTotal
import Derived.Deep.OwnRows
import Derived.Test.YtbcgocpihobjnaaGreatDoorCC22
import Derived.Test.YtbcgocpihobjnaaGreatDoorShelf
set_option linter.all false
set_option maxHeartbeats 8000000
set_option maxRecDepth 100000
namespace Go.Proofs.YtbcgocpihobjnaaGreatDoor
section
open Go.RowKit Go.Sort
theorem Zdl:(Tryz.prog.info? 4).map (fun i=>(i.zero,i.size,i.bytes))=some (some (.bool false),1,1):=by kernel_rfl
theorem RowM.lower{α:Type}{EL:World->(Nat->Prop)->α->List Value->Prop}(hE:Zok EL){k base base' lo lo':Nat}{wr:World}{bad:Nat->Prop}{ao:Option Addr}{n cp:Nat}{xs:List α}{vss:List (List Value)}(h:RowM EL k base wr lo bad ao n cp xs vss)(hb:base'<=base)(hl:lo'<=lo):RowM EL k base' wr lo' bad ao n cp xs vss :=
 ⟨h.own.lower hl,h.len,h.cnt,h.elk,fun i x vs hx hv=>hE wr wr _ _ x vs (fun _ _ _=>rfl) (đd _) (fun g hg _=>⟨đo hb hg.1,hg.2⟩) (h.each i x vs hx hv)⟩
def bvs(bs:List Bool):List Value:=bs.map Value.bool
theorem Zdp(bs:List Bool)(i:Nat)(v:Bool):bvs (bs.set i v)=(bvs bs).set i (.bool v):=by unfold bvs;rw[List.map_set]
theorem Zew(N:Nat):(madeCells #[Value.bool false] N)=(bvs (List.replicate N false)).toArray:=by
 apply Array.ext
 ·simp[madeCells,bvs]
 ·intro i h1 h2
  simp[madeCells,bvs,Nat.mod_one]
end
section
open Go.RowKit Go.Sort
theorem Zjq:∀ l:List Nat,(∀ y∈l,y<256)->Lib.index (l.map UInt8.ofNat) [46]=if Zbh Zai l<l.length then(Zbh Zai l:Int) else -1
 | [],_=>rfl
 | c::l,h=>by
  have hc:=h c (List.mem_cons_self ..);have ih:=Zjq l (fun y hy=>h y (List.mem_cons_of_mem _ hy))
  have hp:([46]:List UInt8).isPrefixOf (UInt8.ofNat c::l.map UInt8.ofNat)=(c==46):=by
   rw[Bool.eq_iff_iff];simp only[List.isPrefixOf_cons_cons,List.isPrefixOf_nil_left,Bool.and_true,beq_iff_eq];rw[<- UInt8.toNat_inj];simp[Nat.mod_eq_of_lt hc];exact eq_comm
  rw[List.map_cons,Lib.index,hp];by_cases h46:c=46
  ·subst h46
   have:Zbh Zai (46::l)=0:=by simp[Zbh,Zai]
   rw[this];simp
  ·have hn:Zai c=true:=by simp[Zai,h46]
   have:Zbh Zai (c::l)=Zbh Zai l+1:=by unfold Zbh;rw[List.takeWhile_cons,if_pos hn];rfl
   have h46b:(c==46)=false:=by rw[beq_eq_false_iff_ne];exact h46
   rw[this,h46b,List.length_cons];by_cases hl:Zbh Zai l<l.length
   ·rw[if_pos hl] at ih
    have e1:((Zbh Zai l:Int) == -1)=false:=by rw[beq_eq_false_iff_ne];omega
    rw[ih,e1,if_pos (show Zbh Zai l+1<l.length+1 by omega)];simp
   ·rw[if_neg hl] at ih
    rw[ih,if_neg (show ¬ Zbh Zai l+1<l.length+1 by omega)];simp
theorem Zol(l:List Nat):(Zad l).data.toList=l.map UInt8.ofNat:=by simp[Zad]
theorem Z17(l:List Nat):(⟨(l.map UInt8.ofNat).toArray⟩:ByteArray)=Zad l:=rfl
theorem Z18(l:List Nat)(hb:∀ y∈l,y<256):Lib.cut (Zad l).data.toList (⟨#[46]⟩:ByteArray).data.toList=(if Zbh Zai l<l.length then((l.take (Zbh Zai l)).map UInt8.ofNat,(l.drop (Zbh Zai l+1)).map UInt8.ofNat,true) else(l.map UInt8.ofNat,[],false)):=by
 unfold Lib.cut;rw[Zol];show(if 0<=Lib.index (l.map UInt8.ofNat) [46] then _ else _)=_;rw[Zjq l hb];by_cases h:Zbh Zai l<l.length
 ·rw[if_pos h,if_pos h,if_pos (by omega)]
  simp[List.map_take,List.map_drop]
 ·rw[if_neg h,if_neg h,if_neg (by omega)]
theorem Zom(l:List Nat)(w:World)(B:Nat)(hT:Tab w B)(hl:l.length<=1000000)(hb:∀ y∈l,y<256) :
  Calls Tryz.prog 145 #[.string (Zad l)] w fun e w'=>e = .returned (.bool (Za5 l))/\∃ n,w'=w.drewN n:=by
 obtain⟨mm,hmm⟩:=hT.maxl;have HC:=ħ (Tryz.strings_Cut (Zad l) ⟨#[46]⟩ mm w (by rw[Zbc];omega) hmm);rw[Z18 l hb] at HC;have HF:=ħ (fun(m:List Nat) (n:Nat) h1 h2=>Zsq m (w.drewN n) B (hT.keep (fun _ _=>rfl) (đd _)) h1 h2);have HB:=ħ hb;have HLL:=ħ hl;have HV:Hid (Za5 l=(decide (Zbh Zai l<l.length)&&(Zbz (l.take (Zbh Zai l))&&Zbz (l.drop (Zbh Zai l+1))))):=ħ rfl;clear hT hmm hb hl;by_cases h:Zbh Zai l<l.length
 ·rw[decide_eq_true h,đk] at HV
  rw[if_pos h] at HC;simp only[Z17] at HC;have H1:=ħ (fun n=>HF.o (l.take (Zbh Zai l)) n (by rw[List.length_take];have:=HLL.o;omega) (fun y hy=>HB.o y (List.mem_of_mem_take hy)));have H2:=ħ (fun n=>HF.o (l.drop (Zbh Zai l+1)) n (by rw[List.length_drop];have:=HLL.o;omega) (fun y hy=>HB.o y (List.mem_of_mem_drop hy)));generalize Zbz (l.take (Zbh Zai l))=b1 at *;generalize Zbz (l.drop (Zbh Zai l+1))=b2 at *;generalize Zad (l.take (Zbh Zai l))=s1 at *;generalize Zad (l.drop (Zbh Zai l+1))=s2 at *;generalize Za5 l=V at *;clear h HF HB HLL;generalize Zad l=s0 at *
  go_enter Tryz.func145,Tryz.ntmps145
  go_wp2_with fail
  refine HC.o.mono ?_;rintro e w1 ⟨rfl,n,rfl⟩
  go_wp2_with fail
  refine(H1.o n).mono ?_;rintro e w2 ⟨rfl,rfl⟩
  cases b1 with
  | true =>
   go_wp2_with fail
   refine(H2.o n).mono ?_;rintro e w3 ⟨rfl,rfl⟩
   go_wp2
   go_ret;exact⟨Zac (by rw[HV.o];rfl),n,rfl⟩
  | false =>
   go_wp2
   go_ret;exact⟨Zac (by rw[HV.o];rfl),n,rfl⟩
 ·rw[decide_eq_false h,đq] at HV
  rw[if_neg h] at HC;generalize Za5 l=V at *;generalize l.map UInt8.ofNat=lm at *;clear h HF HB HLL;generalize Zad l=s0 at *
  go_enter Tryz.func145,Tryz.ntmps145
  go_wp2_with fail
  refine HC.o.mono ?_;rintro e w1 ⟨rfl,n,rfl⟩
  go_wp2
  go_ret;exact⟨Zac HV.o.symm,n,rfl⟩
theorem Zrk(l:List Nat)(w:World)(B:Nat)(hT:Tab w B)(hl:l.length<=1000000)(hb:∀ y∈l,y<256) :
  Calls Tryz.prog 209 #[.string (Zad l)] w fun e w'=>e = .returned (.bool (Zil l))/\∃ n,w'=w.drewN n:=by
 have HN:=ħ (Zom l w B hT hl hb);have HV:Hid (Zil l=(l==[]||Za5 l)):=ħ rfl;clear hT hl;by_cases h0:l=[]
 ·have he:=Zc3
  rw[h0] at HV ⊢;generalize Zil []=V at *;clear HN h0;generalize Zad []=s at *
  go_enter Tryz.func209,Tryz.ntmps209
  go_wp2
  go_ret;exact⟨Zac (by rw[HV.o];rfl),0,rfl⟩
 ·have he:=Zdf l (fun h=>h0 (List.eq_nil_of_length_eq_zero h))
  have hbq:(l==[])=false:=by rw[beq_eq_false_iff_ne];exact h0
  rw[hbq,Bool.false_or] at HV;clear hb hbq h0;generalize Za5 l=v at *;generalize Zil l=V at *;generalize Zad l=s at *
  go_enter Tryz.func209,Tryz.ntmps209
  go_wp2_with fail
  refine HN.o.mono ?_;rintro e w2 ⟨rfl,n,rfl⟩
  go_wp2
  go_ret;exact⟨Zac HV.o.symm,n,rfl⟩
end
section
open Go.RowKit Go.Sort
def NmB(l:List Nat):Prop:=(∀ y∈l,y<256)/\l.length<=1000000
mutual
def Zon:Prd->Prop
 | .mk k l r c ks=>NmB l/\NmB r/\Zuq ks
def Zuq:List Prd->Prop
 | []=>True
 | p::ps=>Zon p/\Zuq ps
end
theorem Zfy:∀ ks:List Prd,Zuq ks↔∀ q∈ks,Zon q
 | []=>by simp[Zuq]
 | p::ps=>by simp[Zuq,Zfy ps]
def Zd9(κ:Int)(l r:List Nat)(c:Int)(n:Nat):Bool:=κ==0&&(n==0&&(Zil l&&(Zil r&&(decide (-1099511627776<=c)&&decide (c<1099511627776)))))
theorem Zbv{w w':World}(h:∃ n,w'=w.drewN n):Below w.heap.size w w':=by obtain⟨n,rfl⟩:=h;exact below_drewN (đc _ _) n
theorem Zvs(κ:Int)(l r:List Nat)(c:Int)(ao:Option Addr)(n cap:Nat)(w:World)(B:Nat)(hT:Tab w B)(hl:NmB l)(hr:NmB r) :
  Calls Tryz.prog 177 #[.agg #[.int .i64 κ,.string (Zad l),.string (Zad r),.int .i64 c,.slice ao n cap]] w fun e w'=>e = .returned (.bool (Zd9 κ l r c n))/\Below w.heap.size w w':=by
 have bx:=(đc w.heap.size w).alloc (đd _) (.cells #[.int .i64 κ,.string (Zad l),.string (Zad r),.int .i64 c,.slice ao n cap] 54);have B1:=ħ bx;have X1:Hid (Zae (w.alloc (.cells #[.int .i64 κ,.string (Zad l),.string (Zad r),.int .i64 c,.slice ao n cap] 54)) w.heap.size 54 [.int .i64 κ,.string (Zad l),.string (Zad r),.int .i64 c,.slice ao n cap]):=ħ (heap_alloc_new w _);have TT:Hid (∀ W:World,Below w.heap.size w W->Tab W B):=ħ (fun W hW=>hT.keep (fun k hk=>hW.block k (đm hk hT.size)) hW.size);have H1:=ħ (fun W hW=>Zrk l W B (TT.o W hW) hl.2 hl.1);have H2:=ħ (fun W hW=>Zrk r W B (TT.o W hW) hr.2 hr.1);have HV:Hid (Zd9 κ l r c n=(κ==0&&(n==0&&(Zil l&&(Zil r&&(decide (-1099511627776<=c)&&decide (c<1099511627776))))))):=ħ rfl;clear bx hT hl hr TT;generalize Zd9 κ l r c n=V at *;generalize Zil l=b1 at *;generalize Zil r=b2 at *;generalize Zad l=y at *;generalize Zad r=z at *
 go_enter Tryz.func177,Tryz.ntmps177
 go_upto_region 2 with(fail)
 generalize w.alloc (.cells #[.int .i64 κ,.string y,.string z,.int .i64 c,.slice ao n cap] 54)=w1 at *;have x0:=X1.o.cell 0 _ rfl;have x1:=X1.o.cell 1 _ rfl;have x2:=X1.o.cell 2 _ rfl;have x3:=X1.o.cell 3 _ rfl;have x4:=X1.o.cell 4 _ rfl;by_cases k0:κ=0
 ·have k0b:(κ==0)=true:=beq_iff_eq.mpr k0
  rw[k0b,đk] at HV;clear k0;by_cases n0:n=0
  ·have n0b:(n==0)=true:=beq_iff_eq.mpr n0
   have n0c:((n:Int)==0)=true:=by rw[n0];rfl
   rw[n0b,đk] at HV;clear n0
   go_wp2_with fail
   refine(H1.o w1 B1.o).mono ?_;rintro e w2 ⟨rfl,d2⟩;have B2:=ħ (B1.o.trans ((Zbv d2).mono B1.o.size));have X2:=ħ (X1.o.step (Zbv d2));clear d2 x0 x1 x2 x3 x4;have x0:=X2.o.cell 0 _ rfl;have x1:=X2.o.cell 1 _ rfl;have x2:=X2.o.cell 2 _ rfl;have x3:=X2.o.cell 3 _ rfl;have x4:=X2.o.cell 4 _ rfl
   cases b1 with
   | true =>
    rw[đk] at HV
    go_wp2_with fail
    refine(H2.o w2 B2.o).mono ?_;rintro e w3 ⟨rfl,d3⟩;have B3:=ħ (B2.o.trans ((Zbv d3).mono B2.o.size));have X3:=ħ (X2.o.step (Zbv d3));clear d3 x0 x1 x2 x3 x4;have x3:=X3.o.cell 3 _ rfl
    cases b2 with
    | true =>
     rw[đk] at HV;by_cases c1:-1099511627776<=c
     ·have c1b:decide (-1099511627776<=c)=true:=decide_eq_true c1
      rw[c1b,đk] at HV;clear c1
      go_wp2
      go_ret;exact⟨Zac HV.o.symm,B3.o⟩
     ·have c1b:decide (-1099511627776<=c)=false:=decide_eq_false c1
      rw[c1b,đq] at HV;clear c1
      go_wp2
      go_ret;exact⟨Zac HV.o.symm,B3.o⟩
    | false =>
     rw[đq] at HV
     go_wp2
     go_ret;exact⟨Zac HV.o.symm,B3.o⟩
   | false =>
    rw[đq] at HV
    go_wp2
    go_ret;exact⟨Zac HV.o.symm,B2.o⟩
  ·have n0b:(n==0)=false:=beq_eq_false_iff_ne.mpr n0
   have n0c:((n:Int)==0)=false:=by rw[beq_eq_false_iff_ne];omega
   rw[n0b,đq] at HV;clear n0
   go_wp2
   go_ret;exact⟨Zac HV.o.symm,B1.o⟩
 ·have k0b:(κ==0)=false:=beq_eq_false_iff_ne.mpr k0
  rw[k0b,đq] at HV;clear k0
  go_wp2
  go_ret;exact⟨Zac HV.o.symm,B1.o⟩
end
section
open Go.RowKit Go.Sort
structure PrF (C:World->Prop) (P:Nat->Prop) (g:Nat) (cb:Array Value) (f:Prd->Bool) (S:Prd->Prop):Prop where
 enters:∀ args w,(callFunc g args).run Tryz.prog w = .ok (.enter g args) w
 step:∀ w w',C w->Below w.heap.size w w'->C w'
 calls:∀ q w vs,S q->Zao w P q vs->C w->Calls Tryz.prog g (#[.agg vs.toArray]++cb) w fun e w'=>e = .returned (.bool (f q))/\Below w.heap.size w w'
def Z21(f:Prd->Bool)(ks:List Prd):Int:=match ks.findIdx? f with
 | some i=>(i:Int)
 | none=>-1
theorem Zzy (w:World) (P:Nat->Prop) (ks:List Prd) (ao:Option Addr) (n cap:Nat) (hn:n=ks.length) (hbig:n<=1000000)
  (hk:ks=[]\/∃ g off,ao=some ⟨g,off,none⟩/\P g/\g<w.heap.size/\Zbe w P ks g off)
  (C:World->Prop) (g:Nat) (cb:Array Value) (f:Prd->Bool) (S:Prd->Prop) (hf:PrF C P g cb f S) (hS:∀ q∈ks,S q) (hC:C w) :
  Calls Tryz.prog 135 #[.slice ao n cap,.func (.func g) #[] cb] w fun e w'=>e = .returned (.int .i64 (Z21 f ks))/\Below w.heap.size w w':=by
 have HK:=ħ hk;have HN:=ħ hn;have HS:=ħ hS;have HST:=ħ hf.step;have HCA:=ħ hf.calls;have eg:=hf.enters;have HI:Hid (Z21 f ks=match ks.findIdx? f with | some i=>(i:Int) | none=>-1):=ħ rfl;obtain⟨V,hV⟩:∃ V,Z21 f ks=V:=⟨_,rfl⟩;rw[hV] at HI ⊢;have C0:=ħ hC;have B0:=ħ (đc w.heap.size w);clear hk hn hS hC hf hV
 go_enter Tryz.func135,Tryz.ntmps135
 go_wp2_with fail
 go_loopw [8] (fun cc wr=>∃ (i:Nat),cc = .int .i64 i/\i<=n/\Hid (Below w.heap.size w wr)/\Hid (C wr)/\Hid (∀ j k,j<i->ks[j]?=some k->f k=false)) (fun c _=>(n-intOf c).toNat)
 case atStart=>exact⟨0,rfl,by omega,B0,C0,ħ (fun j k hj=>absurd hj (đu j))⟩
 case round =>
  clear B0 C0;obtain⟨i,rfl,hi,hw,hc,hno⟩:=hrel;have e2:IntKind.i64.wrap ((i:Int)+1)=((i+1:Nat):Int):=đh _ (by omega);by_cases hlt:i<n
  ·have ii:(i:Int)<n:=by omega
   have HQ:Hid (∃ q,ks[i]?=some q/\∃ g off,ao=some ⟨g,off,none⟩/\g<w.heap.size/\∃ vs,Zao wr P q vs/\Zav wr g (off+i*5) vs):=ħ (by
    have hl:i<ks.length:=by rw[<- HN.o];exact hlt
    refine⟨ks[i],đb hl,?_⟩;rcases HK.o with h | ⟨g,off,h1,h2,h3,h4⟩
    ·rw[h] at hl;exact absurd hl (đu _)
    ·obtain⟨vs,hv1,hv2⟩:=Zbe.at ks g off i _ (đb hl) h4
     exact⟨g,off,h1,h3,vs,hv1.below hw.o,hv2.of_block (hw.o.block g h3)⟩)
   obtain⟨q,hqi,gk,off,hao,hg,vs,hpc,hrd⟩:=HQ.o;clear HQ;have HQI:=ħ hqi;obtain⟨xa,xn,xc,hvf,-⟩:=hpc.form;rw[hvf] at hrd hpc;have PC:=ħ hpc;have s0:=hrd 0 _ rfl;have s1:=hrd 1 _ rfl;have s2:=hrd 2 _ rfl;have s3:=hrd 3 _ rfl;have s4:=hrd 4 _ rfl;clear hrd hpc hvf vs hqi;rw[Nat.add_zero] at s0;have HAO:=ħ hao;subst hao;generalize q.k=q0 at *;generalize Zad q.l=q1 at *;generalize Zad q.r=q2 at *;generalize q.c=q3 at *
   go_wp2_with fail
   refine(HCA.o q wr _ (HS.o q (đe HQI.o)) PC.o hc.o).mono ?_;rintro e w3 ⟨rfl,b3⟩;have hw3:=ħ (hw.o.trans (b3.mono hw.o.size));have hc3:=ħ (HST.o _ _ hc.o b3);clear b3 s0 s1 s2 s3 s4 hw hc PC
   cases hq:f q with
   | true =>
    have HX:Hid (V=(i:Int)):=ħ (by
     have hlt':i<ks.length:=by rw[<- HN.o];exact hlt
     have:ks.findIdx? f=some i:=by
      rw[List.findIdx?_eq_some_iff_getElem];refine⟨hlt',?_,fun j hj=>?_⟩
      ·have:ks[i]=q:=by have:=HQI.o;rw[đb hlt'] at this;exact đa this
       rw[this];exact hq
      ·have:=hno.o j ks[j] hj (đb (by omega))
       simp[this]
     rw[HI.o,this])
    clear hq
    go_wp2
    go_ret;exact⟨Zbb HX.o.symm,hw3.o⟩
   | false =>
    have HQ2:=ħ hq;clear hq
    go_wp2
    go_roundw
    case rel=>exact⟨i+1,by go_num,by omega,hw3,hc3,ħ (fun j k' hj hk'=>by
     rcases đw j i with h | h
     ·exact hno.o j k' h hk'
     ·obtain rfl:j=i:=by omega
      rw[HQI.o] at hk';obtain rfl:=đa hk'
      exact HQ2.o)⟩
    case measure=>simp only[intOf];omega
  ·have ii:¬ ((i:Int)<n):=by omega
   have HX:Hid (V = -1):=ħ (by
    have:ks.findIdx? f=none:=by
     rw[List.findIdx?_eq_none_iff];intro k hk;obtain⟨j,hj⟩:=đs.1 hk;have hjl:=(đg.1 hj).1;exact hno.o j k (by rw[<- HN.o] at hjl;omega) hj
    rw[HI.o,this])
   go_wp2
   go_ret;exact⟨Zbb HX.o.symm,hw.o⟩
theorem Zzz(f:Prd->Bool)(ks:List Prd):decide (0<=Z21 f ks)=ks.any f:=by
 unfold Z21
 cases h:ks.findIdx? f with
 | none =>
  rw[List.findIdx?_eq_none_iff] at h
  have:ks.any f=false:=by rw[List.any_eq_false];intro x hx;simp[h x hx]
  rw[this];rfl
 | some i =>
  rw[List.findIdx?_eq_some_iff_getElem] at h;obtain⟨h1,h2,_⟩:=h;have:ks.any f=true:=List.any_eq_true.2 ⟨_,List.getElem_mem h1,h2⟩;rw[this];show decide (0<=(i:Int))=true;exact decide_eq_true (by omega)
theorem Zoo (w:World) (P:Nat->Prop) (ks:List Prd) (ao:Option Addr) (n cap:Nat) (hn:n=ks.length) (hbig:n<=1000000)
  (hk:ks=[]\/∃ g off,ao=some ⟨g,off,none⟩/\P g/\g<w.heap.size/\Zbe w P ks g off)
  (C:World->Prop) (g:Nat) (cb:Array Value) (f:Prd->Bool) (S:Prd->Prop) (hf:PrF C P g cb f S) (hS:∀ q∈ks,S q) (hC:C w) :
  Calls Tryz.prog 72 #[.slice ao n cap,.func (.func g) #[] cb] w fun e w'=>e = .returned (.bool (ks.any f))/\Below w.heap.size w w':=by
 have HC:=ħ (Zzy w P ks ao n cap hn hbig hk C g cb f S hf hS hC);have HV:=ħ (Zzz f ks);generalize Z21 f ks=x at *;generalize ks.any f=V at *;clear hk hf hS hC hn
 go_enter Tryz.func72,Tryz.ntmps72
 go_wp2_with fail
 refine HC.o.mono ?_;rintro e w3 ⟨rfl,b3⟩;have B3:=ħ b3;clear b3
 go_wp2
 go_ret;exact⟨Zac (by rw[<- HV.o]),B3.o⟩
end
section
open Go.RowKit Go.Sort
def Zbw(B:Nat)(w:World):Prop:=Tab w B
theorem Zbw.step{B:Nat}{w w':World}(h:Zbw B w)(hb:Below w.heap.size w w'):Zbw B w':=Tab.keep h (fun k hk=>hb.block k (đm hk h.size)) hb.size
theorem Zfz(k:Int)(l r:List Nat)(c:Int)(ks:List Prd):Zay (.mk k l r c ks)=if k=0 then Zd9 k l r c ks.length else(Zdk k ks.length c&&(l==[]&&(r==[]&&!(ks.any (fun q=>!Zay q))))):=by
 rw[Zay];by_cases h:k=0
 ·rw[if_pos h,if_pos h]
  unfold Zd9 inC;subst h
  have:ks.isEmpty=(ks.length==0):=by cases ks<;>rfl
  rw[this];simp[Bool.and_assoc]
 ·rw[if_neg h,if_neg h]
  have:Zim ks=!(ks.any (fun q=>!Zay q)):=by
   rw[Bool.eq_iff_iff,Zjk];simp
  rw[this];simp[Bool.and_assoc]
theorem Zvt(l r:List Nat)(c:Int)(ao:Option Addr)(n cap:Nat)(w:World)(B:Nat)(hT:Tab w B)(hl:NmB l)(hr:NmB r) :
  Calls Tryz.prog 137 #[.agg #[.int .i64 0,.string (Zad l),.string (Zad r),.int .i64 c,.slice ao n cap]] w fun e w'=>e = .returned (.bool (Zd9 0 l r c n))/\Below w.heap.size w w':=by
 have bx:=(đc w.heap.size w).alloc (đd _) (.cells #[.int .i64 0,.string (Zad l),.string (Zad r),.int .i64 c,.slice ao n cap] 54);have B1:=ħ bx;have X1:Hid (Zae (w.alloc (.cells #[.int .i64 0,.string (Zad l),.string (Zad r),.int .i64 c,.slice ao n cap] 54)) w.heap.size 54 [.int .i64 0,.string (Zad l),.string (Zad r),.int .i64 c,.slice ao n cap]):=ħ (heap_alloc_new w _);have HA:=ħ (fun W hW=>Zvs 0 l r c ao n cap W B (Zbw.step (w:=w) (w':=W) hT hW) hl hr);clear bx hT hl hr;generalize Zd9 0 l r c n=V at *;generalize Zad l=y at *;generalize Zad r=z at *
 go_enter Tryz.func137,Tryz.ntmps137
 go_upto_region 1 with(fail)
 generalize w.alloc (.cells #[.int .i64 0,.string y,.string z,.int .i64 c,.slice ao n cap] 54)=w1 at *;have x0:=X1.o.cell 0 _ rfl;have x4:=X1.o.cell 4 _ rfl
 go_wp2_with (refine wpList_load_row rfl 54 (.tmp 1) rfl w.heap.size ?x1 54 (Z31 0 y z c ao n cap).toArray (0,0) _ X1.o Tryz.underlying54 rfl (Za4 _ rfl) ?_;(case x1=>rfl))
 refine(HA.o w1 B1.o).mono ?_;rintro e w2 ⟨rfl,b2⟩;have B2:=ħ (B1.o.trans (b2.mono B1.o.size));clear b2
 go_wp2
 go_ret;exact⟨rfl,B2.o⟩
theorem Zop (w:World) (P:Nat->Prop) (κ:Int) (l r:List Nat) (c:Int) (ks:List Prd) (ao:Option Addr) (n cap:Nat) (hκ:κ≠0) (hn:n=ks.length) (hbig:n<=1000000) (B:Nat) (hT:Tab w B)
  (hk:ks=[]\/∃ g off,ao=some ⟨g,off,none⟩/\P g/\g<w.heap.size/\Zbe w P ks g off)
  (ih:∀ (q:Prd) (w:World) (vs:List Value),q∈ks->Zao w P q vs->Tab w B->Calls Tryz.prog 137 #[.agg vs.toArray] w fun e w'=>e = .returned (.bool (Zay q))/\Below w.heap.size w w') :
  Calls Tryz.prog 137 #[.agg #[.int .i64 κ,.string (Zad l),.string (Zad r),.int .i64 c,.slice ao n cap]] w fun e w'=>e = .returned (.bool (Zay (.mk κ l r c ks)))/\Below w.heap.size w w':=by
 have HV:Hid (Zay (.mk κ l r c ks)=(Zdk κ n c&&(l==[]&&(r==[]&&!(ks.any (fun q=>!Zay q)))))):=ħ (by rw[Zfz,if_neg hκ,hn]);obtain⟨V,hV⟩:∃ V,Zay (.mk κ l r c ks)=V:=⟨_,rfl⟩;rw[hV] at HV ⊢;clear hV;have bx:=(đc w.heap.size w).alloc (đd _) (.cells #[.int .i64 κ,.string (Zad l),.string (Zad r),.int .i64 c,.slice ao n cap] 54);have B1:=ħ bx;have X1:Hid (Zae (w.alloc (.cells #[.int .i64 κ,.string (Zad l),.string (Zad r),.int .i64 c,.slice ao n cap] 54)) w.heap.size 54 [.int .i64 κ,.string (Zad l),.string (Zad r),.int .i64 c,.slice ao n cap]):=ħ (heap_alloc_new w _)
 have hcl:∀ q W us,q∈ks->Zao W P q us->Tab W B->Calls Tryz.prog 178 #[.agg us.toArray] W fun e w'=>e = .returned (.bool (!Zay q))/\Below W.heap.size W w':=by
  intro q W us hq hpc hTW;have HI:=ħ (fun W' us' h1 h2=>ih q W' us' hq h1 h2);obtain⟨xa,xn,xc,hvf,-⟩:=hpc.form;rw[hvf] at hpc ⊢;have by1:=(đc W.heap.size W).alloc (đd _) (.cells #[.int .i64 q.k,.string (Zad q.l),.string (Zad q.r),.int .i64 q.c,.slice xa xn xc] 54);have HP1:=ħ (hpc.below by1);have HT1:=ħ (Zbw.step (w:=W) hTW by1);have BY:=ħ by1;have Y1:Hid (Zae (W.alloc (.cells #[.int .i64 q.k,.string (Zad q.l),.string (Zad q.r),.int .i64 q.c,.slice xa xn xc] 54)) W.heap.size 54 [.int .i64 q.k,.string (Zad q.l),.string (Zad q.r),.int .i64 q.c,.slice xa xn xc]):=ħ (heap_alloc_new W _);clear by1 hpc hTW hvf ih;generalize q.k=q0 at *;generalize Zad q.l=q1 at *;generalize Zad q.r=q2 at *;generalize q.c=q3 at *
  go_enter Tryz.func178,Tryz.ntmps178
  go_wp2_with (refine wpList_load_row rfl 54 (.tmp 1) rfl W.heap.size ?x1 54 #[.int .i64 q0,.string q1,.string q2,.int .i64 q3,.slice xa xn xc] (0,0) _ Y1.o Tryz.underlying54 rfl (Za4 _ rfl) ?_;(case x1=>rfl))
  refine(HI.o _ _ HP1.o HT1.o).mono ?_;rintro e w2 ⟨rfl,b2⟩;have B2:=ħ (BY.o.trans (b2.mono BY.o.size));clear b2
  go_wp2
  go_ret;exact⟨rfl,B2.o⟩
 have HPF:Hid (PrF (Zbw B) P 178 #[] (fun q=>!Zay q) (fun q=>q∈ks)):=ħ ⟨enters_of Tryz.func178 (by kernel_rfl) rfl,fun w w' h hb=>h.step hb,fun q w vs hq hpc hC=>hcl q w vs hq hpc hC⟩
 have HCO:=ħ (fun W (hW:Below w.heap.size w W)=>Zoo W P ks ao n cap hn hbig (by
  rcases hk with h | ⟨g,off,h1,h2,h3,h4⟩
  ·exact .inl h
  ·exact .inr ⟨g,off,h1,h2,đm h3 hW.size,Zbe.keep (fun x _ hx=>hW.block x hx) hW.size (fun _ h _=>h) ks g off h2 h3 h4⟩) (Zbw B) 178 #[] (fun q=>!Zay q) (fun q=>q∈ks) HPF.o (fun q hq=>hq) (Zbw.step (w:=w) hT hW))
 obtain⟨A,hA⟩:∃ A,ks.any (fun q=>!Zay q)=A:=⟨_,rfl⟩;simp only[hA] at HCO;rw[hA] at HV;have hκb:(κ==0)=false:=beq_eq_false_iff_ne.mpr hκ
 have HLE:Hid ((Zad l).toList.isEmpty=(l==[])/\(Zad r).toList.isEmpty=(r==[])):=ħ (by
  have:∀ m:List Nat,(Zad m).toList.isEmpty=(m==[]):=fun m=>by
   cases m with
   | nil=>exact Zc3.trans rfl
   | cons a b=>rw[Zdf _ (by simp)];rfl
  exact⟨this l,this r⟩)
 have hle1:=HLE.o.1;have hle2:=HLE.o.2;generalize (l==[])=e1 at *;generalize (r==[])=e2 at *;clear bx hk ih hT hn hA hκ hcl HPF HLE;generalize Zad l=y at *;generalize Zad r=z at *
 go_enter Tryz.func137,Tryz.ntmps137
 go_upto_region 1 with(fail)
 generalize w.alloc (.cells #[.int .i64 κ,.string y,.string z,.int .i64 c,.slice ao n cap] 54)=w1 at *;have x0:=X1.o.cell 0 _ rfl;have x1:=X1.o.cell 1 _ rfl;have x2:=X1.o.cell 2 _ rfl;have x3:=X1.o.cell 3 _ rfl;have x4:=X1.o.cell 4 _ rfl;have HB:Hid (Zdk κ n c=(((κ==1||κ==2)&&decide (2<=n)&&c==0)||(κ==3&&decide (1<=c)&&decide (c<=(n:Int))))):=ħ rfl;obtain⟨LB,hLB⟩:∃ LB,Zdk κ n c=LB:=⟨_,rfl⟩;rw[hLB] at HB HV;clear hLB;by_cases k12:κ=1\/κ=2
 ·by_cases n2:n<2
  ·have HV2:Hid (V=false):=ħ (by
    have:LB=false:=by rw[HB.o];rcases k12 with h | h<;>subst h<;>simp<;>omega
    rw[HV.o,this,đq])
   clear HV HB HCO
   have n2':(n:Int)<2:=by omega
   clear n2;rcases k12 with h | h
   ·subst h
    go_wp2
    go_ret;exact⟨Zac HV2.o.symm,B1.o⟩
   ·subst h
    go_wp2
    go_ret;exact⟨Zac HV2.o.symm,B1.o⟩
  ·have n2':¬ (n:Int)<2:=by omega
   by_cases c0:c=0
   ·have HV2:Hid (V=(e1&&(e2&&!A))):=ħ (by
     have:LB=true:=by rw[HB.o];rcases k12 with h | h<;>subst h<;>simp[c0]<;>omega
     rw[HV.o,this,đk])
    clear HV HB n2
    rename Hid (V=_)=>HV
    subst c0;rcases k12 with h | h
    ·subst h
     cases e1 with
     | true =>
      cases e2 with
      | true =>
       rw[đk,đk] at HV
       go_wp2_with fail
       refine(HCO.o w1 B1.o).mono ?_;rintro e w2 ⟨rfl,b2⟩;have B2:=ħ (B1.o.trans (b2.mono B1.o.size));clear b2
       go_wp2
       go_ret;exact⟨Zac HV.o.symm,B2.o⟩
      | false =>
       rw[đk,đq] at HV
       go_wp2
       go_ret;exact⟨Zac HV.o.symm,B1.o⟩
     | false =>
      rw[đq] at HV
      go_wp2
      go_ret;exact⟨Zac HV.o.symm,B1.o⟩
    ·subst h
     cases e1 with
     | true =>
      cases e2 with
      | true =>
       rw[đk,đk] at HV
       go_wp2_with fail
       refine(HCO.o w1 B1.o).mono ?_;rintro e w2 ⟨rfl,b2⟩;have B2:=ħ (B1.o.trans (b2.mono B1.o.size));clear b2
       go_wp2
       go_ret;exact⟨Zac HV.o.symm,B2.o⟩
      | false =>
       rw[đk,đq] at HV
       go_wp2
       go_ret;exact⟨Zac HV.o.symm,B1.o⟩
     | false =>
      rw[đq] at HV
      go_wp2
      go_ret;exact⟨Zac HV.o.symm,B1.o⟩
   ·have HV2:Hid (V=false):=ħ (by
     have:LB=false:=by rw[HB.o];rcases k12 with h | h<;>subst h<;>simp[c0]
     rw[HV.o,this,đq])
    have c0b:(c==0)=false:=beq_eq_false_iff_ne.mpr c0;clear HV HB HCO n2 c0;rcases k12 with h | h
    ·subst h
     go_wp2
     go_ret;exact⟨Zac HV2.o.symm,B1.o⟩
    ·subst h
     go_wp2
     go_ret;exact⟨Zac HV2.o.symm,B1.o⟩
 ·have k1b:(κ==1)=false:=beq_eq_false_iff_ne.mpr (fun h=>k12 (.inl h))
  have k2b:(κ==2)=false:=beq_eq_false_iff_ne.mpr (fun h=>k12 (.inr h));clear k12;by_cases k3:κ=3
  ·subst k3
   by_cases c1:c<1
   ·have HV2:Hid (V=false):=ħ (by
     have:LB=false:=by rw[HB.o];simp;omega
     rw[HV.o,this,đq])
    clear HV HB HCO
    go_wp2
    go_ret;exact⟨Zac HV2.o.symm,B1.o⟩
   ·by_cases cn:(n:Int)<c
    ·have HV2:Hid (V=false):=ħ (by
      have:LB=false:=by rw[HB.o];simp;omega
      rw[HV.o,this,đq])
     clear HV HB HCO
     go_wp2
     go_ret;exact⟨Zac HV2.o.symm,B1.o⟩
    ·have HV2:Hid (V=(e1&&(e2&&!A))):=ħ (by
      have:LB=true:=by rw[HB.o];simp;omega
      rw[HV.o,this,đk])
     clear HV HB
     rename Hid (V=_)=>HV
     cases e1 with
     | true =>
      cases e2 with
      | true =>
       rw[đk,đk] at HV
       go_wp2_with fail
       refine(HCO.o w1 B1.o).mono ?_;rintro e w2 ⟨rfl,b2⟩;have B2:=ħ (B1.o.trans (b2.mono B1.o.size));clear b2
       go_wp2
       go_ret;exact⟨Zac HV.o.symm,B2.o⟩
      | false =>
       rw[đk,đq] at HV
       go_wp2
       go_ret;exact⟨Zac HV.o.symm,B1.o⟩
     | false =>
      rw[đq] at HV
      go_wp2
      go_ret;exact⟨Zac HV.o.symm,B1.o⟩
  ·have HV2:Hid (V=false):=ħ (by
     have:LB=false:=by rw[HB.o,k1b,k2b];simp[k3]
     rw[HV.o,this,đq])
   have k3b:(κ==3)=false:=beq_eq_false_iff_ne.mpr k3;clear HV HB HCO k3
   go_wp2
   go_ret;exact⟨Zac HV2.o.symm,B1.o⟩
theorem Zlx:∀ (N:Nat) (p:Prd) (w:World) (P:Nat->Prop) (vs:List Value) (B:Nat),Zb0 p<=N->N<=1000000->Zon p->Zao w P p vs->Tab w B ->
  Calls Tryz.prog 137 #[.agg vs.toArray] w fun e w'=>e = .returned (.bool (Zay p))/\Below w.heap.size w w'
 | 0,p,w,P,vs,B,hN,_,_,_,_=>by have:=Zek p;omega
 | N+1,.mk κ l r c ks,w,P,vs,B,hN,hM,hb,h,hT=>by
  have hc2:Zb2 ks<=N:=by unfold Zb0 at hN;omega
  have hl:=Zbq ks;unfold Zao at h;unfold Zon at hb;obtain⟨ao,cap,rfl,hk⟩:=h;by_cases hκ:κ=0
  ·subst hκ
   have:=Zvt l r c ao ks.length cap w B hT hb.1 hb.2.1;rw[Zfz,if_pos rfl];exact this
  ·exact Zop w P κ l r c ks ao ks.length cap hκ rfl (by omega) B hT hk (fun q w' us hq hpc hT'=>Zlx N q w' P us B (by
    obtain⟨i,hi⟩:=đs.1 hq;have:=Zel ks i q hi
    omega) (by omega) ((Zfy ks).1 hb.2.2 q hq) hpc hT')
theorem Zbp {P:Program} {ops:Array Oper} {rest:List Oper} {o:Oper} {a:Act} {w:World} {Q:Exit->Act->World->Prop} (hw:Region.wanted o (yielded ops a.tmps)=true) (ty:TypeId) (x:Operand) (ho:o.op = .load ty x)
  (g:Nat) (hx:a.eval x = .pointer (some ⟨g,0,none⟩)) (t:TypeId) (cs:Array Value) (fr:Nat×Nat) (d:TypeDesc) (hg:w.heap[g]?=some (.cells cs t fr))
  (hu:P.underlying ty=some d) (hd:(match d with | .struct _ | .array _ _=>true | _=>false)=true) (hi:(P.info? ty).map (·.size)=some cs.size)
  (h:wpList P ops Q rest (a.put o.dst (.agg cs)) w):wpList P ops Q (o::rest) a w :=
 BigFrame.wpList_want hw fun K hK=>wp_load_row ty x ho g hx t cs fr d hg hu hd hi (hK _ _ h)
theorem Zvu(p:Prd)(w:World)(P:Nat->Prop)(vs:List Value)(B:Nat)(hN:Zb0 p<=1000000)(hb:Zon p)(h:Zao w P p vs)(hT:Tab w B) :
  Calls Tryz.prog 74 #[.agg vs.toArray] w fun e w'=>e = .returned (.bool (Zba p))/\Below w.heap.size w w':=by
 obtain⟨xa,xn,xc,rfl,-⟩:=h.form;have bx:=(đc w.heap.size w).alloc (đd _) (.cells #[.int .i64 p.k,.string (Zad p.l),.string (Zad p.r),.int .i64 p.c,.slice xa xn xc] 54);have B1:=ħ bx;have X1:Hid (Zae (w.alloc (.cells #[.int .i64 p.k,.string (Zad p.l),.string (Zad p.r),.int .i64 p.c,.slice xa xn xc] 54)) w.heap.size 54 [.int .i64 p.k,.string (Zad p.l),.string (Zad p.r),.int .i64 p.c,.slice xa xn xc]):=ħ (heap_alloc_new w _);have HS:=ħ (fun W (hW:Below w.heap.size w W)=>Zn6 W P p [.int .i64 p.k,.string (Zad p.l),.string (Zad p.r),.int .i64 p.c,.slice xa xn xc] (h.below hW) hN);have HF:=ħ (fun W (hW:Below w.heap.size w W)=>Zlx 1000000 p W P [.int .i64 p.k,.string (Zad p.l),.string (Zad p.r),.int .i64 p.c,.slice xa xn xc] B hN (đd _) hb (h.below hW) (Zbw.step (w:=w) hT hW));have HV:Hid (Zba p=(Zc6 p&&Zay p)):=ħ rfl;obtain⟨V,hV⟩:∃ V,Zba p=V:=⟨_,rfl⟩;rw[hV] at HV ⊢;clear bx h hT hb hN hV;generalize Zc6 p=s at *;generalize Zay p=f at *;generalize p.k=q0 at *;generalize Zad p.l=q1 at *;generalize Zad p.r=q2 at *;generalize p.c=q3 at *
 go_enter Tryz.func74,Tryz.ntmps74
 go_upto_region 1 with(fail)
 generalize w.alloc (.cells #[.int .i64 q0,.string q1,.string q2,.int .i64 q3,.slice xa xn xc] 54)=w1 at *
 go_wp2_with (refine wpList_load_row rfl 54 (.tmp 1) rfl w.heap.size ?x1 54 #[.int .i64 q0,.string q1,.string q2,.int .i64 q3,.slice xa xn xc] (0,0) _ X1.o Tryz.underlying54 rfl (Za4 _ rfl) ?_;(case x1=>rfl))
 refine(HS.o w1 B1.o).mono ?_;rintro e w2 ⟨rfl,b2⟩;have B2:=ħ (B1.o.trans (b2.mono B1.o.size));have X2:=ħ (X1.o.step b2);clear b2
 cases s with
 | false =>
  rw[đq] at HV
  go_wp2
  go_ret;exact⟨Zac HV.o.symm,B2.o⟩
 | true =>
  rw[đk] at HV
  go_wp2_with (refine Zbp (by rfl) 54 (.tmp 1) rfl w.heap.size ?x2 54 #[.int .i64 q0,.string q1,.string q2,.int .i64 q3,.slice xa xn xc] (0,0) _ X2.o Tryz.underlying54 rfl (Za4 _ rfl) ?_;(case x2=>rfl))
  refine(HF.o w2 B2.o).mono ?_;rintro e w3 ⟨rfl,b3⟩;have B3:=ħ (B2.o.trans (b3.mono B2.o.size));clear b3
  go_wp2
  go_ret;exact⟨Zac HV.o.symm,B3.o⟩
end
section
open Go.RowKit Go.Sort Go.Maps
theorem Zec{H:Type}{P:Program}{e:TypeId}(he:P.underlying e=some .bool){v:Value}{x:Bool}{ps:List MemPlace}(h:plainElem (H:=H) P e v=some (.lit (.bool x),ps)):v = .bool x:=by
 unfold plainElem at h;rw[he] at h;cases v<;>simp at h;rw[h.1]
theorem Zvv(w:World):(zeroValue 4).run Tryz.prog w = .ok (.bool false) w:=Tryz.zeroValue4 w
end
section
open Go.RowKit Go.Sort
theorem Z4e {ops:Array Oper} {rest:List Oper} {o:Oper} {a:Act} {Q:Exit->Act->World->Prop} (T E:TypeId) (z:Value) (k bt:Nat)
  (hT:Tryz.prog.underlying T=some (.slice E)) (hE:(Tryz.prog.info? E).map (fun i=>(i.zero,i.size,i.bytes))=some (some z,k,bt)) (hz:z.cells.size=k) (hk:0<k) (hbt:bt<=1000)
  (w1:World) (B:Nat) (hg:o.guard=none) (s x:Operand) (hop:o.op=Op.call { callee:=Callee.builtin Builtin.append,args:=#[s,x],argTypes:=#[T,T] })
  (ao:Option Addr) (cap n:Nat) (xs:List Value) (hs:a.eval s = .slice ao n cap) (hO:OwnK w1 B k n cap xs ao) (hB:B<=w1.heap.size)
  (gx ox m c:Nat) (news:List Value) (hx:a.eval x = .slice (some ⟨gx,ox,none⟩) m c) (hm:news.length=m*k) (hm0:0<m) (hr:Zav w1 gx ox news) (h1c:∀ u∈news,u.oneCell'=true)
  (b1:n+m<=1000000000)
  (hK:∀ g off cap' w',OwnK w' B k (n+m) cap' (xs++news) (some ⟨g,off,none⟩)->w1.grownBy w' (blk ao)->(blk ao=some g\/w1.heap.size<=g)->wpList Tryz.prog ops Q rest (a.put o.dst (.slice (some ⟨g,off,none⟩) (n+m) cap')) w') :
  wpList Tryz.prog ops Q (o::rest) a w1:=by
 obtain⟨i0,hi,hz0,hz1,hz2⟩:=Zd8 hE
 exact Zby w1 B k hk hg s x T hop E i0 z bt hT hi hz0 hz1 hz2 hz ao cap xs n hs hO hB ⟨gx,ox,none⟩ m c news hx hm hm0 (fun j u hj=>by rw[Addr.add_lit];exact hr j u hj) h1c
  (by simp only[maxLen];omega) (đo (Nat.mul_le_mul b1 hbt) (by decide)) hK
theorem Zbe.cells{w:World}{P:Nat->Prop}:∀ (ks:List Prd) (g off:Nat),Zbe w P ks g off->∃ vss:List (List Value),vss.length=ks.length/\(∀ (i:Nat) (p:Prd) (vs:List Value),ks[i]?=some p->vss[i]?=some vs->Zao w P p vs)/\Zav w g off vss.flatten/\vss.flatten.length=ks.length*5/\∀ u∈vss.flatten,u.oneCell'=true
 | [],_,_,_=>⟨[],rfl,fun i p vs h=>by simp at h,fun j u h=>by simp at h,rfl,fun u h=>by simp at h⟩
 | p::ps,g,off,h=>by
  unfold Zbe at h;obtain⟨⟨vs,hp,hr⟩,h2⟩:=h;obtain⟨vss,h3,h4,h5,h6,h7⟩:=Zbe.cells ps g (off+5) h2;have hl:=hp.len;refine⟨vs::vss,by simp[h3],fun i q us hq hu=>?_,fun j u hj=>?_,by simp[hl,h6];omega,fun u hu=>?_⟩
  ·cases i with
   | zero=>simp at hq hu;subst hq;subst hu;exact hp
   | succ i=>exact h4 i q us (by simpa using hq) (by simpa using hu)
  ·rw[List.flatten_cons] at hj
   by_cases hj5:j<5
   ·rw[List.getElem?_append_left (by omega)] at hj
    exact hr j u hj
   ·rw[List.getElem?_append_right (by omega),hl] at hj
    have:=h5 (j-5) u hj
    rwa [show off+5+(j-5)=off+j by omega] at this
  ·rw[List.flatten_cons] at hu
   rcases đt.1 hu with hu | hu
   ·have:=hp.ones u (by simpa using hu)
    exact this
   ·exact h7 u hu
theorem OwnK.made(w:World)(T:TypeId)(k:Nat):OwnK (w.alloc (.cells #[] T)) w.heap.size k 0 0 [] (some ⟨w.heap.size,0,none⟩) :=
 .at w.heap.size 0 ⟨đd _,by simp,by simp,fun j u h=>by simp at h,fun j h=>by simp at h,fun j h=>by simp at h⟩ (by simp) (by simp[maxLen]) (đd _)
end
section
open Go.RowKit Go.Sort
theorem Zh9{α:Type}[DecidableEq α]:∀ (l m:List α),l.Nodup->(∀ x∈l,x∈m)->l.length<=m.length
 | [],m,_,_=>Nat.zero_le _
 | x::l,m,hd,hs=>by
  have hx:x∈m:=hs x (by simp);have hd':=List.nodup_cons.1 hd;have h:=Zh9 l (m.erase x) hd'.2 (fun y hy=>(List.mem_erase_of_ne (by rintro rfl;exact hd'.1 hy)).2 (hs y (by simp[hy])));rw[List.length_erase_of_mem hx] at h;have:0<m.length:=List.length_pos_of_mem hx;rw[List.length_cons];omega
theorem Zvw{m:List Ky}(hm:Zq2 m):m.Nodup:=hm.imp (fun {a b} hab e=>by rw[e,Zfw] at hab;cases hab)
section
variable {α:Type} {EL:World->(Nat->Prop)->α->List Value->Prop} {k base:Nat}
theorem RowM.join (hE:Zok EL) {w0 w2 wa:World} {lo lo2:Nat} {bad:Nat->Prop} {ao a2:Option Addr} {n cp m c2 g5 off5 c5:Nat} {xs ys:List α} {vss uss:List (List Value)} (h:RowM EL k base w2 lo bad ao n cp xs vss)
  (hao:∀ g,blk ao=some g->g<w0.heap.size) (hb0:base<=w0.heap.size) (hbad:∀ g,bad g->g<w0.heap.size)
  (h2:RowM EL k w0.heap.size w2 lo2 (fun _=>False) a2 m c2 ys uss) (ho:OwnK wa lo k (n+m) c5 (vss.flatten++uss.flatten) (some ⟨g5,off5,none⟩)) (hg:w2.grownBy wa (blk ao)) (hor:blk ao=some g5\/w2.heap.size<=g5) :
  RowM EL k base wa lo bad (some ⟨g5,off5,none⟩) (n+m) c5 (xs++ys) (vss++uss):=by
 have hnew:∀ g,blk ao≠some g->g<w2.heap.size->blk (some (⟨g5,off5,none⟩:Addr))≠some g:=fun g hb hl e=>by
  have e':g5=g:=đa e;subst e';rcases hor with h1 | h1
  ·exact hb h1
  ·omega
 have hlen:=h.len;have hlen2:=h2.len;refine⟨by rw[List.flatten_append];exact ho,by rw[đn,đn,hlen,hlen2],by rw[đn,<- h.cnt,<- h2.cnt],fun us hu=>?_,?_⟩
 ·rcases đt.1 hu with hu | hu
  ·exact h.elk us hu
  ·exact h2.elk us hu
 intro i y us hq hu;by_cases hi:i<xs.length
 ·rw[List.getElem?_append_left hi] at hq
  rw[List.getElem?_append_left (by omega)] at hu;exact hE w2 wa (fun g=>base<=g/\¬ bad g/\blk ao≠some g) _ y us (fun g hx hl=>hg.block g hl (fun e=>hx.2.2 e.symm)) hg.size (fun g hx hl=>⟨hx.1,hx.2.1,hnew g hx.2.2 hl⟩) (h.each i y us hq hu)
 ·rw[List.getElem?_append_right (by omega)] at hq hu
  rw[hlen] at hu
  have hne:∀ g,w0.heap.size<=g->blk ao≠some g:=fun g hge e=>by
   have:=hao g e;omega
  exact hE w2 wa (fun g=>w0.heap.size<=g/\¬ False/\blk a2≠some g) _ y us (fun g hx hl=>hg.block g hl (fun e=>hne g hx.1 e.symm)) hg.size (fun g hx hl=>⟨đo hb0 hx.1,fun hb=>by have:=hbad g hb;have:=hx.1;omega,hnew g (hne g hx.1) hl⟩) (h2.each (i-xs.length) y us hq hu)
theorem RowM.blk_lt{wr:World}{lo:Nat}{bad:Nat->Prop}{ao:Option Addr}{n cp:Nat}{xs:List α}{vss:List (List Value)}(h:RowM EL k base wr lo bad ao n cp xs vss)(g:Nat)(e:blk ao=some g):lo<=g/\g<wr.heap.size:=by
 cases ao with
 | none=>cases e
 | some a =>
  obtain⟨g',off,si⟩:=a
  cases h.own with
  | «at» g' off h1 h2 h3 h4 =>
   have e':g'=g:=đa e;subst e';exact⟨h1.own,h1.lt⟩
end
theorem Zao.atom{w w':World}{P P':Nat->Prop}{q:Prd}{vs:List Value}(hk:q.ks=[])(h:Zao w P q vs):Zao w' P' q vs:=by
 obtain⟨k,l,r,c,ks⟩:=q;have hk':ks=[]:=hk;subst hk';unfold Zao at h ⊢;obtain⟨ao,cap,h1,-⟩:=h;exact⟨ao,cap,h1,.inl rfl⟩
end
end Go.Proofs.YtbcgocpihobjnaaGreatDoor
