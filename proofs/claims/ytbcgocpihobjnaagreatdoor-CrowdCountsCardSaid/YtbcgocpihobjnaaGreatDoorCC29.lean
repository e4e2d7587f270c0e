import Derived.Test.YtbcgocpihobjnaaGreatDoorCC24
set_option linter.all false
set_option maxHeartbeats 8000000
set_option maxRecDepth 100000
namespace Go.Proofs.YtbcgocpihobjnaaGreatDoor
open Go.RowKit Go.Sort Go.Maps
def rvP(l:List Bnd)(x:List Nat):Int×Bool:=match l.find? (fun b=>b.n==x) with
 | some b=>(b.v,true)
 | none=>(0,x==[])
theorem Zwf(l:List Bnd)(x:List Nat)(i:Nat)(b:Bnd)(h:l[i]?=some b):(l.drop i).find? (fun b=>b.n==x)=if (b.n==x)=true then some b else(l.drop (i+1)).find? (fun b=>b.n==x):=by
 rw[Ze7 l i b h,List.find?_cons];cases b.n==x<;>rfl
theorem Zrt:∀ (S:List (List Nat)) (l:List Bnd),vbG S l=true->(∀ b∈l,b.n ∉ S)/\l.Pairwise (fun a b=>a.n≠b.n)
 | S,[],_=>⟨fun b hb=>absurd hb List.not_mem_nil,.nil⟩
 | S,x::xs,h=>by
  unfold vbG at h;simp only[đi,Bool.not_eq_true',decide_eq_false_iff_not] at h;obtain⟨h1,h2⟩:=Zrt (S++[x.n]) xs h.2.2.2.2;refine⟨fun b hb=>?_,List.pairwise_cons.2 ⟨fun b hb e=>?_,h2⟩⟩
  ·rcases List.mem_cons.1 hb with rfl | hb
   ·exact h.1
   ·exact fun hm=>h1 b hb (List.mem_append_left _ hm)
  ·exact h1 b hb (List.mem_append_right _ (by rw[e];simp))
theorem Z2h{l:List Bnd}(h:l.Pairwise (fun a b=>a.n≠b.n)){a b:Bnd}(ha:a∈l)(hb:b∈l)(e:a.n=b.n):a=b:=by
 induction l with
 | nil=>cases ha
 | cons x xs ih =>
  obtain⟨h1,h2⟩:=List.pairwise_cons.1 h;rcases List.mem_cons.1 ha with ha2 | ha2
  ·rcases List.mem_cons.1 hb with hb2 | hb2
   ·rw[ha2,hb2]
   ·exact absurd (by rw[<- ha2];exact e) (h1 b hb2)
  ·rcases List.mem_cons.1 hb with hb2 | hb2
   ·exact absurd (by rw[<- hb2];exact e.symm) (h1 a ha2)
   ·exact ih h2 ha2 hb2
theorem Zru{x:List Nat}(h:Za5 x=true):x≠[]:=by
 rintro rfl;exact absurd h (by decide)
theorem Zrv(l:List Bnd)(x:List Nat)(h:vbP l=true):rvP l x=((Zf7 (Zfh l) x).getD 0,(Zf7 (Zfh l) x).isSome):=by
 have hp:=(Zrt [] l h).2;have hok:=Zrn [] l h;unfold rvP
 cases hf:l.find? (fun b=>b.n==x) with
 | some b =>
  have hb:=List.mem_of_find?_eq_some hf
  have hx:b.n=x:=by simpa using List.find?_some hf
  have hex:∃ e∈Zfh l,e.1=x:=⟨(b.n,b.v),by unfold Zfh;simp only[đt,List.mem_reverse,List.mem_map];exact .inl ⟨b,hb,rfl⟩,hx⟩;obtain⟨v,hv⟩:=Zjr hex;have hm:=Zm4 hv;rw[hv];unfold Zfh at hm;rcases đt.1 hm with hm | hm
  ·rw[List.mem_reverse,List.mem_map] at hm
   obtain⟨b',hb',he⟩:=hm;injection he with e1 e2;have:b'=b:=Z2h hp hb' hb (by rw[e1,hx]);rw[<- this];show(b'.v,true)=(v,true);rw[e2]
  ·rw[List.mem_singleton] at hm
   injection hm with e1 e2;exact absurd (hx.trans e1) (Zru (hok b hb).1)
 | none =>
  have hn:=List.find?_eq_none.1 hf;by_cases h0:x=[]
  ·subst h0
   have hex:∃ e∈Zfh l,e.1=([]:List Nat):=⟨([],0),by unfold Zfh;simp,rfl⟩;obtain⟨v,hv⟩:=Zjr hex;have hm:=Zm4 hv;rw[hv];unfold Zfh at hm;rcases đt.1 hm with hm | hm
   ·rw[List.mem_reverse,List.mem_map] at hm
    obtain⟨b',hb',he⟩:=hm;injection he with e1 e2;exact absurd e1 (Zru (hok b' hb').1)
   ·rw[List.mem_singleton] at hm
    injection hm with e1 e2;rw[e2];rfl
  ·have hno:¬ ∃ e∈Zfh l,e.1=x:=by
    rintro⟨e,he,hx⟩;unfold Zfh at he;rcases đt.1 he with he | he
    ·rw[List.mem_reverse,List.mem_map] at he
     obtain⟨b,hb,rfl⟩:=he;exact hn b hb (by simpa using hx)
    ·rw[List.mem_singleton] at he
     subst he;exact h0 hx.symm
   rw[Zor hno];show((0:Int),x==[])=(0,false);rw[beq_eq_false_iff_ne.mpr h0]
theorem Zgi(x:List Nat)(w:World)(Pb:Nat->Prop)(l:List Bnd)(bo:Option Addr)(m bc:Nat)(hx:∀ y∈x,y<256)(hm:m=l.length)(hbig:m<=1000000)(hok:BndOk l)(hk:Zoq w Pb l bo) :
  Calls Tryz.prog 219 #[.string (Zad x),.slice bo m bc] w fun e w'=>e = .returned (.tuple #[.int .i64 (rvP l x).1,.bool (rvP l x).2])/\w=w':=by
 have HM:=ħ hm;have HK:=ħ hk;have HE:=ħ (fun(b:Bnd) (hb:b∈l)=>Zeg b.n x (hok.nm b hb).1 hx)
 have hxe:(Zad x).toList.isEmpty=(x==[]):=by
  cases x with
  | nil=>exact Zc3.trans rfl
  | cons a b=>rw[Zdf _ (by simp)];rfl
 have HV:Hid (rvP l x=match (l.drop 0).find? (fun b=>b.n==x) with | some b=>(b.v,true) | none=>(0,x==[])):=ħ rfl;obtain⟨V,hV⟩:∃ V,rvP l x=V:=⟨_,rfl⟩;rw[hV] at HV ⊢;clear hm hok hk hV hx;generalize (x==[])=xe at *;generalize Zad x=y at *
 go_enter Tryz.func219,Tryz.ntmps219
 go_wp2_with fail
 go_loop [6] (fun c=>∃ i:Nat,c = .int .i64 i/\i<=m/\Hid (V=match (l.drop i).find? (fun b=>b.n==x) with | some b=>(b.v,true) | none=>(0,xe))) (fun c=>(m-intOf c).toNat)
 case atStart=>exact⟨0,rfl,by omega,HV⟩
 case round =>
  clear HV;obtain⟨i,rfl,hi,hv⟩:=hrel;have e2:IntKind.i64.wrap ((i:Int)+1)=((i+1:Nat):Int):=đh _ (by omega);by_cases hlt:i<m
  ·have ii:(i:Int)<m:=by omega
   have HQ:Hid (∃ q,l[i]?=some q/\∃ g off,bo=some ⟨g,off,none⟩/\Zav w g (off+i*2) [.string (Zad q.n),.int .i64 q.v]):=ħ (by
    have hl:i<l.length:=by rw[<- HM.o];exact hlt
    refine⟨l[i],đb hl,?_⟩;rcases HK.o with h | ⟨g,off,h1,h2,h3,h4⟩
    ·rw[h] at hl;exact absurd hl (đu _)
    ·exact⟨g,off,h1,Zex h4 i _ (đb hl)⟩)
   obtain⟨q,hqi,g,off,hbo,hrd⟩:=HQ.o;clear HQ;have HST:=ħ (Zwf l x i q hqi);have he:=HE.o q (đe hqi);have s0:=hrd 0 _ rfl;have s1:=hrd 1 _ rfl;rw[Nat.add_zero] at s0;have HBO:=ħ hbo;clear hrd hqi;subst hbo;generalize (q.n==x)=rb at *;generalize Zad q.n=z at *;generalize hqv:q.v=v at *;have HQV:=ħ hqv;clear hqv
   cases rb with
   | true =>
    have HX:Hid (V=(v,true)):=ħ (by rw[hv.o,HST.o,if_pos rfl,<- HQV.o])
    go_wp2
    go_ret2
    exact⟨by rw[HX.o];rfl,rfl⟩
   | false =>
    have HX:Hid (V=match (l.drop (i+1)).find? (fun b=>b.n==x) with | some b=>(b.v,true) | none=>(0,xe)):=ħ (by rw[hv.o,HST.o,if_neg (by simp)])
    go_wp2
    go_round
    case rel=>exact⟨i+1,by go_num,by omega,HX⟩
    case measure=>simp only[intOf];omega
  ·have ii:¬ ((i:Int)<m):=by omega
   have HX:Hid (V=(0,xe)):=ħ (by rw[hv.o,List.drop_eq_nil_of_le (by rw[<- HM.o];omega)];rfl)
   go_wp2
   go_ret2
   exact⟨by rw[HX.o];rfl,rfl⟩
def fR(l:List Bnd)(k:Ky):Bool:=decide ((rvP l k.l).1-(rvP l k.r).1<=k.c)
theorem Z1k{l:List Bnd}(h:vbP l=true)(x:List Nat):0<=(rvP l x).1/\(rvP l x).1<=65535:=by
 rw[Zrv l x h];exact Zv4 (Zv7 h) x
theorem Z4g{l:List Bnd}(h:vbP l=true)(k:Ky):fR l k=fV (Zfh l) k:=by
 unfold fR fV gvD;rw[Zrv l k.l h,Zrv l k.r h]
theorem Zwg(l' r':List Nat)(c:Int)(x:Value)(hx1:x.oneCell'=true)(w:World)(Pb:Nat->Prop)(l:List Bnd)(bo:Option Addr)(m bc:Nat)(hl:∀ y∈l',y<256)(hr:∀ y∈r',y<256)(hm:m=l.length)(hbig:m<=1000000)(hok:BndOk l)(hk:Zoq w Pb l bo)(hv:vbP l=true) :
  Calls Tryz.prog 193 #[.agg #[.int .i64 0,.string (Zad l'),.string (Zad r'),.int .i64 c,x],.slice bo m bc] w fun e w'=>e = .returned (.bool (fR l ⟨l',r',c⟩))/\RowKit.Below w.heap.size w w':=by
 have bx:=(đc w.heap.size w).alloc (đd _) (.cells #[.int .i64 0,.string (Zad l'),.string (Zad r'),.int .i64 c,x] 54);have B1:=ħ bx;have X1:Hid (Zae (w.alloc (.cells #[.int .i64 0,.string (Zad l'),.string (Zad r'),.int .i64 c,x] 54)) w.heap.size 54 [.int .i64 0,.string (Zad l'),.string (Zad r'),.int .i64 c,x]):=ħ (heap_alloc_new w _);have H1:=ħ (fun W (hW:RowKit.Below w.heap.size w W)=>Zgi l' W Pb l bo m bc hl hm hbig hok (hk.below hW));have H2:=ħ (fun W (hW:RowKit.Below w.heap.size w W)=>Zgi r' W Pb l bo m bc hr hm hbig hok (hk.below hW));have b1:=Z1k hv l';have b2:=Z1k hv r';have HV:Hid (fR l ⟨l',r',c⟩=decide ((rvP l l').1-(rvP l r').1<=c)):=ħ rfl;obtain⟨V,hV⟩:∃ V,fR l ⟨l',r',c⟩=V:=⟨_,rfl⟩;rw[hV] at HV ⊢;clear bx hl hr hm hok hk hv hV;generalize (rvP l l').1=a at *;generalize (rvP l r').1=d at *;generalize (rvP l l').2=p1 at *;generalize (rvP l r').2=p2 at *;generalize Zad l'=y at *;generalize Zad r'=z at *;have ew:IntKind.i64.wrap (a-d)=a-d:=đh _ (by omega)
 go_enter Tryz.func193,Tryz.ntmps193
 go_upto_region 1 with(fail)
 generalize w.alloc (.cells #[.int .i64 0,.string y,.string z,.int .i64 c,x] 54)=w1 at *;have x0:=X1.o.cell 0 _ rfl;have x1:=X1.o.cell 1 _ rfl;have x2:=X1.o.cell 2 _ rfl;have x3:=X1.o.cell 3 _ rfl
 go_wp2_with fail
 refine(H1.o w1 B1.o).mono ?_;rintro e w2 ⟨rfl,rfl⟩
 go_wp2_with fail
 refine(H2.o w1 B1.o).mono ?_;rintro e w2 ⟨rfl,rfl⟩
 go_wp2
 go_ret;exact⟨Zac HV.o.symm,B1.o⟩
theorem Zp7(w:World)(P:Nat->Prop)(l:List Bnd)(ao:Option Addr)(n cap:Nat)(hn:n=l.length)(hbig:n<=1000000)(hok:BndOk l)(hk:Zoq w P l ao) :
  Calls Tryz.prog 125 #[.slice ao n cap] w fun e w'=>e = .returned (.bool (vbP l))/\RowKit.Below w.heap.size w w':=by
 have HK:=ħ (fun W (hW:RowKit.Below w.heap.size w W)=>hk.below hW);have HN:=ħ hn;have HOK:=ħ hok.nm;have B0:=ħ (đc w.heap.size w);obtain⟨V,hV⟩:∃ V,vbP l=V:=⟨_,rfl⟩;have HV:Hid (V=vbG ((l.take 0).map (·.n)) (l.drop 0)):=ħ (by rw[<- hV];rfl);rw[hV];clear hk hn hok hV
 go_enter Tryz.func125,Tryz.ntmps125
 go_wp2_with fail
 go_loopw [3] (fun cc wr=>∃ (i:Nat),cc = .int .i64 i/\i<=n/\Hid (RowKit.Below w.heap.size w wr)/\Hid (V=vbG ((l.take i).map (·.n)) (l.drop i))) (fun c _=>(n-intOf c).toNat)
 case atStart=>exact⟨0,rfl,by omega,B0,HV⟩
 case round =>
  clear B0 HV;obtain⟨i,rfl,hi,hw,hv⟩:=hrel;have e2:IntKind.i64.wrap ((i:Int)+1)=((i+1:Nat):Int):=đh _ (by omega);by_cases hlt:i<n
  ·have ii:(i:Int)<n:=by omega
   have HQA:Hid (∀ W,RowKit.Below w.heap.size w W->∃ g off,ao=some ⟨g,off,none⟩/\g<w.heap.size/\∀ j b,l[j]?=some b->Zav W g (off+j*2) [.string (Zad b.n),.int .i64 b.v]):=ħ (fun W hW=>by
    rcases HK.o W hW with h | ⟨g,off,h1,h2,h3,h4⟩
    ·rw[h] at HN;have:=HN.o;simp at this;omega
    ·rcases HK.o w (đc _ _) with h' | ⟨g',off',h1',h2',h3',h4'⟩
     ·rw[h'] at HN;have:=HN.o;simp at this;omega
     ·have e:g'=g:=by rw[h1] at h1';injection h1' with h1';injection h1' with h1' _;exact h1'.symm
      exact⟨g,off,h1,by rw[<- e];exact h3',fun j b hb=>Zex h4 j b hb⟩)
   obtain⟨g,off,hao,hg,-⟩:=HQA.o w (đc _ _)
   have HRD:Hid (∀ W,RowKit.Below w.heap.size w W->∀ j b,l[j]?=some b->Zav W g (off+j*2) [.string (Zad b.n),.int .i64 b.v]):=ħ (fun W hW=>by
    obtain⟨g',off',h1,-,h3⟩:=HQA.o W hW;rw[hao] at h1;injection h1 with h1;injection h1 with e1 e2;subst e1 e2
    exact h3)
   have HGS:=ħ hg;have HAO:=ħ hao;clear HQA hg;subst hao;have HQ:Hid (∃ q,l[i]?=some q):=ħ ⟨_,đb (by rw[<- HN.o];exact hlt)⟩;obtain⟨q,hqi⟩:=HQ.o;have HQI:=ħ hqi;have HST:=ħ (hv.o.trans (Ziw l i q hqi));have HNM:=ħ (HOK.o q (đe hqi));have hrd:=HRD.o wr hw.o i q hqi;have s0:=hrd 0 _ rfl;have s1:=hrd 1 _ rfl;rw[Nat.add_zero] at s0;have HVN:=ħ (fun W=>Zhq q.n W HNM.o.2 HNM.o.1);have HEQ:=ħ (fun(b:Bnd) (hb:b∈l)=>Zeg b.n q.n (HOK.o b hb).1 HNM.o.1);have HMT:Hid (decide (q.n∈(l.take i).map (·.n))=decide (q.n∈(l.take i).map (·.n))):=ħ rfl;clear hrd hqi HQ hv;obtain⟨mt,hmt⟩:∃ mt,decide (q.n∈(l.take i).map (·.n))=mt:=⟨_,rfl⟩;have HM2:=ħ hmt;rw[hmt] at HST;clear hmt HMT;generalize hnm:Zad q.n=y at *;have HNY:=ħ hnm;clear hnm;generalize q.v=v at *;generalize Za5 q.n=vn at *
   go_wp2_with fail
   refine(HVN.o wr).mono ?_;rintro e w2 ⟨rfl,b2⟩;have W2:=ħ (hw.o.trans (b2.mono hw.o.size));have s0':=cell_later b2 s0;have s1':=cell_later b2 s1;clear b2 hw s0 s1
   cases vn with
   | false =>
    have HF:Hid (V=false):=ħ (by rw[HST.o,đq,Bool.and_false])
    go_wp2
    go_ret;exact⟨Zac HF.o.symm,W2.o⟩
   | true =>
    by_cases v0:v<0
    ·have HF:Hid (V=false):=ħ (by rw[HST.o,decide_eq_false (show ¬ 0<=v by omega),đq,Bool.and_false,Bool.and_false])
     go_wp2
     go_ret;exact⟨Zac HF.o.symm,W2.o⟩
    ·by_cases v1:65535<v
     ·have HF:Hid (V=false):=ħ (by rw[HST.o,decide_eq_false (show ¬ v<=65535 by omega),đq,Bool.and_false,Bool.and_false,Bool.and_false])
      go_wp2
      go_ret;exact⟨Zac HF.o.symm,W2.o⟩
     ·have HF:Hid (V=(!mt&&vbG ((l.take (i+1)).map (·.n)) (l.drop (i+1)))):=ħ (by rw[HST.o,decide_eq_true (show 0<=v by omega),decide_eq_true (show v<=65535 by omega),đk,đk,đk])
      clear HST
      go_wp2_with fail
      clear s0' s1';have Z2:=ħ (đc w2.heap.size w2);have N0:Hid (q.n ∉ (l.take 0).map (·.n)):=ħ (by simp)
      go_loopw [4] (fun cc wr=>∃ (k:Nat),cc = .int .i64 k/\k<=i/\Hid (RowKit.Below w2.heap.size w2 wr)/\Hid (q.n ∉ (l.take k).map (·.n))) (fun c _=>(i-intOf c).toNat)
      case atStart=>exact⟨0,rfl,by omega,Z2,N0⟩
      case round =>
       clear Z2 N0;obtain⟨k,rfl,hk,hq,hnk⟩:=hrel;have e3:IntKind.i64.wrap ((k:Int)+1)=((k+1:Nat):Int):=đh _ (by omega);have W3:=ħ (W2.o.trans (hq.o.mono W2.o.size));by_cases hkl:k<i
       ·have kk:(k:Int)<i:=by omega
        have kn:(k:Int)<n:=by omega
        have HQ:Hid (∃ b,l[k]?=some b):=ħ ⟨_,đb (by rw[<- HN.o];omega)⟩;obtain⟨b,hbk⟩:=HQ.o;have t0:wr.cell? ⟨g,off+k*2,none⟩=some (.string (Zad b.n)):=HRD.o wr W3.o k b hbk 0 _ rfl
        have s0:wr.cell? ⟨g,off+i*2,none⟩=some (.string y):=by rw[<- HNY.o];exact HRD.o wr W3.o i q HQI.o 0 _ rfl
        have he:=HEQ.o b (đe hbk);have HTK:Hid ((l.take (k+1)).map (·.n)=(l.take k).map (·.n)++[b.n]):=ħ (by rw[đv,hbk,List.map_append];rfl)
        have HBI:Hid ((b.n==q.n)=true->q.n∈(l.take i).map (·.n)):=ħ (fun h=>by
         have hb2:b∈l.take i:=đe (i:=k) (by rw[List.getElem?_take,if_pos hkl];exact hbk)
         exact List.mem_map.2 ⟨b,hb2,by simpa using h⟩)
        have HNB:Hid ((b.n==q.n)=false->q.n≠b.n):=ħ (fun h e=>by rw[e] at h;simp at h);clear hbk HQ;generalize (b.n==q.n)=rb at *;generalize Zad b.n=z at *
        go_upto_region 9 with(fail)
        go_quiet (fail)
        have Q2:=ħ (below_drewN hq.o nq);have W4:=ħ (below_drewN W3.o nq);clear hq s0 t0 W3;generalize wr.drewN nq=wd at *
        cases rb with
        | true =>
         have HX:Hid (V=false):=ħ (by rw[HF.o,<- HM2.o,decide_eq_true (HBI.o rfl)];rfl)
         go_wp2
         go_ret;exact⟨Zac HX.o.symm,W4.o⟩
        | false =>
         have HN2:Hid (q.n ∉ (l.take (k+1)).map (·.n)):=ħ (by
          rw[HTK.o,đt];rintro (h | h)
          ·exact hnk.o h
          ·exact HNB.o rfl (by simpa using h))
         go_wp2
         go_roundw
         case rel=>exact⟨k+1,by go_num,by omega,Q2,HN2⟩
         case measure=>simp only[intOf];omega
       ·have kk:¬ ((k:Int)<i):=by omega
        obtain rfl:k=i:=by omega
        have HX:Hid (V=vbG ((l.take (k+1)).map (·.n)) (l.drop (k+1))):=ħ (by rw[HF.o,<- HM2.o,decide_eq_false hnk.o];rfl)
        go_wp2
        go_roundw
        case rel=>exact⟨k+1,by go_num,by omega,W3,HX⟩
        case measure=>simp only[intOf];omega
  ·have ii:¬ ((i:Int)<n):=by omega
   have HX:Hid (V=true):=ħ (by rw[hv.o,List.drop_eq_nil_of_le (by rw[<- HN.o];omega),vbG])
   go_wp2
   go_ret;exact⟨Zac HX.o.symm,hw.o⟩
end Go.Proofs.YtbcgocpihobjnaaGreatDoor
