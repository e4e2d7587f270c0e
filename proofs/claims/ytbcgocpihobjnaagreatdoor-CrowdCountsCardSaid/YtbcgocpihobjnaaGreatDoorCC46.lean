import Derived.Test.YtbcgocpihobjnaaGreatDoorCC45
import Derived.Test.YtbcgocpihobjnaaGreatDoorCC24
import Derived.Test.YtbcgocpihobjnaaGreatDoorCC13
import Derived.Test.YtbcgocpihobjnaaGreatDoorCC36
set_option linter.all false
set_option maxHeartbeats 16000000
set_option maxRecDepth 100000
namespace Go.Proofs.YtbcgocpihobjnaaGreatDoor
section
open Go.RowKit Go.Sort Go.Maps
def Zh1(c:Crw)(uses:List Nat):Crw:=⟨c.qs,c.ms,uses.map (fun u=>c.us.getD u ⟨0,0,0,0⟩)⟩
def Zhb(C:List (List Bool))(uses:List Nat):List (List Bool):=uses.map (fun u=>C.getD u [])
def Zxs(uses:List Nat)(own:List Int)(i:Nat):Bool:=own.contains ((uses.getD i 0:Nat):Int)
def Zf3(uses:List Nat)(own:List Int):List Nat:=(List.range uses.length).filter (Zxs uses own)
def Sep(a b:Option Addr):Prop:=∀ x,blk a=some x->blk b≠some x
theorem Sep.symm{a b:Option Addr}(h:Sep a b):Sep b a:=fun x h1 h2=>h x h2 h1
theorem Sep.new{n g off:Nat}{a b:Option Addr}(h:blk a=some g\/n<=g)(hs:Sep a b)(hb:∀ x,blk b=some x->x<n):Sep (some ⟨g,off,none⟩) b:=fun x h1 h2=>by
 have e:g=x:=đa h1;subst e;rcases h with h | h
 ·exact hs g h h2
 ·have:=hb g h2;omega
theorem Sep.none(b:Option Addr):Sep none b:=fun x h=>by cases h
theorem Zpc{α:Type}{l:List α}{i:Nat}{x:α}(h:l[i]?=some x):l.take (i+1)=l.take i++[x]:=by
 rw[đv,h];rfl
theorem OwnK.cap_le{w:World}{B k n cap:Nat}{xs:List Value}{ao:Option Addr}(h:OwnK w B k n cap xs ao):n<=cap:=by
 cases h with
 | nil h1 h2 h3=>omega
 | «at» g off h1 h2 h3 h4=>exact h4
theorem Zxt(w:World)(l:List Int)(lo:Option Addr)(lc:Nat)(x:Int)(hl:Zan Zbg w lo l)(hll:l.length<=1000000) :
  Calls Tryz.prog 155 #[.slice lo l.length lc,.int .i64 x] w fun e w'=>e = .returned (.bool (l.contains x))/\w=w':=by
 rcases hl with h | ⟨g,off,h1,h2,h3⟩
 ·subst h
  exact(Tryz.slices_Contains_int_empty lo lc x w).mono (fun e w' ⟨a,b⟩=>⟨a,b.symm⟩)
 ·subst h1
  refine(Tryz.slices_Contains_int g off l.length lc l x w (đd _) (by omega) (fun j hj=>?_)).mono (fun e w' ⟨a,b⟩=>⟨by rw[a,List.take_length],b.symm⟩);have:=h3 j (.int .i64 l[j]) (by rw[<- Zed];unfold ivs;rw[đj,đb hj];rfl);rw[this,đf,đb hj];rfl
theorem Z0v(w:World)(Q:Nat->Prop)(A:Nat)(c:Crw)(H C:List (List Bool))(uses:List Nat)(po:Option Addr)(pc:Nat)(own:List Int)(oo:Option Addr)(oc:Nat)(hr:Zd3 w Q A c H C)(hQ:∀ g,Q g->g<w.heap.size)(hok:ReckOk c C)(hu:Zan Zbg w po (uses.map Int.ofNat))(hul:uses.length<=1000)(hui:∀ u∈uses,u<c.us.length)(hown:Zan Zbg w oo own)(hol:own.length<=1000000) :
  Calls Tryz.prog 102 #[.pointer (some ⟨A,0,none⟩),.slice po uses.length pc,.slice oo own.length oc] w fun e w'=>(∃ X mo cap,e = .returned (.tuple #[.pointer (some ⟨X,0,none⟩),.slice mo (Zf3 uses own).length cap])/\Zd3 w' Q X (Zh1 c uses) H (Zhb C uses)/\OwnK w' w.heap.size 1 (Zf3 uses own).length cap (Za0 (Zf3 uses own)) mo)/\Below w.heap.size w w':=by
 have hU:=hok.nu;have HMF:Hid (Zf3 uses own=(List.range uses.length).filter (Zxs uses own)):=ħ rfl
 have HPB:Hid (∀ (i u:Nat),uses[i]?=some u->Zxs uses own i=own.contains (u:Int)):=ħ (fun i u h=>by
  unfold Zxs
  rw[đf,h];rfl)
 have HCT:=ħ (fun W (hW:Below w.heap.size w W) x=>Zxt W own oo oc x (hown.below hW) hol);have HPW:=ħ (fun W (hW:Below w.heap.size w W)=>hu.below hW);have HUG:Hid (∀ (i:Nat),i<uses.length->∃ u,uses[i]?=some u/\u<c.us.length):=ħ (fun i h=>⟨uses[i],đb h,hui _ (List.getElem_mem h)⟩);obtain⟨qo,mo,uo,ho,co,qc,mc,uc,hc,cc,hA,hQA,hcu0,hcc0,hRW,hrows0⟩:=hr;have hR:=hRW w (Only.refl _ _);obtain⟨vals,hvl,hvs,hvn,hvr⟩:=Zo7 hR.c;have AW:=ħ (fun W (hW:Below w.heap.size w W)=>hA.step hW);unfold Ze0 at AW;have HQW:=ħ (fun W (hW:Below w.heap.size w W)=>hR.q.below hW);have HMW:=ħ (fun W (hW:Below w.heap.size w W)=>hR.m.below hW);have HHW:=ħ (fun W (hW:Below w.heap.size w W)=>hR.h.below hW)
 have HUCE:Hid (∀ (u:Nat),u<c.us.length->∃ gu ou y,uo=some ⟨gu,ou,none⟩/\c.us[u]?=some y/\∀ W,Below w.heap.size w W->W.cell? ⟨gu,ou+u*4,none⟩=some (.int .i64 y.q)/\W.cell? ⟨gu,ou+u*4+1,none⟩=some (.int .i64 y.w)/\W.cell? ⟨gu,ou+u*4+2,none⟩=some (.int .i64 y.f)/\W.cell? ⟨gu,ou+u*4+3,none⟩=some (.int .i64 y.h)):=ħ (fun u hu=>by
  obtain⟨y,hy⟩:∃ y,c.us[u]?=some y:=⟨_,đb hu⟩;obtain⟨gu,ou,huo,hgu,-⟩:=hR.u.at Zbj u y hy;refine⟨gu,ou,y,huo,hy,fun W hW=>?_⟩;obtain⟨g2,o2,h2,-,hcu⟩:=(hR.u.below hW).at Zbj u y hy;rw[huo] at h2;injection h2 with h2;injection h2 with e1 e2;subst e1 e2
  exact⟨by have:=hcu 0 _ rfl;rwa [Nat.add_zero] at this,hcu 1 _ rfl,hcu 2 _ rfl,hcu 3 _ rfl⟩)
 have HCCE:Hid (∀ (u:Nat),u<c.us.length->∃ gv ov bo bc row,co=some ⟨gv,ov,none⟩/\C[u]?=some row/\vals[u]?=some (.slice bo c.ms.length bc)/\row.length=c.ms.length/\(∀ W,Only w W Q->Zan Zc5 W bo row)/\∀ W,Below w.heap.size w W->W.cell? ⟨gv,ov+u,none⟩=some (.slice bo c.ms.length bc)):=ħ (fun u hu=>by
  obtain⟨row,hrow⟩:∃ y,C[u]?=some y:=⟨_,đb (by rw[hok.len];exact hu)⟩;have hrl:=hok.row row (đe hrow);obtain⟨bo2,bc2,hv,-⟩:=hvs u row hrow;rw[hrl] at hv;rcases hvr with h | ⟨gv,ov,h1,h2,h3⟩
  ·rw[hok.len] at h;omega
  ·rcases hrows0 with h | ⟨g,off,e1,hg,hq,h6⟩
   ·rw[h] at hrow;simp at hrow
   ·obtain⟨bo,bc,h7,h8⟩:=h6 u row hrow
    rw[e1] at h1;injection h1 with h1;injection h1 with e2 e3;subst e2 e3;have h9:=h3 u _ hv;rw[h7,hrl] at h9;have h9:=đa h9;refine⟨g,off,bo,bc,row,e1,hrow,by rw[h9];exact hv,hrl,h8,fun W hW=>?_⟩
    rw[đx (w:=w) (a:=⟨g,off+u,none⟩) (hW.block g hg),h7,hrl])
 obtain⟨usT,husT⟩:∃ f:Nat->List Use,f=fun i=>(uses.take i).map (fun u=>c.us.getD u ⟨0,0,0,0⟩):=⟨_,rfl⟩
 obtain⟨vsT,hvsT⟩:∃ f:Nat->List Value,f=fun i=>(uses.take i).map (fun u=>vals.getD u undef):=⟨_,rfl⟩
 have HUTN:Hid (∀ (i u:Nat) (y:Use),uses[i]?=some u->c.us[u]?=some y->(usT (i+1)).flatMap Zcg=(usT i).flatMap Zcg++[.int .i64 y.q,.int .i64 y.w,.int .i64 y.f,.int .i64 y.h]):=ħ (fun i u y h1 h2=>by
  rw[husT];show((uses.take (i+1)).map _).flatMap Zcg=((uses.take i).map _).flatMap Zcg++_
  rw[Zpc h1,List.map_append,List.flatMap_append,List.map_singleton,List.flatMap_singleton,đf,h2];rfl)
 have HVTN:Hid (∀ (i u:Nat) (v:Value),uses[i]?=some u->vals[u]?=some v->vsT (i+1)=vsT i++[v]):=ħ (fun i u v h1 h2=>by
  rw[hvsT];show(uses.take (i+1)).map _=(uses.take i).map _++_
  rw[Zpc h1,List.map_append,List.map_singleton,đf,h2];rfl)
 have HU0:Hid ((usT 0).flatMap Zcg=[]):=ħ (by rw[husT];rfl);have HV0:Hid (vsT 0=[]):=ħ (by rw[hvsT];rfl)
 have HFIN:Hid (∀ W X uo' uc' co' cc',Below w.heap.size w W->w.heap.size<=X->Zae W X 113 [.slice qo c.qs.length qc,.slice mo c.ms.length mc,.slice uo' uses.length uc',.slice ho H.length hc,.slice co' uses.length cc']->OwnK W w.heap.size 4 uses.length uc' ((usT uses.length).flatMap Zcg) uo'->OwnK W w.heap.size 1 uses.length cc' (vsT uses.length) co'->Zd3 W Q X (Zh1 c uses) H (Zhb C uses)):=ħ (fun W X uo' uc' co' cc' hW hXX hX hUS hCN=>by
  rw[husT] at hUS;rw[hvsT] at hCN;have hUS:OwnK W w.heap.size 4 uses.length uc' (((uses.take uses.length).map (fun u=>c.us.getD u ⟨0,0,0,0⟩)).flatMap Zcg) uo':=hUS;have hCN:OwnK W w.heap.size 1 uses.length cc' ((uses.take uses.length).map (fun u=>vals.getD u undef)) co':=hCN;rw[List.take_length] at hUS hCN;have hl1:(Zh1 c uses).us.length=uses.length:=đr _;have hl2:(Zhb C uses).length=uses.length:=đr _
  have hrows:∀ (i:Nat) (row:List Bool),(Zhb C uses)[i]?=some row->∃ (bo:Option Addr) (bc:Nat),(uses.map (fun u=>vals.getD u undef))[i]?=some (Value.slice bo row.length bc)/\∀ W',Only w W' Q->Zan Zc5 W' bo row:=fun i row hi=>by
    unfold Zhb at hi;rw[đj] at hi
    cases hu2:uses[i]? with
    | none=>rw[hu2] at hi;cases hi
    | some u =>
     rw[hu2] at hi;have hi:C.getD u []=row:=đa hi;obtain⟨gv,ov,bo,bc,row',h1,h2,h3,h4,h5,-⟩:=HCCE.o u (hui u (đe hu2));rw[đf,h2] at hi;have hi:row'=row:=hi;subst hi;refine⟨bo,bc,?_,h5⟩;rw[đj,hu2,h4];show some (vals.getD u undef)=_;rw[đf,h3];rfl
  have hglue:∀ W',Only W W' Q->Only w W' Q:=fun W' oW=>(Only.of_below hW:Only w W Q).glue oW (fun g _ h=>h)
  have hold:∀ g,w.heap.size<=g->¬ Q g:=fun g h1 h2=>by have:=hQ g h2;omega
  have hC0:∀ W',Only W W' Q->Zfb W' (Zhb C uses) co':=fun W' oW=>by
   have hCN':=hCN.of_block (fun g e hl=>oW.block g hl (hold g (hCN.blk_lt e).1)) oW.size
   cases hCN' with
   | nil h1 h2 h3 =>
    left
    apply List.length_eq_zero_iff.1;rw[hl2];have:=congrArg List.length h1;rw[đr] at this;simpa using this
   | «at» g off h1 h2 h3 h4=>exact Zm8 (.at g off h1 h2 h3 h4) (fun i row hi=>by
     obtain⟨bo,bc,h5,h6⟩:=hrows i row hi
     exact⟨bo,bc,h5,h6 W' (hglue W' oW)⟩)
  refine⟨qo,mo,uo',ho,co',qc,mc,uc',hc,cc',?_,hold X hXX,by rw[hl1];exact hUS.cap_le,by rw[hl2];exact hCN.cap_le,fun W' oW=>?_,?_⟩
  ·unfold Ze0
   rw[hl1,hl2];exact hX
  ·have hR':=hRW W' (hglue W' oW)
   exact⟨hR'.q,hR'.m,(hUS.of_block (fun g e hl=>oW.block g hl (hold g (hUS.blk_lt e).1)) oW.size).flatR Zbj hl1.symm,hR'.h,hC0 W' oW⟩
  ·cases hCN with
   | nil h1 h2 h3 =>
    left
    apply List.length_eq_zero_iff.1;rw[hl2];have:=congrArg List.length h1;rw[đr] at this;simpa using this
   | «at» g off h1 h2 h3 h4 =>
    refine .inr ⟨g,off,rfl,h1.lt,hold g h1.own,fun i row hi=>?_⟩;obtain⟨bo,bc,h5,h6⟩:=hrows i row hi
    exact⟨bo,bc,h1.cells i _ h5,fun W' oW=>h6 W' (hglue W' oW)⟩)
 have hnc:=hok.len;clear hA hR hQA hcu0 hcc0 hRW hrows0 hQ hvl hvs hvn hvr hok hu hui hown hol husT hvsT;generalize c.qs.length=nq at *;generalize c.ms.length=nm at *;generalize c.us.length=nu at *;generalize H.length=nh at *;generalize C.length=nc at *;generalize Zf3 uses own=MF at *;generalize Zxs uses own=pb at *;generalize own.length=ol at *;generalize hL:uses.length=L at *;clear hL
 go_enter Tryz.func102,Tryz.ntmps102
 go_upto_region 1 with(fail)
 refine Za8 [0,1,2,3,4,5,6,7,8] [9,10] (fun w'=>Zae w' A 113 [.slice qo nq qc,.slice mo nm mc,.slice uo nu uc,.slice ho nh hc,.slice co nc cc]) (by kernel_rfl) (by kernel_rfl) (by kernel_rfl) (fun _ _ d _ _ h=>by cases d<;>exact h) ((AW.o w (đc _ _)).step (đc _ _).drew) ?_;simp only[Zb6,List.filterMap_cons,List.filterMap_nil,List.getElem?_cons_zero,List.getElem?_cons_succ,Option.map_some,List.map_cons,List.map_nil];apply Exists.intro;refine⟨?hh,?ht⟩
 case hh =>
  intro w' hw';have c0:=hw'.cell 0 _ rfl;have c1:=hw'.cell 1 _ rfl;have c2:=hw'.cell 2 _ rfl;have c3:=hw'.cell 3 _ rfl;clear hw'
  repeat still_step
  exact wpStill_nil rfl
 case ht =>
  have B2:=ħ ((đc w.heap.size w).drew);generalize w.drew=w2 at *;have A2:=AW.o w2 B2.o;have bx:=(đc w2.heap.size w2).alloc (đd _) (.cells #[.slice qo nq qc,.slice mo nm mc,.slice uo nu uc,.slice ho nh hc,.slice none 0 0] 113);refine Zah ?_
  go_wp2_with fail
  refine Zaa ⟨A2.step bx,?_⟩;obtain⟨X,hX⟩:∃ y,w2.heap.size=y:=⟨_,rfl⟩;have XV:Hid (Zae (w2.alloc (.cells #[.slice qo nq qc,.slice mo nm mc,.slice uo nu uc,.slice ho nh hc,.slice none 0 0] 113)) X 113 [.slice qo nq qc,.slice mo nm mc,.slice uo nu uc,.slice ho nh hc,.slice none 0 0]):=ħ (Zae.newAt _ _ _ _ hX.symm);have B3:=ħ (B2.o.trans (bx.mono B2.o.size));have HXX:Hid (w.heap.size<=X):=ħ (by rw[<- hX];exact B2.o.size);rw[hX];clear bx A2 hX B2;generalize w2.alloc (.cells #[.slice qo nq qc,.slice mo nm mc,.slice uo nu uc,.slice ho nh hc,.slice none 0 0] 113)=w3 at *;refine Zbu ?_;have t3:=XV.o.cell 2 _ rfl;have tf:=XV.o.warm 2
  go_upto_region 3 with(fail)
  clear t3 tf;have on:=(Only.refl w3 (· = X)).setCell (a:=⟨X,2,none⟩) (.slice none 0 0) rfl;have X4:Hid (Zae (w3.setCell ⟨X,2,none⟩ (.slice none 0 0)) X 113 [.slice qo nq qc,.slice mo nm mc,.slice none 0 0,.slice ho nh hc,.slice none 0 0]):=ħ (XV.o.set 2 (.slice none 0 0));have B4:=ħ (Only.later B3.o on (fun g hg=>by have:=HXX.o;omega));clear on XV B3;generalize w3.setCell ⟨X,2,none⟩ (.slice none 0 0)=w4 at *
  go_wp2_with fail
  go_loopw [28,9] (fun iv mv wr=>∃ (i n cap uc' cc':Nat) (mi uo' co':Option Addr),iv = .int .i64 i/\mv = .slice mi n cap/\i<=L/\n<=i/\Hid (((List.range i).filter pb).length=n)/\Hid (OwnK wr w.heap.size 1 n cap (Za0 ((List.range i).filter pb)) mi)/\Hid (OwnK wr w.heap.size 4 i uc' ((usT i).flatMap Zcg) uo')/\Hid (OwnK wr w.heap.size 1 i cc' (vsT i) co')/\Hid (Zae wr X 113 [.slice qo nq qc,.slice mo nm mc,.slice uo' i uc',.slice ho nh hc,.slice co' i cc'])/\Hid (Sep mi (some ⟨X,0,none⟩)/\Sep uo' (some ⟨X,0,none⟩)/\Sep co' (some ⟨X,0,none⟩)/\Sep mi uo'/\Sep mi co'/\Sep uo' co')/\Hid (Below w.heap.size w wr)) (fun i _ _=>(L-intOf i).toNat)
  case atStart=>exact⟨0,0,0,0,0,none,none,none,rfl,rfl,by omega,đd _,ħ rfl,ħ (.nil rfl rfl rfl),ħ (by rw[HU0.o];exact .nil rfl rfl rfl),ħ (by rw[HV0.o];exact .nil rfl rfl rfl),X4,ħ ⟨Sep.none _,Sep.none _,Sep.none _,Sep.none _,Sep.none _,Sep.none _⟩,B4⟩
  case round =>
   clear X4 B4;obtain⟨i,n,cap,uc',cc',mi,uo',co',rfl,rfl,hi,hn,HN,MI,US,CN,XV,SP,BB⟩:=hrel;have e2:IntKind.i64.wrap ((i:Int)+1)=((i+1:Nat):Int):=đh _ (by omega);by_cases hil:i<L
   ·have ii:(i:Int)<L:=by omega
    obtain⟨u,hu,hun⟩:=HUG.o i hil;obtain⟨gl,ol',hlo,hgl,hlc⟩:=(HPW.o wr BB.o).at Zaz i (u:Int) (by rw[đj,hu];rfl);have l0:=hlc 0 _ rfl;rw[Nat.mul_one,Nat.add_zero] at l0;obtain⟨gu,ou,y,huo,hy,hcu⟩:=HUCE.o u hun;obtain⟨gv,ov,bo,bc,row,hco,-,hvu,-,-,hcc⟩:=HCCE.o u hun;have HUT:=ħ (HUTN.o i u y hu hy);have HVT:=ħ (HVTN.o i u _ hu hvu);obtain⟨yq,yw,yf,yh⟩:=y;have HUC:Hid (∀ W,Below w.heap.size w W->W.cell? ⟨gu,ou+u*4,none⟩=some (.int .i64 yq)/\W.cell? ⟨gu,ou+u*4+1,none⟩=some (.int .i64 yw)/\W.cell? ⟨gu,ou+u*4+2,none⟩=some (.int .i64 yf)/\W.cell? ⟨gu,ou+u*4+3,none⟩=some (.int .i64 yh)):=ħ hcu;have HCC2:=ħ hcc;have HPU:=HPB.o i u hu;have HNX:=ħ (Zce pb i);have HCI:=ħ (HCT.o wr BB.o (u:Int));obtain⟨bt,hbt⟩:∃ y,own.contains (u:Int)=y:=⟨_,rfl⟩;rw[hbt] at HPU HCI;have HPU:=ħ HPU
    have uu:(u:Int)<nu:=by omega
    have uv:(u:Int)<nc:=by omega
    have HUO:=ħ huo;have HCO:=ħ hco;subst hlo;subst huo;subst hco;clear hlc hgl hy hcu hcc hvu hu hbt
    go_wp2_with fail
    refine HCI.o.mono ?_;rintro e w2 ⟨rfl,rfl⟩;clear HCI l0
    cases bt with
    | true =>
     have x2:=XV.o.cell 2 _ rfl
     go_upto_region 9 with(at_builtin;refine Zcn 33 3 (.int .i64 0) 1 8 Tryz.underlying33 Zbl rfl (by omega) (by omega) wr w.heap.size rfl (.tmp 35) (.tmp 42) rfl mi cap n (Za0 ((List.range i).filter pb)) ?q1 MI.o BB.o.size 1 1 #[.int .i64 (i:Int)] 3 ?q2 rfl (by omega) ?q3 ?q4 ?_;(case q1=>rfl);(case q2=>rfl);(case q3=>simp[Value.oneCell']);(case q4=>omega);intro g4 off4 c4 wm o8 gr8 b8 or8;have MJ:=ħ o8;have on:=Zb5 gr8;have BC:=ħ (BB.o.trans b8);have hor:=ħ or8;clear o8 gr8 b8 or8)
     have XW:=ħ (XV.o.only on (fun e=>SP.o.1 X e rfl));have UT:=ħ (US.o.of_block (fun g e hl=>on.block g hl (fun e2=>SP.o.2.2.2.1 g e2 e)) on.size);have CO:=ħ (CN.o.of_block (fun g e hl=>on.block g hl (fun e2=>SP.o.2.2.2.2.1 g e2 e)) on.size);have SQ:Hid (Sep (some ⟨g4,off4,none⟩) (some ⟨X,0,none⟩)/\Sep uo' (some ⟨X,0,none⟩)/\Sep co' (some ⟨X,0,none⟩)/\Sep (some ⟨g4,off4,none⟩) uo'/\Sep (some ⟨g4,off4,none⟩) co'/\Sep uo' co'):=ħ ⟨Sep.new hor.o SP.o.1 (fun x e=>by have e:X=x:=đa e;subst e;exact XV.o.lt),SP.o.2.1,SP.o.2.2.1,Sep.new hor.o SP.o.2.2.2.1 (fun x e=>(US.o.blk_lt e).2),Sep.new hor.o SP.o.2.2.2.2.1 (fun x e=>(CN.o.blk_lt e).2),SP.o.2.2.2.2.2⟩;clear on MI US CN XV SP BB hor x2
     go_upto_region 9 with(fail)
     refine Za8 [0,1,2,3,4,5,6,7,8,9,10,11,12,13] [14,15,16,17,18,19] (fun w'=>Zae w' X 113 [.slice qo nq qc,.slice mo nm mc,.slice uo' i uc',.slice ho nh hc,.slice co' i cc']/\Below w.heap.size w w') (by kernel_rfl) (by kernel_rfl) (by kernel_rfl) (fun _ _ d _ _ h=>by cases d<;>exact h) ⟨XW.o.step (đc _ _).drew,BC.o.drew⟩ ?_;simp only[Zb6,List.filterMap_cons,List.filterMap_nil,List.getElem?_cons_zero,List.getElem?_cons_succ,Option.map_some,List.map_cons,List.map_nil];apply Exists.intro;refine⟨?hh,?ht⟩
     case hh =>
      intro w' hw';have x2:=hw'.1.cell 2 _ rfl;have a2:=(AW.o w' hw'.2).cell 2 _ rfl;obtain⟨k0,k1,k2,k3⟩:=HUC.o w' hw'.2;clear hw'
      repeat still_step
      exact wpStill_nil rfl
     case ht =>
      have BD:=(đc wm.heap.size wm).drew;have X3:=ħ (XW.o.step BD);have MI3:=ħ (MJ.o.below BD);have US3:=ħ (UT.o.below BD);have CN3:=ħ (CO.o.below BD);have B3:=ħ (BC.o.trans (BD.mono BC.o.size));have SP3:=SQ;clear BD;generalize wm.drew=w3 at *;refine Zah ?_
      go_wp2_with fail
      have bz:=(đc w3.heap.size w3).alloc (đd _) (.cells #[.int .i64 yq,.int .i64 yw,.int .i64 yf,.int .i64 yh] 39);refine Zaa ⟨⟨X3.o.step bz,B3.o.trans (bz.mono B3.o.size)⟩,?_⟩;clear bz;refine Zah ?_
      go_wp2_with (at_builtin;refine Zcn 24 39 (.agg #[.int .i64 0,.int .i64 0,.int .i64 0,.int .i64 0]) 4 32 Tryz.underlying24 Zj1 rfl (by omega) (by omega) w3 w.heap.size rfl (.tmp 49) (.tmp 58) rfl uo' uc' i ((usT i).flatMap Zcg) ?t1 US3.o B3.o.size 1 1 #[.int .i64 yq,.int .i64 yw,.int .i64 yf,.int .i64 yh] 39 ?t2 rfl (by omega) ?t3 ?t4 ?_;(case t1=>rfl);(case t2=>rfl);(case t3=>simp[Value.oneCell']);(case t4=>omega);intro g5 off5 c5 wa o8 gr8 b8 or8;have US4:=ħ o8;have on:=Zb5 gr8;have B4:=ħ (B3.o.trans b8);have hor:=ħ or8;clear o8 gr8 b8 or8)
      have X4:=ħ (X3.o.only on (fun e=>SP3.o.2.1 X e rfl));have MI4:=ħ (MI3.o.of_block (fun g e hl=>on.block g hl (fun e2=>SP3.o.2.2.2.1 g e e2)) on.size);have CN4:=ħ (CN3.o.of_block (fun g e hl=>on.block g hl (fun e2=>SP3.o.2.2.2.2.2 g e2 e)) on.size);have SP4:Hid (Sep (some ⟨g4,off4,none⟩) (some ⟨X,0,none⟩)/\Sep (some ⟨g5,off5,none⟩) (some ⟨X,0,none⟩)/\Sep co' (some ⟨X,0,none⟩)/\Sep (some ⟨g4,off4,none⟩) (some ⟨g5,off5,none⟩)/\Sep (some ⟨g4,off4,none⟩) co'/\Sep (some ⟨g5,off5,none⟩) co'):=ħ ⟨SP3.o.1,Sep.new hor.o SP3.o.2.1 (fun x e=>by have e:X=x:=đa e;subst e;exact X3.o.lt),SP3.o.2.2.1,(Sep.new hor.o SP3.o.2.2.2.1.symm (fun x e=>(MI3.o.blk_lt e).2)).symm,SP3.o.2.2.2.2.1,Sep.new hor.o SP3.o.2.2.2.2.2 (fun x e=>(CN3.o.blk_lt e).2)⟩;clear on X3 MI3 US3 CN3 SP3 B3 hor;refine Zaa ⟨⟨X4.o,B4.o⟩,?_⟩;refine Zah ?_
      go_wp2_with fail
      refine Zaa ⟨⟨X4.o,B4.o⟩,?_⟩;refine Zah ?_
      go_wp2_with fail
      refine Zaa ⟨⟨X4.o,B4.o⟩,?_⟩;refine Zah ?_
      go_wp2_with fail
      refine Zaa ⟨⟨X4.o,B4.o⟩,?_⟩;refine Zbu ?_;have t3:=X4.o.cell 2 _ rfl;have tf:=X4.o.warm 2
      go_upto_region 10 with(fail)
      clear t3 tf;have on:=(Only.refl wa (· = X)).setCell (a:=⟨X,2,none⟩) (.slice (some ⟨g5,off5,none⟩) (i+1) c5) rfl;have X5:=ħ (X4.o.set 2 (.slice (some ⟨g5,off5,none⟩) (i+1) c5));have MI5:=ħ (MI4.o.of_block (fun g e hl=>on.block g hl (fun e2=>SP4.o.1 g e (by rw[e2];rfl))) on.size);have US5:=ħ (US4.o.of_block (fun g e hl=>on.block g hl (fun e2=>SP4.o.2.1 g e (by rw[e2];rfl))) on.size);have CN5:=ħ (CN4.o.of_block (fun g e hl=>on.block g hl (fun e2=>SP4.o.2.2.1 g e (by rw[e2];rfl))) on.size);have B5:=ħ (Only.later B4.o on (fun g hg=>by have:=HXX.o;omega));clear on X4 MI4 US4 CN4 B4;generalize wa.setCell ⟨X,2,none⟩ (.slice (some ⟨g5,off5,none⟩) (i+1) c5)=w5 at *;refine Za8 [0,1,2,3,4,5,6,7,8,9,10,11] [12,13,14,15,16] (fun w'=>Zae w' X 113 [.slice qo nq qc,.slice mo nm mc,.slice (some ⟨g5,off5,none⟩) (i+1) c5,.slice ho nh hc,.slice co' i cc']/\Below w.heap.size w w') (by kernel_rfl) (by kernel_rfl) (by kernel_rfl) (fun _ _ d _ _ h=>by cases d<;>exact h) ⟨X5.o.step (đc _ _).drew,B5.o.drew⟩ ?_;simp only[Zb6,List.filterMap_cons,List.filterMap_nil,List.getElem?_cons_zero,List.getElem?_cons_succ,Option.map_some,List.map_cons,List.map_nil];apply Exists.intro;refine⟨?hh2,?ht2⟩
      case hh2 =>
       intro w' hw';have x4:=hw'.1.cell 4 _ rfl;have a4:=(AW.o w' hw'.2).cell 4 _ rfl;have k4:=HCC2.o w' hw'.2;clear hw'
       repeat still_step
       exact wpStill_nil rfl
      case ht2 =>
       have BD:=(đc w5.heap.size w5).drew;have X6:=ħ (X5.o.step BD);have MI6:=ħ (MI5.o.below BD);have US6:=ħ (US5.o.below BD);have CN6:=ħ (CN5.o.below BD);have B6:=ħ (B5.o.trans (BD.mono B5.o.size));clear BD X5 MI5 US5 CN5 B5;generalize w5.drew=w6 at *;refine Zah ?_
       go_wp2_with fail
       have bz:=(đc w6.heap.size w6).alloc (đd _) (.cells #[.slice bo nm bc] 87);refine Zaa ⟨⟨X6.o.step bz,B6.o.trans (bz.mono B6.o.size)⟩,?_⟩;clear bz;refine Zah ?_
       go_wp2_with (at_builtin;refine Zcn 86 87 (.slice none 0 0) 1 24 Tryz.underlying86 Zb4 rfl (by omega) (by omega) w6 w.heap.size rfl (.tmp 67) (.tmp 75) rfl co' cc' i (vsT i) ?t1 CN6.o B6.o.size 1 1 #[.slice bo nm bc] 87 ?t2 rfl (by omega) ?t3 ?t4 ?_;(case t1=>rfl);(case t2=>rfl);(case t3=>simp[Value.oneCell']);(case t4=>omega);intro g6 off6 c6 wb o8 gr8 b8 or8;have CN7:=ħ o8;have on:=Zb5 gr8;have B7:=ħ (B6.o.trans b8);have hor:=ħ or8;clear o8 gr8 b8 or8)
       have X7:=ħ (X6.o.only on (fun e=>SP4.o.2.2.1 X e rfl));have MI7:=ħ (MI6.o.of_block (fun g e hl=>on.block g hl (fun e2=>SP4.o.2.2.2.2.1 g e e2)) on.size);have US7:=ħ (US6.o.of_block (fun g e hl=>on.block g hl (fun e2=>SP4.o.2.2.2.2.2 g e e2)) on.size);have SP7:Hid (Sep (some ⟨g4,off4,none⟩) (some ⟨X,0,none⟩)/\Sep (some ⟨g5,off5,none⟩) (some ⟨X,0,none⟩)/\Sep (some ⟨g6,off6,none⟩) (some ⟨X,0,none⟩)/\Sep (some ⟨g4,off4,none⟩) (some ⟨g5,off5,none⟩)/\Sep (some ⟨g4,off4,none⟩) (some ⟨g6,off6,none⟩)/\Sep (some ⟨g5,off5,none⟩) (some ⟨g6,off6,none⟩)):=ħ ⟨SP4.o.1,SP4.o.2.1,Sep.new hor.o SP4.o.2.2.1 (fun x e=>by have e:X=x:=đa e;subst e;exact X6.o.lt),SP4.o.2.2.2.1,(Sep.new hor.o SP4.o.2.2.2.2.1.symm (fun x e=>(MI6.o.blk_lt e).2)).symm,(Sep.new hor.o SP4.o.2.2.2.2.2.symm (fun x e=>(US6.o.blk_lt e).2)).symm⟩;clear on X6 MI6 US6 CN6 SP4 B6 hor;refine Zaa ⟨⟨X7.o,B7.o⟩,?_⟩;refine Zah ?_
       go_wp2_with fail
       refine Zaa ⟨⟨X7.o,B7.o⟩,?_⟩;refine Zah ?_
       go_wp2_with fail
       refine Zaa ⟨⟨X7.o,B7.o⟩,?_⟩;refine Zbu ?_;have t3:=X7.o.cell 4 _ rfl;have tf:=X7.o.warm 4
       go_upto_region 11 with(fail)
       clear t3 tf;have on:=(Only.refl wb (· = X)).setCell (a:=⟨X,4,none⟩) (.slice (some ⟨g6,off6,none⟩) (i+1) c6) rfl;have X8:=ħ (X7.o.set 4 (.slice (some ⟨g6,off6,none⟩) (i+1) c6));have MI8:=ħ (MI7.o.of_block (fun g e hl=>on.block g hl (fun e2=>SP7.o.1 g e (by rw[e2];rfl))) on.size);have US8:Hid (OwnK (wb.setCell ⟨X,4,none⟩ (.slice (some ⟨g6,off6,none⟩) (i+1) c6)) w.heap.size 4 (i+1) c5 ((usT (i+1)).flatMap Zcg) (some ⟨g5,off5,none⟩)):=ħ (by rw[HUT.o];exact US7.o.of_block (fun g e hl=>on.block g hl (fun e2=>SP7.o.2.1 g e (by rw[e2];rfl))) on.size);have CN8:Hid (OwnK (wb.setCell ⟨X,4,none⟩ (.slice (some ⟨g6,off6,none⟩) (i+1) c6)) w.heap.size 1 (i+1) c6 (vsT (i+1)) (some ⟨g6,off6,none⟩)):=ħ (by rw[HVT.o];exact CN7.o.of_block (fun g e hl=>on.block g hl (fun e2=>SP7.o.2.2.1 g e (by rw[e2];rfl))) on.size);have B8:=ħ (Only.later B7.o on (fun g hg=>by have:=HXX.o;omega));clear on X7 MI7 US7 CN7 B7;generalize wb.setCell ⟨X,4,none⟩ (.slice (some ⟨g6,off6,none⟩) (i+1) c6)=w8 at *
       go_wp2_with fail
       go_roundw
       case rel=>exact⟨i+1,n+1,c4,c5,c6,(some ⟨g4,off4,none⟩),_,_,by go_num,rfl,by omega,by omega,ħ (by rw[HNX.o,HPU.o,if_pos rfl,đn,HN.o];rfl),ħ (by rw[HNX.o,HPU.o,if_pos rfl,<- Zbt];exact MI8.o),US8,CN8,X8,SP7,B8⟩
       case measure=>simp only[intOf];omega
    | false =>
     go_upto_region 9 with(fail)
     refine Za8 [0,1,2,3,4,5,6,7,8,9,10,11,12,13] [14,15,16,17,18,19] (fun w'=>Zae w' X 113 [.slice qo nq qc,.slice mo nm mc,.slice uo' i uc',.slice ho nh hc,.slice co' i cc']/\Below w.heap.size w w') (by kernel_rfl) (by kernel_rfl) (by kernel_rfl) (fun _ _ d _ _ h=>by cases d<;>exact h) ⟨XV.o.step (đc _ _).drew,BB.o.drew⟩ ?_;simp only[Zb6,List.filterMap_cons,List.filterMap_nil,List.getElem?_cons_zero,List.getElem?_cons_succ,Option.map_some,List.map_cons,List.map_nil];apply Exists.intro;refine⟨?hh,?ht⟩
     case hh =>
      intro w' hw';have x2:=hw'.1.cell 2 _ rfl;have a2:=(AW.o w' hw'.2).cell 2 _ rfl;obtain⟨k0,k1,k2,k3⟩:=HUC.o w' hw'.2;clear hw'
      repeat still_step
      exact wpStill_nil rfl
     case ht =>
      have BD:=(đc wr.heap.size wr).drew;have X3:=ħ (XV.o.step BD);have MI3:=ħ (MI.o.below BD);have US3:=ħ (US.o.below BD);have CN3:=ħ (CN.o.below BD);have B3:=ħ (BB.o.trans (BD.mono BB.o.size));have SP3:=SP;clear BD;generalize wr.drew=w3 at *;refine Zah ?_
      go_wp2_with fail
      have bz:=(đc w3.heap.size w3).alloc (đd _) (.cells #[.int .i64 yq,.int .i64 yw,.int .i64 yf,.int .i64 yh] 39);refine Zaa ⟨⟨X3.o.step bz,B3.o.trans (bz.mono B3.o.size)⟩,?_⟩;clear bz;refine Zah ?_
      go_wp2_with (at_builtin;refine Zcn 24 39 (.agg #[.int .i64 0,.int .i64 0,.int .i64 0,.int .i64 0]) 4 32 Tryz.underlying24 Zj1 rfl (by omega) (by omega) w3 w.heap.size rfl (.tmp 49) (.tmp 58) rfl uo' uc' i ((usT i).flatMap Zcg) ?t1 US3.o B3.o.size 1 1 #[.int .i64 yq,.int .i64 yw,.int .i64 yf,.int .i64 yh] 39 ?t2 rfl (by omega) ?t3 ?t4 ?_;(case t1=>rfl);(case t2=>rfl);(case t3=>simp[Value.oneCell']);(case t4=>omega);intro g5 off5 c5 wa o8 gr8 b8 or8;have US4:=ħ o8;have on:=Zb5 gr8;have B4:=ħ (B3.o.trans b8);have hor:=ħ or8;clear o8 gr8 b8 or8)
      have X4:=ħ (X3.o.only on (fun e=>SP3.o.2.1 X e rfl));have MI4:=ħ (MI3.o.of_block (fun g e hl=>on.block g hl (fun e2=>SP3.o.2.2.2.1 g e e2)) on.size);have CN4:=ħ (CN3.o.of_block (fun g e hl=>on.block g hl (fun e2=>SP3.o.2.2.2.2.2 g e2 e)) on.size);have SP4:Hid (Sep mi (some ⟨X,0,none⟩)/\Sep (some ⟨g5,off5,none⟩) (some ⟨X,0,none⟩)/\Sep co' (some ⟨X,0,none⟩)/\Sep mi (some ⟨g5,off5,none⟩)/\Sep mi co'/\Sep (some ⟨g5,off5,none⟩) co'):=ħ ⟨SP3.o.1,Sep.new hor.o SP3.o.2.1 (fun x e=>by have e:X=x:=đa e;subst e;exact X3.o.lt),SP3.o.2.2.1,(Sep.new hor.o SP3.o.2.2.2.1.symm (fun x e=>(MI3.o.blk_lt e).2)).symm,SP3.o.2.2.2.2.1,Sep.new hor.o SP3.o.2.2.2.2.2 (fun x e=>(CN3.o.blk_lt e).2)⟩;clear on X3 MI3 US3 CN3 SP3 B3 hor;refine Zaa ⟨⟨X4.o,B4.o⟩,?_⟩;refine Zah ?_
      go_wp2_with fail
      refine Zaa ⟨⟨X4.o,B4.o⟩,?_⟩;refine Zah ?_
      go_wp2_with fail
      refine Zaa ⟨⟨X4.o,B4.o⟩,?_⟩;refine Zah ?_
      go_wp2_with fail
      refine Zaa ⟨⟨X4.o,B4.o⟩,?_⟩;refine Zbu ?_;have t3:=X4.o.cell 2 _ rfl;have tf:=X4.o.warm 2
      go_upto_region 10 with(fail)
      clear t3 tf;have on:=(Only.refl wa (· = X)).setCell (a:=⟨X,2,none⟩) (.slice (some ⟨g5,off5,none⟩) (i+1) c5) rfl;have X5:=ħ (X4.o.set 2 (.slice (some ⟨g5,off5,none⟩) (i+1) c5));have MI5:=ħ (MI4.o.of_block (fun g e hl=>on.block g hl (fun e2=>SP4.o.1 g e (by rw[e2];rfl))) on.size);have US5:=ħ (US4.o.of_block (fun g e hl=>on.block g hl (fun e2=>SP4.o.2.1 g e (by rw[e2];rfl))) on.size);have CN5:=ħ (CN4.o.of_block (fun g e hl=>on.block g hl (fun e2=>SP4.o.2.2.1 g e (by rw[e2];rfl))) on.size);have B5:=ħ (Only.later B4.o on (fun g hg=>by have:=HXX.o;omega));clear on X4 MI4 US4 CN4 B4;generalize wa.setCell ⟨X,2,none⟩ (.slice (some ⟨g5,off5,none⟩) (i+1) c5)=w5 at *;refine Za8 [0,1,2,3,4,5,6,7,8,9,10,11] [12,13,14,15,16] (fun w'=>Zae w' X 113 [.slice qo nq qc,.slice mo nm mc,.slice (some ⟨g5,off5,none⟩) (i+1) c5,.slice ho nh hc,.slice co' i cc']/\Below w.heap.size w w') (by kernel_rfl) (by kernel_rfl) (by kernel_rfl) (fun _ _ d _ _ h=>by cases d<;>exact h) ⟨X5.o.step (đc _ _).drew,B5.o.drew⟩ ?_;simp only[Zb6,List.filterMap_cons,List.filterMap_nil,List.getElem?_cons_zero,List.getElem?_cons_succ,Option.map_some,List.map_cons,List.map_nil];apply Exists.intro;refine⟨?hh2,?ht2⟩
      case hh2 =>
       intro w' hw';have x4:=hw'.1.cell 4 _ rfl;have a4:=(AW.o w' hw'.2).cell 4 _ rfl;have k4:=HCC2.o w' hw'.2;clear hw'
       repeat still_step
       exact wpStill_nil rfl
      case ht2 =>
       have BD:=(đc w5.heap.size w5).drew;have X6:=ħ (X5.o.step BD);have MI6:=ħ (MI5.o.below BD);have US6:=ħ (US5.o.below BD);have CN6:=ħ (CN5.o.below BD);have B6:=ħ (B5.o.trans (BD.mono B5.o.size));clear BD X5 MI5 US5 CN5 B5;generalize w5.drew=w6 at *;refine Zah ?_
       go_wp2_with fail
       have bz:=(đc w6.heap.size w6).alloc (đd _) (.cells #[.slice bo nm bc] 87);refine Zaa ⟨⟨X6.o.step bz,B6.o.trans (bz.mono B6.o.size)⟩,?_⟩;clear bz;refine Zah ?_
       go_wp2_with (at_builtin;refine Zcn 86 87 (.slice none 0 0) 1 24 Tryz.underlying86 Zb4 rfl (by omega) (by omega) w6 w.heap.size rfl (.tmp 67) (.tmp 75) rfl co' cc' i (vsT i) ?t1 CN6.o B6.o.size 1 1 #[.slice bo nm bc] 87 ?t2 rfl (by omega) ?t3 ?t4 ?_;(case t1=>rfl);(case t2=>rfl);(case t3=>simp[Value.oneCell']);(case t4=>omega);intro g6 off6 c6 wb o8 gr8 b8 or8;have CN7:=ħ o8;have on:=Zb5 gr8;have B7:=ħ (B6.o.trans b8);have hor:=ħ or8;clear o8 gr8 b8 or8)
       have X7:=ħ (X6.o.only on (fun e=>SP4.o.2.2.1 X e rfl));have MI7:=ħ (MI6.o.of_block (fun g e hl=>on.block g hl (fun e2=>SP4.o.2.2.2.2.1 g e e2)) on.size);have US7:=ħ (US6.o.of_block (fun g e hl=>on.block g hl (fun e2=>SP4.o.2.2.2.2.2 g e e2)) on.size);have SP7:Hid (Sep mi (some ⟨X,0,none⟩)/\Sep (some ⟨g5,off5,none⟩) (some ⟨X,0,none⟩)/\Sep (some ⟨g6,off6,none⟩) (some ⟨X,0,none⟩)/\Sep mi (some ⟨g5,off5,none⟩)/\Sep mi (some ⟨g6,off6,none⟩)/\Sep (some ⟨g5,off5,none⟩) (some ⟨g6,off6,none⟩)):=ħ ⟨SP4.o.1,SP4.o.2.1,Sep.new hor.o SP4.o.2.2.1 (fun x e=>by have e:X=x:=đa e;subst e;exact X6.o.lt),SP4.o.2.2.2.1,(Sep.new hor.o SP4.o.2.2.2.2.1.symm (fun x e=>(MI6.o.blk_lt e).2)).symm,(Sep.new hor.o SP4.o.2.2.2.2.2.symm (fun x e=>(US6.o.blk_lt e).2)).symm⟩;clear on X6 MI6 US6 CN6 SP4 B6 hor;refine Zaa ⟨⟨X7.o,B7.o⟩,?_⟩;refine Zah ?_
       go_wp2_with fail
       refine Zaa ⟨⟨X7.o,B7.o⟩,?_⟩;refine Zah ?_
       go_wp2_with fail
       refine Zaa ⟨⟨X7.o,B7.o⟩,?_⟩;refine Zbu ?_;have t3:=X7.o.cell 4 _ rfl;have tf:=X7.o.warm 4
       go_upto_region 11 with(fail)
       clear t3 tf;have on:=(Only.refl wb (· = X)).setCell (a:=⟨X,4,none⟩) (.slice (some ⟨g6,off6,none⟩) (i+1) c6) rfl;have X8:=ħ (X7.o.set 4 (.slice (some ⟨g6,off6,none⟩) (i+1) c6));have MI8:=ħ (MI7.o.of_block (fun g e hl=>on.block g hl (fun e2=>SP7.o.1 g e (by rw[e2];rfl))) on.size);have US8:Hid (OwnK (wb.setCell ⟨X,4,none⟩ (.slice (some ⟨g6,off6,none⟩) (i+1) c6)) w.heap.size 4 (i+1) c5 ((usT (i+1)).flatMap Zcg) (some ⟨g5,off5,none⟩)):=ħ (by rw[HUT.o];exact US7.o.of_block (fun g e hl=>on.block g hl (fun e2=>SP7.o.2.1 g e (by rw[e2];rfl))) on.size);have CN8:Hid (OwnK (wb.setCell ⟨X,4,none⟩ (.slice (some ⟨g6,off6,none⟩) (i+1) c6)) w.heap.size 1 (i+1) c6 (vsT (i+1)) (some ⟨g6,off6,none⟩)):=ħ (by rw[HVT.o];exact CN7.o.of_block (fun g e hl=>on.block g hl (fun e2=>SP7.o.2.2.1 g e (by rw[e2];rfl))) on.size);have B8:=ħ (Only.later B7.o on (fun g hg=>by have:=HXX.o;omega));clear on X7 MI7 US7 CN7 B7;generalize wb.setCell ⟨X,4,none⟩ (.slice (some ⟨g6,off6,none⟩) (i+1) c6)=w8 at *
       go_wp2_with fail
       go_roundw
       case rel=>exact⟨i+1,n,cap,c5,c6,mi,_,_,by go_num,rfl,by omega,by omega,ħ (by rw[HNX.o,HPU.o];exact HN.o),ħ (by rw[HNX.o,HPU.o];exact MI8.o),US8,CN8,X8,SP7,B8⟩
       case measure=>simp only[intOf];omega
   ·have ii:¬ (i:Int)<L:=by omega
    obtain rfl:L=i:=by omega
    have HMM:Hid (MF.length=n/\MF=(List.range L).filter pb):=ħ ⟨by rw[HMF.o];exact HN.o,HMF.o⟩
    go_wp2_with fail
    go_ret2
    exact⟨⟨X,mi,cap,by rw[HMM.o.1];rfl,HFIN.o wr X _ _ _ _ BB.o HXX.o XV.o US.o CN.o,by rw[HMM.o.1,HMM.o.2];exact MI.o⟩,BB.o⟩
end
section
open Go.RowKit Go.Sort Go.Maps
def Zbk(y:List Nat->Bool)(size:Nat):List Nat->List Nat->Option (List Nat)
 | [],ch=>if ch.length=size then(if y ch=true then none else some ch) else none
 | x::xs,ch=>if ch.length=size then(if y ch=true then none else some ch) else
  match Zbk y size xs (ch++[x]) with
  | some r=>some r
  | none=>Zbk y size xs ch
theorem Zpd(y:List Nat->Bool){size:Nat}(l:List Nat){ch:List Nat}(h:ch.length=size):Zbk y size l ch=if y ch=true then none else some ch:=by
 cases l<;>(unfold Zbk;rw[if_pos h])
theorem Zqj(y:List Nat->Bool){size:Nat}{ch:List Nat}(h:ch.length≠size):Zbk y size [] ch=none:=by unfold Zbk;rw[if_neg h]
theorem Zpe(y:List Nat->Bool){size:Nat}(x:Nat)(xs:List Nat){ch:List Nat}(h:ch.length≠size):Zbk y size (x::xs) ch=match Zbk y size xs (ch++[x]) with | some r=>some r | none=>Zbk y size xs ch:=by
 conv=>lhs;unfold Zbk
 rw[if_neg h]
def ChR(W:World)(OB:Nat)(co:Option Addr)(cc:Nat)(ch:List Nat):Prop:=ch.length<=cc/\(co=none->ch.length=0)/\(Za0 ch=[]\/∃ g off,co=some ⟨g,off,none⟩/\g<W.heap.size/\g≠OB/\Zav W g off (Za0 ch))
theorem ChR.only{W W':World}{OB:Nat}{co:Option Addr}{cc:Nat}{ch:List Nat}(h:ChR W OB co cc ch)(on:Only W W' (· = OB)):ChR W' OB co cc ch:=by
 obtain⟨h1,h2,h3⟩:=h;refine⟨h1,h2,?_⟩;rcases h3 with h | ⟨g,off,e,hg,hn,hr⟩
 ·exact .inl h
 ·exact .inr ⟨g,off,e,đm hg on.size,hn,hr.of_block (on.block g hg hn)⟩
theorem ChR.reads{W:World}{OB:Nat}{co:Option Addr}{cc:Nat}{ch:List Nat}(h:ChR W OB co cc ch):Za0 ch=[]\/∃ g off,co=some ⟨g,off,none⟩/\g<W.heap.size/\Zav W g off (Za0 ch):=by
 rcases h.2.2 with h | ⟨g,off,e,hg,hn,hr⟩
 ·exact .inl h
 ·exact .inr ⟨g,off,e,hg,hr⟩
theorem ChR.flat{W:World}{OB:Nat}{co:Option Addr}{cc:Nat}{ch:List Nat}(h:ChR W OB co cc ch):Zan Zbg W co (ch.map Int.ofNat):=by
 rcases h.reads with h | ⟨g,off,e,hg,hr⟩
 ·left
  unfold Za0 at h;rw[List.map_eq_nil_iff] at h;rw[h];rfl
 ·exact .inr ⟨g,off,e,hg,by rw[<- Zg8];exact hr⟩
theorem ChR.of_own{W:World}{OB B n cap:Nat}{co:Option Addr}{ch:List Nat}(h:OwnK W B 1 n cap (Za0 ch) co)(hn:n=ch.length)(hB:OB<B):ChR W OB co cap ch:=by
 cases h with
 | nil h1 h2 h3=>exact⟨by omega,fun _=>by omega,.inl h1⟩
 | «at» g off h1 h2 h3 h4=>exact⟨by omega,fun e=>(by cases e),.inr ⟨g,off,rfl,h1.lt,by have:=h1.own;omega,fun j u hj=>h1.cells j u hj⟩⟩
structure SubW (W:World) (OB S Y L CB size:Nat) (yv:Value) (lo:Option Addr) (lc:Nat) (l:List Nat):Prop where
 s:Zae W S 3 [.int .i64 (size:Int)]
 y:Zae W Y 132 [yv]
 ls:Zae W L 33 [.slice lo l.length lc]
 c:Zae W CB 175 [.func (.func 153) #[] #[.pointer (some ⟨S,0,none⟩),.pointer (some ⟨Y,0,none⟩),.pointer (some ⟨L,0,none⟩),.pointer (some ⟨CB,0,none⟩)]]
 r:ChR W OB lo lc l
theorem SubW.only{W W':World}{OB S Y L CB size:Nat}{yv:Value}{lo:Option Addr}{lc:Nat}{l:List Nat}(h:SubW W OB S Y L CB size yv lo lc l)(on:Only W W' (· = OB))(hd:S≠OB/\Y≠OB/\L≠OB/\CB≠OB):SubW W' OB S Y L CB size yv lo lc l :=
 ⟨h.s.only on hd.1,h.y.only on hd.2.1,h.ls.only on hd.2.2.1,h.c.only on hd.2.2.2,h.r.only on⟩
def Z4l(W:World)(OB:Nat)(r:Option (List Nat)):Prop:=∃ v,Zae W OB 33 [v]/\∀ l,r=some l->∃ ko kc,v = .slice ko l.length kc/\ChR W OB ko kc l
theorem Zxu(w:World)(ao:Option Addr)(n cap:Nat)(hc:n<=cap)(ho:ao=none->n=0) :
  Calls Tryz.prog 154 #[.slice ao n cap] w fun e w'=>e = .returned (.slice ao n n)/\w'=w:=by
 have h0:(0:Int)<=(n:Int):=by omega
 have h1:(n:Int)<=(cap:Int):=by omega
 cases ao with
 | none =>
  obtain rfl:=ho rfl
  go_enter Tryz.func154,Tryz.ntmps154
  go_wp2
  go_ret;exact⟨by simp,rfl⟩
 | some a =>
  go_enter Tryz.func154,Tryz.ntmps154
  go_wp2
  go_ret;exact⟨by simp,rfl⟩
structure YldW (OB:Nat) (Inv:World->Prop) (Pch:List Nat->Prop) (yf:Nat) (ycb:Array Value) (y:List Nat->Bool):Prop where
 enters:∀ args w,(callFunc yf args).run Tryz.prog w = .ok (.enter yf args) w
 only:∀ W W',Inv W->Only W W' (· = OB)->Inv W'
 calls:∀ W v co cc ch,Inv W->Zae W OB 33 [v]->ChR W OB co cc ch->ch.length<=999->Pch ch->Calls Tryz.prog yf (#[.slice co ch.length cc]++ycb) W fun e W'=>e = .returned (.bool (y ch))/\Only W W' (· = OB)/\Z4l W' OB (some ch)
theorem Z4m(t:Array Value)(h:t.size=37):∃ f:Nat->Value,t=#[f 0,f 1,f 2,f 3,f 4,f 5,f 6,f 7,f 8,f 9,f 10,f 11,f 12,f 13,f 14,f 15,f 16,f 17,f 18,f 19,f 20,f 21,f 22,f 23,f 24,f 25,f 26,f 27,f 28,f 29,f 30,f 31,f 32,f 33,f 34,f 35,f 36]:=by
 obtain⟨l⟩:=t;have hl:l.length=37:=h
 have e:l=(List.range 37).map (fun i=>l.getD i undef):=by
  apply List.ext_getElem
  ·simp[hl]
  ·intro i h1 h2
   simp[List.getD,h1]
 exact⟨fun i=>l.getD i undef,congrArg List.toArray e⟩
def sbF(S Y L CB WS q x cl cc ll lc gl ol:Nat)(co:Option Addr)(chv:List Value)(i:Nat)(W:World)(v:Value):Prop:=match i with
 | 0=>v = .func (.func 153) #[] #[.pointer (some ⟨S,0,none⟩),.pointer (some ⟨Y,0,none⟩),.pointer (some ⟨L,0,none⟩),.pointer (some ⟨CB,0,none⟩)]
 | 1=>v = .int .i64 (q:Nat)
 | 2=>v = .int .i64 ((q:Int)+1)
 | 3=>v = .slice co cl cc
 | 4=>v = .slice co cl cl
 | 5=>v = .slice (some ⟨gl,ol,none⟩) ll lc
 | 6=>v = .int .i64 (q:Nat)
 | 7=>v = .pointer (some ⟨gl,ol+q,none⟩)
 | 8=>v = .int .i64 (x:Nat)
 | 9=>∃ V,v = .slice (some ⟨V,0,none⟩) 1 1/\Zae W V 3 [.int .i64 (x:Nat)]
 | 10=>∃ g cap,v = .slice (some ⟨g,0,none⟩) (cl+1) cap/\OwnK W WS 1 (cl+1) cap (chv++[.int .i64 (x:Nat)]) (some ⟨g,0,none⟩)
 | _=>True
theorem Z0w(S Y L CB WS q x cl cc ll lc gl ol:Nat)(co:Option Addr)(chv:List Value):∀ i w w' v,sbF S Y L CB WS q x cl cc ll lc gl ol co chv i w v->Below w.heap.size w w'->sbF S Y L CB WS q x cl cc ll lc gl ol co chv i w' v:=by
 intro i w w' v h hb
 match i with
 | 0=>exact h
 | 1=>exact h
 | 2=>exact h
 | 3=>exact h
 | 4=>exact h
 | 5=>exact h
 | 6=>exact h
 | 7=>exact h
 | 8=>exact h
 | 9=>obtain⟨V,h1,h2⟩:=h;exact⟨V,h1,h2.step hb⟩
 | 10=>obtain⟨g,cap,h1,h2⟩:=h;exact⟨g,cap,h1,h2.below hb⟩
 | k+11=>trivial
theorem Ztv(OB S Y L CB size:Nat)(Inv:World->Prop)(Pch:List Nat->Prop)(yf:Nat)(ycb:Array Value)(y:List Nat->Bool)(hY:YldW OB Inv Pch yf ycb y)(l:List Nat)(hPc:∀ ch x,Pch ch->x∈l->Pch (ch++[x]))(lo:Option Addr)(lc:Nat)(hl:l.length<=999)(hd:S≠OB/\Y≠OB/\L≠OB/\CB≠OB) :
  ∀ (n j:Nat),n+j=l.length->∀ (w:World) (v:Value) (co:Option Addr) (cc:Nat) (ch:List Nat),Inv w->SubW w OB S Y L CB size (.func (.func yf) #[] ycb) lo lc l->Zae w OB 33 [v]->ChR w OB co cc ch->ch.length<=j->Pch ch->OB<w.heap.size ->
  Calls Tryz.prog 153 #[.int .i64 (j:Int),.slice co ch.length cc,.pointer (some ⟨S,0,none⟩),.pointer (some ⟨Y,0,none⟩),.pointer (some ⟨L,0,none⟩),.pointer (some ⟨CB,0,none⟩)] w fun e w'=>e = .returned (.bool (Zbk y size (l.drop j) ch).isNone)/\Only w w' (· = OB)/\Z4l w' OB (Zbk y size (l.drop j) ch):=by
 intro n
 induction n using Nat.strongRecOn with
 | ind n IH =>
 intro j hnj w v co cc ch hI hS hO hC hcj hPx hOB;have HPX:=ħ hPx;have HPC:=ħ hPc;have HIH:=ħ IH;have HI:=ħ hI;have HS:=ħ hS;have HO:=ħ hO;have HC:=ħ hC;have HD:=ħ hd;have HY:=ħ hY;have HOB:=ħ hOB;have egy:=hY.enters;have egc:∀ args w,(callFunc 153 args).run Tryz.prog w = .ok (.enter 153 args) w:=enters_of Tryz.func153 (by kernel_rfl) rfl;have s0:=hS.s.cell 0 _ rfl;have y0:=hS.y.cell 0 _ rfl;have HFU:=ħ (fun(h:ch.length=size)=>Zpd y (l.drop j) h);have HNI:=ħ (fun(h:ch.length≠size)=>Zqj y h);have HCO:=ħ (fun x xs (h:ch.length≠size)=>Zpe y x xs h);obtain⟨RES,hRES⟩:∃ r,Zbk y size (l.drop j) ch=r:=⟨_,rfl⟩;have HRES:=ħ hRES;rw[hRES] at HFU;rw[hRES];clear hI hS hO hC hd hY hRES IH hPx hPc;generalize hcl:ch.length=cl at *;have HCLE:=ħ hcl;generalize hll:l.length=ll at *;have HLLE:=ħ hll;clear hcl hll
 go_enter Tryz.func153,Tryz.ntmps153
 by_cases hsz:cl=size
 ·subst hsz
  have HR:Hid (RES=if y ch=true then none else some ch):=ħ (HFU.o rfl);have HCL:=ħ (HY.o.calls w v co cc ch HI.o HO.o HC.o (by rw[HCLE.o];omega) HPX.o);rw[HCLE.o] at HCL;obtain⟨yb,hyb⟩:∃ b,y ch=b:=⟨_,rfl⟩;rw[hyb] at HCL HR;clear hyb
  go_wp2_with fail
  refine HCL.o.mono ?_;rintro e w2 ⟨rfl,on,hq⟩;have ON:=ħ on;have HQ:=ħ hq;clear on hq HCL s0 y0
  go_wp2_with fail
  go_ret
  cases yb with
  | true =>
   have HR2:RES=none:=by rw[HR.o];rfl
   rw[HR2];refine⟨rfl,ON.o,?_⟩;obtain⟨v2,h1,-⟩:=HQ.o;exact⟨v2,h1,fun l h=>by cases h⟩
  | false =>
   have HR2:RES=some ch:=by rw[HR.o];rfl
   rw[HR2];exact⟨rfl,ON.o,HQ.o⟩
 ·have sne:¬ (cl:Int)=(size:Int):=by omega
  have sneb:((cl:Int)==(size:Int))=false:=by simpa using sne
  have HNI2:=ħ (HNI.o (by omega));have HCO2:=ħ (fun x xs=>HCO.o x xs (by omega));clear HNI HCO HFU
  go_wp2_with fail
  clear s0 y0 egy;have HE0:Hid (Zbk y size (l.drop j) ch=RES):=HRES;have HO0:=ħ (Only.refl w (· = OB))
  go_loopw [9] (fun iv wr=>∃ (q:Nat) (v:Value),iv = .int .i64 q/\j<=q/\q<=ll/\Hid (Zbk y size (l.drop q) ch=RES)/\Hid (Only w wr (· = OB))/\Hid (Zae wr OB 33 [v])) (fun q _=>(ll-intOf q).toNat)
  case atStart=>exact⟨j,v,rfl,đd _,by omega,HE0,HO0,HO⟩
  case round =>
   clear HE0 HO0 HRES;obtain⟨q,v1,rfl,hji,hil,HE,ON,HO1⟩:=hrel;have e2:IntKind.i64.wrap ((q:Int)+1)=((q+1:Nat):Int):=đh _ (by omega);have HSW:=ħ (HS.o.only ON.o HD.o);have q0:=HSW.o.ls.cell 0 _ rfl;rw[HLLE.o] at q0;by_cases hin:q<ll
   ·have ii:(q:Int)<ll:=by omega
    obtain⟨x,hx⟩:∃ x,l[q]?=some x:=⟨_,đb (by rw[HLLE.o];exact hin)⟩
    have HDR:Hid (l.drop q=x::l.drop (q+1)):=ħ (by
     have hlt:q<l.length:=by rw[HLLE.o];exact hin
     have hxe:l[q]=x:=by rw[đb hlt] at hx;exact đa hx
     rw[List.drop_eq_getElem_cons hlt,hxe])
    have HE2:Hid ((match Zbk y size (l.drop (q+1)) (ch++[x]) with | some r=>some r | none=>Zbk y size (l.drop (q+1)) ch)=RES):=ħ (by rw[<- HCO2.o,<- HDR.o];exact HE.o)
    obtain⟨gl,ol,hlo,hgl,-,hrd⟩:∃ g off,lo=some ⟨g,off,none⟩/\g<wr.heap.size/\g≠OB/\Zav wr g off (Za0 l):=by
     rcases HSW.o.r.2.2 with h | h
     ·unfold Za0 at h
      rw[List.map_eq_nil_iff] at h;rw[h] at hx;simp at hx
     ·exact h
    have HL0:=ħ (hrd q _ (Zhz hx));have HGL:=ħ hgl;have C1:=ħ HSW.o.c;have L1:Hid (Zae wr L 33 [.slice lo ll lc]):=ħ (by rw[<- HLLE.o];exact HSW.o.ls);have HCH:=ħ (HC.o.only ON.o);have HCR:=ħ HCH.o.reads;have HNO:Hid (co=none->cl=0):=ħ (by rw[<- HCLE.o];exact HCH.o.2.1);have HCL:Hid ((Za0 ch).length=cl*1):=ħ (by rw[Zi0,HCLE.o,Nat.mul_one]);have HCLI:=ħ (fun W=>Zxu W co cl cc (by rw[<- HCLE.o];exact HCH.o.1) HNO.o);have HIW:=ħ (HY.o.only w wr HI.o ON.o);have HPN:Hid (Pch (ch++[x])):=ħ (HPC.o ch x HPX.o (đe hx));have HLO:=ħ hlo;have HOB1:Hid (OB<wr.heap.size):=ħ HO1.o.lt;have HCAT:Hid (Za0 ch++[.int .i64 (x:Int)]=Za0 (ch++[x])):=ħ (Zbt ch x);subst hlo;clear hgl hrd hx;generalize hcv:Za0 ch=chv at *;clear hcv
    go_upto_region 6 with(fail)
    clear q0;refine Za2 11 1 (sbF S Y L CB wr.heap.size q x cl cc ll lc gl ol co chv) (by kernel_rfl) rfl (Z0w S Y L CB wr.heap.size q x cl cc ll lc gl ol co chv) (Zbr (by kernel_rfl)) (Zeh (by kernel_rfl)) (Zax (by kernel_rfl)) (Zck (by kernel_rfl)) ?hs ?he
    case hs =>
     intro i o hin hi listed a' w' H hsn hl2;have hl3:=Zap hl2;have hb:=ħ H.below;have s1:=hsn 1 (Zak (by kernel_rfl));have s4:=hsn 4 (Zak (by kernel_rfl));have s5:=hsn 5 (Zak (by kernel_rfl));have s9:=hsn 9 (Zak (by kernel_rfl));have hdn:=H.done;have hdf:=H.defers;have hts:=H.tsize;clear hl2 H hsn;obtain⟨t',df⟩:=a';obtain⟨f',rfl⟩:=Z4m t' hts;have hdf':df=[]:=hdf;subst hdf';have gs1:f' 1 = .slice co cl cc:=s1;have gs4:f' 4 = .pointer (some ⟨L,0,none⟩):=s4;have gs5:f' 5 = .pointer (some ⟨CB,0,none⟩):=s5;have gs9:f' 9 = .int .i64 (q:Nat):=s9;clear s1 s4 s5 s9;clear hdf hts;have hcases:i=0\/i=1\/i=2\/i=3\/i=4\/i=5\/i=6\/i=7\/i=8\/i=9\/i=10:=Zl0 i hin;clear hin;rcases hcases with rfl | rfl | rfl | rfl | rfl | rfl | rfl | rfl | rfl | rfl | rfl
     ·obtain rfl:=đa hi
      clear hdn hl3;rw[gs5];clear gs1 gs4 gs5 gs9;have c0:=(C1.o.step hb.o).cell 0 _ rfl;refine Zab rfl ?_
      go_wp2_with fail
      exact Zaa ⟨_,rfl,đc _ _,rfl⟩
     ·obtain rfl:=đa hi
      clear hdn hl3;rw[gs9];clear gs1 gs4 gs5 gs9;refine Zab rfl ?_
      go_wp2_with fail
      exact Zaa ⟨_,rfl,đc _ _,rfl⟩
     ·obtain rfl:=đa hi
      have dv1:f' 25 = .int .i64 (q:Nat):=hdn 1 _ 25 rfl (hl3 1 (by rfl)) rfl;clear hdn hl3;rw[dv1];clear dv1 gs1 gs4 gs5 gs9;refine Zab rfl ?_
      go_wp2_with fail
      exact Zaa ⟨_,rfl,đc _ _,rfl⟩
     ·obtain rfl:=đa hi
      clear hdn hl3;rw[gs1];clear gs1 gs4 gs5 gs9;refine Zab rfl ?_
      go_wp2_with fail
      exact Zaa ⟨_,rfl,đc _ _,rfl⟩
     ·obtain rfl:=đa hi
      have dv3:f' 27 = .slice co cl cc:=hdn 3 _ 27 rfl (hl3 3 (by rfl)) rfl;clear hdn hl3;rw[dv3];clear dv3 gs1 gs4 gs5 gs9;refine Zab rfl ?_
      go_wp2_with fail
      refine(HCLI.o w').mono ?_;rintro e w4 ⟨rfl,rfl⟩
      go_wp2_with fail
      exact Zaa ⟨_,rfl,đc _ _,rfl⟩
     ·obtain rfl:=đa hi
      clear hdn hl3;rw[gs4];clear gs1 gs4 gs5 gs9;have c0:=(L1.o.step hb.o).cell 0 _ rfl;refine Zab rfl ?_
      go_wp2_with fail
      exact Zaa ⟨_,rfl,đc _ _,rfl⟩
     ·obtain rfl:=đa hi
      clear hdn hl3;rw[gs9];clear gs1 gs4 gs5 gs9;refine Zab rfl ?_
      go_wp2_with fail
      exact Zaa ⟨_,rfl,đc _ _,rfl⟩
     ·obtain rfl:=đa hi
      have dv5:f' 29 = .slice (some ⟨gl,ol,none⟩) ll lc:=hdn 5 _ 29 rfl (hl3 5 (by rfl)) rfl;have dv6:f' 30 = .int .i64 (q:Nat):=hdn 6 _ 30 rfl (hl3 6 (by rfl)) rfl;clear hdn hl3;rw[dv5,dv6];clear dv5 dv6 gs1 gs4 gs5 gs9;refine Zab rfl ?_
      go_wp2_with fail
      exact Zaa ⟨_,rfl,đc _ _,rfl⟩
     ·obtain rfl:=đa hi
      have dv7:f' 31 = .pointer (some ⟨gl,ol+q,none⟩):=hdn 7 _ 31 rfl (hl3 7 (by rfl)) rfl;clear hdn hl3;rw[dv7];clear dv7 gs1 gs4 gs5 gs9
      have l0:w'.cell? ⟨gl,ol+q,none⟩=some (.int .i64 (x:Int)):=by rw[đx (w:=wr) (a:=⟨gl,ol+q,none⟩) (hb.o.block gl HGL.o)];exact HL0.o
      refine Zab rfl ?_
      go_wp2_with fail
      exact Zaa ⟨_,rfl,đc _ _,rfl⟩
     ·obtain rfl:=đa hi
      have dv8:f' 32 = .int .i64 (x:Nat):=hdn 8 _ 32 rfl (hl3 8 (by rfl)) rfl;clear hdn hl3;rw[dv8];clear dv8 gs1 gs4 gs5 gs9;have bx:=(đc w'.heap.size w').alloc (đd _) (.cells #[.int .i64 (x:Nat)] 3);have HV:Hid (Zae (w'.alloc (.cells #[.int .i64 (x:Nat)] 3)) w'.heap.size 3 [.int .i64 (x:Nat)]):=ħ (heap_alloc_new _ _);have BX:=ħ bx;clear bx;refine Zab rfl ?_
      go_wp2_with fail
      exact Zaa ⟨_,rfl,BX.o,w'.heap.size,rfl,HV.o⟩
     ·obtain rfl:=đa hi
      have dv4:f' 28 = .slice co cl cl:=hdn 4 _ 28 rfl (hl3 4 (by rfl)) rfl;have dv9:sbF S Y L CB wr.heap.size q x cl cc ll lc gl ol co chv 9 w' (f' 33):=hdn 9 _ 33 rfl (hl3 9 (by rfl)) rfl;obtain⟨V,dv9,hV⟩:=dv9;clear hdn hl3;rw[dv4,dv9];clear dv4 dv9 gs1 gs4 gs5 gs9;have HV:=ħ hV;clear hV
      have HR4:Hid (chv=[]\/∃ g off,co=some ⟨g,off,none⟩/\g<w'.heap.size/\Zav w' g off chv):=ħ (by
       rcases HCR.o with h | ⟨g,off,h1,h2,h3⟩
       ·exact .inl h
       ·exact .inr ⟨g,off,h1,đm h2 hb.o.size,h3.of_block (hb.o.block g h2)⟩)
      refine Zab rfl ?_;refine Zj0 33 3 (.int .i64 0) 1 8 Tryz.underlying33 Zbl rfl (by omega) (by omega) w' rfl (.tmp 28) (.tmp 33) rfl co cl chv ?q1 HNO.o HCL.o HR4.o V 1 1 [.int .i64 (x:Nat)] 3 ?q2 HV.o rfl (by omega) ?q3 ?q4 ?_
      case q1=>rfl
      case q2=>rfl
      case q3=>simp[Value.oneCell']
      case q4=>omega
      intro g5 c5 wa o8 b8;have O5:=ħ (o8.low hb.o.size);have B5:=ħ b8;clear o8 b8
      go_wp2_with fail
      exact Zaa ⟨_,rfl,B5.o,g5,c5,rfl,O5.o⟩
    case he =>
     intro listed a' w4 H hsn hall;have hd0:sbF S Y L CB wr.heap.size q x cl cc ll lc gl ol co chv 0 w4 (a'.tmps.getD 24 undef):=H.done 0 _ 24 rfl (hall 0 (by decide)) rfl;have hd2:sbF S Y L CB wr.heap.size q x cl cc ll lc gl ol co chv 2 w4 (a'.tmps.getD 26 undef):=H.done 2 _ 26 rfl (hall 2 (by decide)) rfl;have hd10:sbF S Y L CB wr.heap.size q x cl cc ll lc gl ol co chv 10 w4 (a'.tmps.getD 34 undef):=H.done 10 _ 34 rfl (hall 10 (by decide)) rfl;have hb4:=ħ H.below;have hact:=H.actN hsn [24,25,26,27,28,29,30,31,32,33,34] (Zej (by kernel_rfl));clear H hall hsn;simp only[List.foldl_cons,List.foldl_nil] at hact;generalize a'.tmps.getD 24 undef=z24 at *;generalize a'.tmps.getD 25 undef=z25 at *;generalize a'.tmps.getD 26 undef=z26 at *;generalize a'.tmps.getD 27 undef=z27 at *;generalize a'.tmps.getD 28 undef=z28 at *;generalize a'.tmps.getD 29 undef=z29 at *;generalize a'.tmps.getD 30 undef=z30 at *;generalize a'.tmps.getD 31 undef=z31 at *;generalize a'.tmps.getD 32 undef=z32 at *;generalize a'.tmps.getD 33 undef=z33 at *;generalize a'.tmps.getD 34 undef=z34 at *;subst hact;have e0:z24 = .func (.func 153) #[] #[.pointer (some ⟨S,0,none⟩),.pointer (some ⟨Y,0,none⟩),.pointer (some ⟨L,0,none⟩),.pointer (some ⟨CB,0,none⟩)]:=hd0;subst e0;clear hd0;have e2:z26 = .int .i64 ((q:Int)+1):=hd2;subst e2;clear hd2;obtain⟨g5,c5,e10,hO5⟩:=hd10;subst e10;simp only[Act.put,List.setIfInBounds_toArray,List.set_cons_succ,List.set_cons_zero]
     have O5:Hid (ChR w4 OB (some ⟨g5,0,none⟩) c5 (ch++[x])):=ħ (by
      have h:=hO5;rw[HCAT.o] at h
      exact ChR.of_own h (by rw[đn,HCLE.o];rfl) HOB1.o)
     have ON4:Hid (Only wr w4 (· = OB)):=ħ (Only.of_below hb4.o);have HCX:=ħ (HIH.o (ll-(q+1)) (by omega) (q+1) (by omega) w4 v1 (some ⟨g5,0,none⟩) c5 (ch++[x]) (HY.o.only _ _ HIW.o ON4.o) (HSW.o.only ON4.o HD.o) (HO1.o.only (Only.of_below (p:=fun _=>False) hb4.o) (fun h=>h)) O5.o (by rw[đn,HCLE.o];show cl+1<=q+1;omega) HPN.o (đm HOB1.o hb4.o.size));have HLEN:Hid ((ch++[x]).length=cl+1):=ħ (by rw[đn,HCLE.o];rfl);rw[HLEN.o] at HCX;obtain⟨SUB,hSUB⟩:∃ r,Zbk y size (l.drop (q+1)) (ch++[x])=r:=⟨_,rfl⟩;rw[hSUB] at HCX HE2;clear hSUB hO5 C1 L1 HSW HIW HCH HCR HCLI HO1 hb4;refine Zas (Zab rfl ?_)
     go_wp2_with fail
     refine HCX.o.mono ?_;rintro e w5 ⟨rfl,on5,hq5⟩;have ON5:=ħ (ON.o.trans (ON4.o.trans on5));have HQ5:=ħ hq5;clear on5 hq5 HCX ON4 ON
     cases SUB with
     | some r =>
      have HR:Hid (RES=some r):=ħ HE2.o.symm
      go_wp2_with fail
      refine Zaa (Zas (Zab rfl ?_))
      go_wp2_with fail
      refine Zaa (Zbm ?_)
      go_wp2_with fail
      go_ret;rw[HR.o];exact⟨rfl,ON5.o,HQ5.o⟩
     | none =>
      have HR:Hid (Zbk y size (l.drop (q+1)) ch=RES):=ħ HE2.o;obtain⟨v5,h5,-⟩:=HQ5.o;have HV5:=ħ h5;clear h5
      go_wp2_with fail
      refine Zaa (Zas (Zab rfl ?_))
      go_wp2_with fail
      refine Zaa (Zbm ?_)
      go_wp2_with fail
      go_roundw
      case rel=>exact⟨q+1,v5,by go_num,by omega,by omega,HR,ON5,HV5⟩
      case measure=>simp only[intOf];omega
   ·have ii:¬ (q:Int)<ll:=by omega
    obtain rfl:ll=q:=by omega
    have HR:Hid (RES=none):=ħ (by
     rw[<- HE.o,<- HNI2.o,<- HLLE.o,List.drop_length])
    go_wp2_with fail
    go_ret;rw[HR.o];exact⟨rfl,ON.o,v1,HO1.o,fun l h=>by cases h⟩
end
section
open Go.RowKit Go.Sort Go.Maps
theorem Zqk (OB size:Nat) (Inv:World->Prop) (Pch:List Nat->Prop) (yf:Nat) (ycb:Array Value) (y:List Nat->Bool) (hY:YldW OB Inv Pch yf ycb y) (l:List Nat) (hPc:∀ ch x,Pch ch->x∈l->Pch (ch++[x])) (hP0:Pch []) (lo:Option Addr) (lc:Nat) (hl:l.length<=999)
  (w:World) (v:Value) (hI:Inv w) (hO:Zae w OB 33 [v]) (hC:ChR w OB lo lc l) :
  Calls Tryz.prog 100 #[.slice lo l.length lc,.int .i64 (size:Int),.func (.func yf) #[] ycb] w fun e w'=>e = .returned (.bool (Zbk y size l []).isNone)/\Only w w' (· = OB)/\Z4l w' OB (Zbk y size l []):=by
 have hlt:=hO.lt;have HL1:=Zae.new w 33 [.slice lo l.length lc];have hb1:=(đc w.heap.size w).alloc (đd _) (.cells [.slice lo l.length lc].toArray 33);generalize hw1:w.alloc (.cells [.slice lo l.length lc].toArray 33)=w1 at *
 have hz1:w1.heap.size=w.heap.size+1:=by rw[<- hw1,đl]
 have HS1:=Zae.newAt w1 3 [.int .i64 (size:Int)] (w.heap.size+1) hz1.symm;have hb2:=(đc w1.heap.size w1).alloc (đd _) (.cells [.int .i64 (size:Int)].toArray 3);have HL2:=HL1.step hb2;generalize hw2:w1.alloc (.cells [.int .i64 (size:Int)].toArray 3)=w2 at *
 have hz2:w2.heap.size=w.heap.size+1+1:=by rw[<- hw2,đl,hz1]
 have HY2:=Zae.newAt w2 132 [.func (.func yf) #[] ycb] (w.heap.size+1+1) hz2.symm;have hb3:=(đc w2.heap.size w2).alloc (đd _) (.cells [.func (.func yf) #[] ycb].toArray 132);have HL3:=HL2.step hb3;have HS3:=HS1.step hb3;generalize hw3:w2.alloc (.cells [.func (.func yf) #[] ycb].toArray 132)=w3 at *
 have hz3:w3.heap.size=w.heap.size+1+1+1:=by rw[<- hw3,đl,hz2]
 have HC3:=Zae.newAt w3 175 [.nilFunc] (w.heap.size+1+1+1) hz3.symm;have hb4:=(đc w3.heap.size w3).alloc (đd _) (.cells [.nilFunc].toArray 175);have HL4:=ħ (HL3.step hb4);have HS4:=ħ (HS3.step hb4);have HY4:=ħ (HY2.step hb4);have HC4:=ħ HC3;have B4:=ħ (hb1.trans ((hb2.trans ((hb3.trans (hb4.mono hb3.size)).mono hb2.size)).mono hb1.size));have HYY:=ħ hY;have HI:=ħ hI;have HO:=ħ hO;have HC:=ħ hC;have HPC:=ħ hPc;have HP0:=ħ hP0;have HSZ:Hid (OB<w.heap.size):=ħ hlt
 have hw:(((w.alloc (.cells #[.slice lo l.length lc] 33)).alloc (.cells #[.int .i64 (size:Int)] 3)).alloc (.cells #[.func (.func yf) #[] ycb] 132))=w3:=by rw[<- hw3,<- hw2,<- hw1]
 have HWW:=ħ hw;clear hw1 hw2 hw3 hb1 hb2 hb3 hb4 HL1 HS1 HL2 HY2 HL3 HS3 HC3 hz1 hz2 hz3 hY hI hO hC hPc hP0 hlt hw;generalize hll:l.length=ll at *;have HLL:=ħ hll;clear hll
 go_enter Tryz.func100,Tryz.ntmps100
 go_upto_region 2 with(fail)
 rw[HWW.o];have c0:=HC4.o.cell 0 _ rfl;have cf:=HC4.o.warm 0;generalize w3.alloc (.cells [.nilFunc].toArray 175)=w4 at *;have on:=(Only.refl w4 (· = w.heap.size+1+1+1)).setCell (a:=⟨w.heap.size+1+1+1,0,none⟩) (.func (.func 153) #[] #[.pointer (some ⟨w.heap.size+1,0,none⟩),.pointer (some ⟨w.heap.size+1+1,0,none⟩),.pointer (some ⟨w.heap.size,0,none⟩),.pointer (some ⟨w.heap.size+1+1+1,0,none⟩)]) rfl;have C5:=ħ (HC4.o.set 0 (.func (.func 153) #[] #[.pointer (some ⟨w.heap.size+1,0,none⟩),.pointer (some ⟨w.heap.size+1+1,0,none⟩),.pointer (some ⟨w.heap.size,0,none⟩),.pointer (some ⟨w.heap.size+1+1+1,0,none⟩)]));have S5:=ħ (HS4.o.only on (by omega));have Y5:=ħ (HY4.o.only on (by omega));have L5:=ħ (HL4.o.only on (by omega));have B5:=ħ (Only.later B4.o on (fun g hg=>by omega));clear on HC4 HS4 HY4 HL4 B4
 have hsf:∀ (fn:Fn) (a b:Array Value) (p:Addr) (m:Mode) (w:World),(store p (.func fn a b) m).run Tryz.prog w=stored Tryz.prog w p (.func fn a b) m:=fun fn a b p m w=>run_store Tryz.prog w p _ m rfl
 go_upto_region 3 with(fail)
 clear c0 cf hsf;generalize w4.setCell ⟨w.heap.size+1+1+1,0,none⟩ (.func (.func 153) #[] #[.pointer (some ⟨w.heap.size+1,0,none⟩),.pointer (some ⟨w.heap.size+1+1,0,none⟩),.pointer (some ⟨w.heap.size,0,none⟩),.pointer (some ⟨w.heap.size+1+1+1,0,none⟩)])=w5 at *;have ON5:Hid (Only w w5 (· = OB)):=ħ (Only.of_below B5.o);have egc:∀ args w,(callFunc 153 args).run Tryz.prog w = .ok (.enter 153 args) w:=enters_of Tryz.func153 (by kernel_rfl) rfl;have HD:Hid (w.heap.size+1≠OB/\w.heap.size+1+1≠OB/\w.heap.size≠OB/\w.heap.size+1+1+1≠OB):=ħ (by have:=HSZ.o;omega);have HCX:=ħ (Ztv OB (w.heap.size+1) (w.heap.size+1+1) w.heap.size (w.heap.size+1+1+1) size Inv Pch yf ycb y HYY.o l HPC.o lo lc (by rw[HLL.o];exact hl) HD.o l.length 0 (by omega) w5 v none 0 [] (HYY.o.only w w5 HI.o ON5.o) ⟨S5.o,Y5.o,by rw[HLL.o];exact L5.o,C5.o,HC.o.only ON5.o⟩ (HO.o.step B5.o) ⟨đd _,fun _=>rfl,.inl rfl⟩ (đd _) HP0.o (đm HSZ.o B5.o.size));have c1:=C5.o.cell 0 _ rfl;clear C5 S5 Y5 L5 HC HO HI;rw[List.drop_zero] at HCX
 go_wp2_with fail
 refine HCX.o.mono ?_;rintro e w6 ⟨rfl,on6,hq⟩;have HQ:=ħ hq;have ON6:=ħ (ON5.o.trans on6);clear on6 hq HCX c1
 go_wp2_with fail
 go_ret;exact⟨rfl,ON6.o,HQ.o⟩
theorem Ztw(w:World)(OB:Nat)(co:Option Addr)(cc:Nat)(ch:List Nat)(hC:ChR w OB co cc ch)(hl:ch.length<=1000000)(hO:OB<w.heap.size) :
  Calls Tryz.prog 103 #[.slice co ch.length cc] w fun e w'=>(∃ ko kc,e = .returned (.slice ko ch.length kc)/\ChR w' OB ko kc ch)/\Below w.heap.size w w':=by
 obtain⟨h1,h2,h3⟩:=hC
 cases ch with
 | nil =>
  cases co with
  | none =>
   refine(Tryz.slices_Clone_int_nil 0 cc w).mono ?_;rintro e w' ⟨rfl,rfl⟩;exact⟨⟨none,0,rfl,đd _,fun _=>rfl,.inl rfl⟩,đc _ _⟩
  | some a =>
   refine(Tryz.slices_Clone_int_zero a cc w).mono ?_;rintro e w' ⟨v',rfl,ho,-,hb⟩;obtain⟨hl,⟨h0,-⟩ | ⟨g,cap,cur,rfl,hB,hg,hc,hm,hs,ht⟩⟩:=ho
   ·exact⟨⟨none,0,by rw[h0];rfl,đd _,fun _=>rfl,.inl rfl⟩,hb⟩
   ·exact⟨⟨some ⟨g,0,none⟩,cap,rfl,Nat.zero_le _,fun e=>(by cases e),.inl rfl⟩,hb⟩
 | cons x xs =>
  rcases h3 with h | ⟨g,off,rfl,hg,hn,hr⟩
  ·cases h
  ·refine(Tryz.slices_Clone_int g off (x::xs).length cc ((x::xs).map Int.ofNat) w (by rw[đr];exact đd _) (by omega) (fun j hj=>?_)).mono ?_
   ·rw[đr] at hj
    have:=hr j _ (Zhz (đb hj));rw[this,đf,đj,đb hj];rfl
   ·rintro e w' ⟨v',rfl,ho,-,hb⟩
    obtain⟨g',cap',rfl,hw,hl',hcm,hle⟩:=OwnK.of_row ho (by rw[List.length_cons];omega);refine⟨⟨some ⟨g',0,none⟩,cap',rfl,hle,fun e=>(by cases e),.inr ⟨g',0,rfl,hw.lt,by have:=hw.own;omega,fun j u hj=>?_⟩⟩,hb⟩
    have he:((((x::xs).map Int.ofNat).take (x::xs).length).map (Value.int .i64))=Za0 (x::xs):=by
     have:(x::xs).length=((x::xs).map Int.ofNat).length:=by rw[đr]
     rw[this,List.take_length,List.map_map];rfl
    rw[he] at hw;exact hw.cells j u hj
theorem Zql{c:Crw}{C:List (List Bool)}(h:ReckOk c C){ch:List Nat}(hc:∀ u∈ch,u<c.us.length)(hl:ch.length<=999):ReckOk (Zh1 c ch) (Zhb C ch):=by
 refine⟨by show(ch.map _).length=(ch.map _).length;rw[đr,đr],fun r hr=>?_,fun y hy=>?_,h.tic,h.nm,by show(ch.map _).length<=1000;rw[đr];omega⟩
 ·obtain⟨u,hu,rfl⟩:=List.mem_map.1 hr
  have hlt:=hc u hu;rw[đf,đb (by rw[h.len];exact hlt)];exact h.row _ (List.getElem_mem _)
 ·obtain⟨u,hu,rfl⟩:=List.mem_map.1 hy
  have hlt:=hc u hu;rw[đf,đb hlt];exact h.win _ (List.getElem_mem _)
theorem Z0x{c:Crw}{ch:List Nat}{own:List Int}:∀ q∈(Zf3 ch own).map Int.ofNat,Zco q (Zh1 c ch).us.length=true:=fun q hq=>by
 obtain⟨k,hk,rfl⟩:=List.mem_map.1 hq;have h1:=List.mem_range.1 (List.mem_filter.1 hk).1;have h2:(Zh1 c ch).us.length=ch.length:=đr _;rw[h2];unfold Zco inB;show(decide (0<=(k:Int))&&decide ((k:Int)<=(ch.length:Int)-1))=true;rw[decide_eq_true (by omega),decide_eq_true (by omega)];rfl
def Zni(c:Crw)(own:List Int)(x:Use)(l:List Wsh)(ch:List Nat):Bool:=!Zd6 (Zh1 c ch) (Zaj c) (Zhb (Za7 c) ch) ((Zf3 ch own).map Int.ofNat) x l
structure ExpW (w0 W:World) (RB OWB OB XB LB A:Nat) (c:Crw) (own:List Int) (oo:Option Addr) (oc:Nat) (x:Use) (l:List Wsh) (lo:Option Addr) (lc:Nat):Prop where
 rb:Zae W RB 102 [.pointer (some ⟨A,0,none⟩)]
 ob:Zae W OWB 33 [.slice oo own.length oc]
 xb:Zae W XB 39 [.int .i64 x.q,.int .i64 x.w,.int .i64 x.f,.int .i64 x.h]
 lb:Zae W LB 56 [.slice lo l.length lc]
 rk:Zd3 W (· = OB) A c (Zaj c) (Za7 c)
 bl:Below w0.heap.size w0 W
theorem ExpW.only{w0 W W':World}{RB OWB OB XB LB A:Nat}{c:Crw}{own:List Int}{oo:Option Addr}{oc:Nat}{x:Use}{l:List Wsh}{lo:Option Addr}{lc:Nat}(h:ExpW w0 W RB OWB OB XB LB A c own oo oc x l lo lc)(on:Only W W' (· = OB))(hd:RB≠OB/\OWB≠OB/\XB≠OB/\LB≠OB/\w0.heap.size<=OB):ExpW w0 W' RB OWB OB XB LB A c own oo oc x l lo lc :=
 ⟨h.rb.only on hd.1,h.ob.only on hd.2.1,h.xb.only on hd.2.2.1,h.lb.only on hd.2.2.2.1,h.rk.only on (fun g _ hg=>hg),on.later h.bl (fun g hg=>by have:=hd.2.2.2.2;omega)⟩
theorem Zxv(w0:World)(RB OWB OB XB LB A:Nat)(c:Crw)(own:List Int)(oo:Option Addr)(oc:Nat)(x:Use)(l:List Wsh)(lo:Option Addr)(lc:Nat)(hd:RB≠OB/\OWB≠OB/\XB≠OB/\LB≠OB/\w0.heap.size<=OB)(hv:Zea c x=true)(hnu:c.us.length<=999)(hown:Zan Zbg w0 oo own)(hol:own.length<=1000000)(hl:Zan Z1l w0 lo l)(hll:l.length<=1000000) :
  YldW OB (fun W=>ExpW w0 W RB OWB OB XB LB A c own oo oc x l lo lc) (fun ch=>∀ u∈ch,u<c.us.length) 101 #[.pointer (some ⟨RB,0,none⟩),.pointer (some ⟨OWB,0,none⟩),.pointer (some ⟨OB,0,none⟩),.pointer (some ⟨XB,0,none⟩),.pointer (some ⟨LB,0,none⟩)] (Zni c own x l):=by
 refine⟨enters_of Tryz.func101 (by kernel_rfl) rfl,fun W W' h on=>h.only on hd,fun w v co cc ch hI hO hC hcl hch=>?_⟩;have hpf:=Zct hv;have hok:ReckOk c (Za7 c):=Zaw hpf.1 (by omega);have HPT:=ħ (Z0v w (· = OB) A c (Zaj c) (Za7 c) ch co cc own oo oc hI.rk (fun g hg=>by have:=hO.lt;omega) hok hC.flat (by omega) hch (hown.below hI.bl) hol);have HCL:=ħ (fun W (hW:Below w.heap.size w W)=>Ztw W OB co cc ch (hC.only (Only.of_below hW)) (by omega) (đm hO.lt hW.size))
 have HMI:Hid ((Zf3 ch own).length<=999):=ħ (by
  unfold Zf3
  exact đo (Zb1 _ _) hcl)
 have HBK:Hid (∀ W X mo cap,Zbo W X (Zh1 c ch) (Zaj c) (Zhb (Za7 c) ch)->Zan Zbg W mo ((Zf3 ch own).map Int.ofNat)->Below w0.heap.size w0 W->Calls Tryz.prog 104 #[.pointer (some ⟨X,0,none⟩),.slice mo (Zf3 ch own).length cap,.agg #[.int .i64 x.q,.int .i64 x.w,.int .i64 x.f,.int .i64 x.h],.slice lo l.length lc] W fun e w'=>e = .returned (.bool (Zd6 (Zh1 c ch) (Zaj c) (Zhb (Za7 c) ch) ((Zf3 ch own).map Int.ofNat) x l))/\Below W.heap.size W w'):=ħ (fun W X mo cap h1 h2 h3=>by
  have h:=Zmc W X (Zh1 c ch) (Zaj c) (Zhb (Za7 c) ch) ((Zf3 ch own).map Int.ofNat) mo cap x l lo lc h1 (Zql hok hch hcl) (by show(ch.map _).length<=999;rw[đr];exact hcl) hpf.2.1 hpf.2.2.1 Ze1 ⟨hpf.2.2.2.1,hpf.2.2.2.2⟩ h2 (by rw[đr];have:=HMI.o;omega) Z0x (hl.below h3) hll;rw[đr] at h
  exact h)
 have HYV:Hid (Zni c own x l ch=!Zd6 (Zh1 c ch) (Zaj c) (Zhb (Za7 c) ch) ((Zf3 ch own).map Int.ofNat) x l):=ħ rfl;have HI:=ħ hI;have HO:=ħ hO;have HD:=ħ hd;have r0:=hI.rb.cell 0 _ rfl;have o0:=hI.ob.cell 0 _ rfl;clear hI hC hok hown hl hch;generalize Zni c own x l ch=yv at *;generalize Zd6 (Zh1 c ch) (Zaj c) (Zhb (Za7 c) ch) ((Zf3 ch own).map Int.ofNat) x l=bk at *;generalize hmf:Zf3 ch own=MF at *;clear hmf;generalize Zh1 c ch=PU at *;generalize Zhb (Za7 c) ch=PR at *;generalize own.length=on0 at *;generalize hnc:ch.length=nc at *
 go_enter Tryz.func101,Tryz.ntmps101
 go_wp2_with fail
 refine HPT.o.mono ?_;rintro e w2 ⟨⟨X,mo,cap,rfl,hX,hM⟩,b2⟩;have HX:=ħ hX;have HM:=ħ hM;have B2:=ħ b2;have HC2:=ħ (HCL.o w2 b2);clear hX hM b2 HPT HCL r0 o0
 go_wp2_with fail
 refine HC2.o.mono ?_;rintro e w3 ⟨⟨ko,kc,rfl,hk⟩,b3⟩;have B3:=ħ (B2.o.trans (b3.mono B2.o.size));have HX3:=ħ (HX.o.only (Only.of_below b3) (fun g _ hg=>hg));have HM3:=ħ (HM.o.below b3);have HK3:=ħ hk;have O3:=ħ (HO.o.step B3.o);have q0:=O3.o.cell 0 _ rfl;have qf:=O3.o.warm 0;clear b3 hk HC2 HX HM B2
 go_upto_region 3 with(fail)
 clear q0 qf;have on:=(Only.refl w3 (· = OB)).setCell (a:=⟨OB,0,none⟩) (.slice ko nc kc) rfl;have O4:=ħ (O3.o.set 0 (.slice ko nc kc));have ON4:Hid (Only w (w3.setCell ⟨OB,0,none⟩ (.slice ko nc kc)) (· = OB)):=ħ ((Only.of_below B3.o).trans on);have HX4:Hid (Zd3 (w3.setCell ⟨OB,0,none⟩ (.slice ko nc kc)) (· = OB) X PU (Zaj c) PR):=ħ (HX3.o.only on (fun g _ hg=>hg));have HM4:=ħ (HM3.o.of_block (fun g e hl=>on.block g hl (fun e2=>by have h1:=(HM3.o.blk_lt e).1;have h2:=HO.o.lt;omega)) on.size);have HK4:=ħ (HK3.o.only on);have HI4:=ħ (HI.o.only ON4.o HD.o);clear on HX3 HM3 HK3 O3 B3;generalize w3.setCell ⟨OB,0,none⟩ (.slice ko nc kc)=w4 at *;have x0:=HI4.o.xb.cell 0 _ rfl;have x1:=HI4.o.xb.cell 1 _ rfl;have x2:=HI4.o.xb.cell 2 _ rfl;have x3:=HI4.o.xb.cell 3 _ rfl;have l0:=HI4.o.lb.cell 0 _ rfl;have HB4:=ħ (HBK.o w4 X mo cap HX4.o.reck (Zcm HM4.o rfl) HI4.o.bl);clear HBK HX4 HM4;generalize l.length=nl at *;generalize MF.length=nm at *;generalize x.q=xq at *;generalize x.w=xw at *;generalize x.f=xf at *;generalize x.h=xh at *
 go_wp2_with fail
 refine HB4.o.mono ?_;rintro e w5 ⟨rfl,b5⟩;have ON5:Hid (Only w w5 (· = OB)):=ħ (ON4.o.trans (Only.of_below b5));have O5:=ħ (O4.o.step b5);have HK5:=ħ (HK4.o.only (Only.of_below b5));clear b5 HB4 x0 x1 x2 x3 l0
 go_wp2_with fail
 go_ret
 exact⟨by rw[HYV.o];rfl,ON5.o,_,O5.o,fun r hr=>by
  obtain rfl:=đa hr
  exact⟨ko,kc,by rw[hnc],HK5.o⟩⟩
def Zip(y:List Nat->Bool)(g:List Nat)(n:Nat):Option (List Nat):=(List.range n).findSome? (fun s=>Zbk y s g [])
def Zxw(c:Crw)(own:List Int)(x:Use)(l:List Wsh):List Nat×Nat :=
 if (Zea c x&&Zxq c own)=true then
  if 12<(Zgp c x.w).length then([],6) else
  match Zip (Zni c own x l) (Zgp c x.w) ((Zgp c x.w).length+1) with
  | some r=>(r,0)
  | none=>([],4)
 else([],1)
theorem Ztx(y:List Nat->Bool)(g:List Nat)(n:Nat)(h:Zip y g n=none):Zip y g (n+1)=Zbk y n g []:=by
 unfold Zip at *;rw[List.range_succ,List.findSome?_append,h];simp
theorem Zty(y:List Nat->Bool)(g:List Nat)(n m:Nat)(r:List Nat)(h:Zip y g n=some r)(hm:n<=m):Zip y g m=some r:=by
 unfold Zip at *;obtain⟨d,rfl⟩:∃ d,m=n+d:=⟨m-n,by omega⟩;rw[List.range_add,List.findSome?_append,h];rfl
def Zqm(w w':World)(r:List Nat×Nat)(e:Ending):Prop:=(∃ o cap,e = .returned (.tuple #[.slice o r.1.length cap,.int .i64 ((r.2:Nat):Int)])/\Zan Zbg w' o (r.1.map Int.ofNat))/\Below w.heap.size w w'
theorem Zqm.nil{w w':World}{r:List Nat×Nat}{n:Nat}(h:r=([],n))(hb:Below w.heap.size w w'):Zqm w w' r (.returned (.tuple #[.slice none 0 0,.int .i64 (n:Int)])):=by
 subst h;exact⟨⟨none,0,rfl,.inl rfl⟩,hb⟩
theorem Zdn{fn:Func}(hf:fn.results=#[.cell 8 33,.tmp 9])(tmps:Array Value)(w:World)(g:Nat)(v u:Value)(hp:tmps.getD 8 undef = .pointer (some ⟨g,0,none⟩))(hu:tmps.getD 9 undef=u)(h:w.cell? ⟨g,0,none⟩=some v) :
  (results fn tmps).run Tryz.prog w = .ok (.tuple #[v,u]) w:=by
 rw[results_cell_tmp hf,hp,hu];simp[asAddr,Zo5 w g v h,Result.andThen]
theorem Zsl(w:World)(c:Crw)(cs:List Value)(B:Nat)(own:List Int)(oo:Option Addr)(oc:Nat)(x:Use)(l:List Wsh)(lo:Option Addr)(lc:Nat)(ha:ArgC w c cs B)(hown:Zan Zbg w oo own)(hol:own.length<=1000000)(hl:Zan Z1l w lo l)(hll:l.length<=1000000) :
  Calls Tryz.prog 32 #[.agg cs.toArray,.slice oo own.length oc,.agg (Zcg x).toArray,.slice lo l.length lc] w fun e w'=>Zqm w w' (Zxw c own x l) e:=by
 have HPL:=ħ (fun W (hW:Below w.heap.size w W)=>Znh W c cs B x (ha.below hW));have HNU:=ha.nu;have hnq0:=ha.ok.nq;have hnm0:=ha.ok.nm;have HPA:Hid (Zxw c own x l=if (Zea c x&&Zxq c own)=true then if 12<(Zgp c x.w).length then([],6) else match Zip (Zni c own x l) (Zgp c x.w) ((Zgp c x.w).length+1) with | some r=>(r,0) | none=>([],4) else([],1)):=ħ rfl;have HOW:=ħ (fun W (hW:Below w.heap.size w W)=>Zsh W c cs own oo oc (ha.crw.below hW) (by omega) (hown.below hW) hol);have HGR:=ħ (fun W A (h:Zbo W A c (Zaj c) (Za7 c)) (hp:Zea c x=true)=>Zqi W A c (Zaj c) (Za7 c) x.w h (Zaw (Zct hp).1 (by omega)));have HE1:=ħ (fun RB OWB OB XB LB A hd hp=>Zxv w RB OWB OB XB LB A c own oo oc x l lo lc hd hp HNU hown hol hl hll);have HGM:Hid (∀ u∈Zgp c x.w,u<c.us.length):=ħ (fun u hu=>List.mem_range.1 (List.mem_filter.1 hu).1)
 have HGL:Hid ((Zgp c x.w).length<=999):=ħ (by
  unfold Zgp
  exact đo (Zb1 _ _) HNU)
 have HGN:=ħ (Ztx (Zni c own x l) (Zgp c x.w));have HGS:=ħ (Zty (Zni c own x l) (Zgp c x.w));have HCRW:=ħ ha.crw;have HOE:Hid (Zxq c own=!own.any (fun q=>!Zco q c.us.length)):=ħ rfl;rw[<- HOE.o] at HOW;obtain⟨qo,qc,mo,mc,uo,uc,rfl,-,-,-⟩:=ha.crw;unfold Zxp at HPL;clear ha hown hl HOE;generalize Zxw c own x l=PA at *;generalize hob:Zxq c own=ob at *;generalize hpb:Zea c x=pb at *;clear hob hpb;have HUX:Hid (Zcg x=[.int .i64 x.q,.int .i64 x.w,.int .i64 x.f,.int .i64 x.h]):=ħ rfl;rw[HUX.o] at HPL ⊢;clear HUX;generalize c.qs.length=nq at *;generalize c.ms.length=nm at *;generalize hnu:c.us.length=nu at *;clear hnu;have HC:=Zae.new w 26 [.slice qo nq qc,.slice mo nm mc,.slice uo nu uc];have hb0:=(đc w.heap.size w).alloc (đd _) (.cells ([.slice qo nq qc,.slice mo nm mc,.slice uo nu uc]:List Value).toArray 26);generalize hw1:w.alloc (.cells ([.slice qo nq qc,.slice mo nm mc,.slice uo nu uc]:List Value).toArray 26)=w1 at *
 have hz1:w1.heap.size=w.heap.size+1:=by rw[<- hw1,đl]
 have HO:=Zae.newAt w1 33 [.slice oo own.length oc] (w.heap.size+1) hz1.symm;have hb1:=(đc w1.heap.size w1).alloc (đd _) (.cells ([.slice oo own.length oc]:List Value).toArray 33);replace HC:=Zae.step HC hb1;generalize hw2:w1.alloc (.cells ([.slice oo own.length oc]:List Value).toArray 33)=w2 at *
 have hz2:w2.heap.size=w.heap.size+1+1:=by rw[<- hw2,đl,hz1]
 have HX:=Zae.newAt w2 39 [.int .i64 x.q,.int .i64 x.w,.int .i64 x.f,.int .i64 x.h] (w.heap.size+1+1) hz2.symm;have hb2:=(đc w2.heap.size w2).alloc (đd _) (.cells ([.int .i64 x.q,.int .i64 x.w,.int .i64 x.f,.int .i64 x.h]:List Value).toArray 39);replace HC:=Zae.step HC hb2;replace HO:=Zae.step HO hb2;generalize hw3:w2.alloc (.cells ([.int .i64 x.q,.int .i64 x.w,.int .i64 x.f,.int .i64 x.h]:List Value).toArray 39)=w3 at *
 have hz3:w3.heap.size=w.heap.size+1+1+1:=by rw[<- hw3,đl,hz2]
 have HL:=Zae.newAt w3 56 [.slice lo l.length lc] (w.heap.size+1+1+1) hz3.symm;have hb3:=(đc w3.heap.size w3).alloc (đd _) (.cells ([.slice lo l.length lc]:List Value).toArray 56);replace HC:=Zae.step HC hb3;replace HO:=Zae.step HO hb3;replace HX:=Zae.step HX hb3;generalize hw4:w3.alloc (.cells ([.slice lo l.length lc]:List Value).toArray 56)=w4 at *
 have hz4:w4.heap.size=w.heap.size+1+1+1+1:=by rw[<- hw4,đl,hz3]
 have HR:=Zae.newAt w4 33 [.slice none 0 0] (w.heap.size+1+1+1+1) hz4.symm;have hb4:=(đc w4.heap.size w4).alloc (đd _) (.cells ([.slice none 0 0]:List Value).toArray 33);replace HC:=Zae.step HC hb4;replace HO:=Zae.step HO hb4;replace HX:=Zae.step HX hb4;replace HL:=Zae.step HL hb4;generalize hw5:w4.alloc (.cells ([.slice none 0 0]:List Value).toArray 33)=w5 at *
 have hz5:w5.heap.size=w.heap.size+1+1+1+1+1:=by rw[<- hw5,đl,hz4]
 have C5:=ħ HC;have O5:=ħ HO;have X5:=ħ HX;have L5:=ħ HL;have R5:=ħ HR;have B5:=ħ (hb0.trans ((hb1.trans ((hb2.trans ((hb3.trans (hb4.mono hb3.size)).mono hb2.size)).mono hb1.size)).mono hb0.size));have HZ:Hid (w5.heap.size=w.heap.size+1+1+1+1+1):=ħ hz5;have HWW:Hid (((((w.alloc (.cells #[.slice qo nq qc,.slice mo nm mc,.slice uo nu uc] 26)).alloc (.cells #[.slice oo own.length oc] 33)).alloc (.cells #[.int .i64 x.q,.int .i64 x.w,.int .i64 x.f,.int .i64 x.h] 39)).alloc (.cells #[.slice lo l.length lc] 56)).alloc (.cells #[.slice none 0 0] 33)=w5):=ħ (by rw[<- hw5,<- hw4,<- hw3,<- hw2,<- hw1]);clear HC HO HX HL HR hb0 hb1 hb2 hb3 hb4 hz1 hz2 hz3 hz4 hz5 hw1 hw2 hw3 hw4 hw5;clear w1 w2 w3 w4
 go_enter Tryz.func32,Tryz.ntmps32
 go_upto_region 1 with(fail)
 rw[HWW.o];clear HWW;have c0:=C5.o.cell 0 _ rfl;have c1:=C5.o.cell 1 _ rfl;have c2:=C5.o.cell 2 _ rfl;have x0:=X5.o.cell 0 _ rfl;have x1:=X5.o.cell 1 _ rfl;have x2:=X5.o.cell 2 _ rfl;have x3:=X5.o.cell 3 _ rfl;have HCL:=ħ (HPL.o w5 B5.o);clear HPL
 go_wp2_with fail
 refine HCL.o.mono ?_;intro e w6 hq;obtain⟨b6,hres⟩:=hq;have B6:=ħ (B5.o.trans (b6.mono B5.o.size));have C6:=ħ (C5.o.step b6);have O6:=ħ (O5.o.step b6);have X6:=ħ (X5.o.step b6);have L6:=ħ (L5.o.step b6);have R6:=ħ (R5.o.step b6);have HZ6:Hid (w.heap.size+1+1+1+1<w6.heap.size):=ħ (by have:=HZ.o;have:=b6.size;omega);clear b6 c0 c1 c2 x0 x1 x2 x3 HCL C5 O5 X5 L5 R5
 cases pb with
 | false =>
  rw[if_neg (by decide)] at hres;subst hres;have HPN:Hid (PA=([],1)):=ħ (by rw[HPA.o];rfl);have bz:=(đc w6.heap.size w6).alloc (đd _) (.cells #[.pointer none] 102);have R7:=ħ (R6.o.step bz);have B7:=ħ (B6.o.trans (bz.mono B6.o.size));clear bz HPA R6 B6
  go_upto_region 2 with(fail)
  generalize w6.alloc (.cells #[.pointer none] 102)=w7 at *;have q0:=R7.o.cell 0 _ rfl;have qf:=R7.o.warm 0;have on:=(Only.refl w7 (· = w.heap.size+1+1+1+1)).setCell (a:=⟨w.heap.size+1+1+1+1,0,none⟩) (.slice none 0 0) rfl;have hc:=(R7.o.set 0 (.slice none 0 0)).cell 0 _ rfl;have BZ:=ħ (Only.later B7.o on (fun g hg=>by omega));have HON:=ħ hc;clear on hc
  go_wp2_with fail
  refine bodyPost_ret (Zdn (by kernel_rfl) _ _ (w.heap.size+1+1+1+1) _ _ rfl rfl HON.o) rfl ?_;exact Zqm.nil HPN.o BZ.o
 | true =>
  rw[if_pos rfl] at hres;obtain⟨A,rfl,hR,hF⟩:=hres;have hQ6:=hF w (· = w.heap.size+1+1+1+1) HCRW.o B5.o (fun g hg=>⟨by omega,by have:=HZ.o;omega⟩);have bz:=(đc w6.heap.size w6).alloc (đd _) (.cells #[.pointer (some ⟨A,0,none⟩)] 102);have RB7:Hid (Zae (w6.alloc (.cells #[.pointer (some ⟨A,0,none⟩)] 102)) w6.heap.size 102 [.pointer (some ⟨A,0,none⟩)]):=ħ (heap_alloc_new _ _);have HR7:=ħ (hR.below bz);have HQ7:Hid (Zd3 (w6.alloc (.cells #[.pointer (some ⟨A,0,none⟩)] 102)) (· = w.heap.size+1+1+1+1) A c (Zaj c) (Za7 c)):=ħ (hQ6.only (Only.of_below bz) (fun g _ hg=>hg));have C7:=ħ (C6.o.step bz);have O7:=ħ (O6.o.step bz);have X7:=ħ (X6.o.step bz);have L7:=ħ (L6.o.step bz);have R7:=ħ (R6.o.step bz);have B7:=ħ (B6.o.trans (bz.mono B6.o.size));clear bz hR hF hQ6 C6 O6 X6 L6 R6 B6
  go_upto_region 2 with(fail)
  generalize w6.alloc (.cells #[.pointer (some ⟨A,0,none⟩)] 102)=w7 at *;generalize w6.heap.size=RB at *;have c0:=C7.o.cell 0 _ rfl;have c1:=C7.o.cell 1 _ rfl;have c2:=C7.o.cell 2 _ rfl;have o0:=O7.o.cell 0 _ rfl;have HO7:=ħ (HOW.o w7 B7.o);clear HOW;generalize hon:own.length=on0 at *
  go_wp2_with fail
  refine HO7.o.mono ?_;rintro e w8 ⟨rfl,b8⟩;have B8:=ħ (B7.o.trans (b8.mono B7.o.size));have O8:=ħ (O7.o.step b8);have X8:=ħ (X7.o.step b8);have L8:=ħ (L7.o.step b8);have R8:=ħ (R7.o.step b8);have RB8:=ħ (RB7.o.step b8);have HR8:=ħ (HR7.o.below b8);have HQ8:=ħ (HQ7.o.only (Only.of_below b8) (fun g _ hg=>hg):Zd3 w8 (· = w.heap.size+1+1+1+1) A c (Zaj c) (Za7 c));clear b8 c0 c1 c2 o0 HO7 C7 O7 X7 L7 R7 RB7 HR7 HQ7 B7
  cases ob with
  | false =>
   have HPN:Hid (PA=([],1)):=ħ (by rw[HPA.o];rfl);clear HPA;have q0:=R8.o.cell 0 _ rfl;have qf:=R8.o.warm 0;have on:=(Only.refl w8 (· = w.heap.size+1+1+1+1)).setCell (a:=⟨w.heap.size+1+1+1+1,0,none⟩) (.slice none 0 0) rfl;have hc:=(R8.o.set 0 (.slice none 0 0)).cell 0 _ rfl;have BZ:=ħ (Only.later B8.o on (fun g hg=>by omega));have HON:=ħ hc;clear on hc
   go_wp2_with fail
   refine bodyPost_ret (Zdn (by kernel_rfl) _ _ (w.heap.size+1+1+1+1) _ _ rfl rfl HON.o) rfl ?_;exact Zqm.nil HPN.o BZ.o
  | true =>
   have r0:=RB8.o.cell 0 _ rfl;have x1:=X8.o.cell 1 _ rfl;have HG8:=ħ (HGR.o w8 A HR8.o (by first | rfl | trivial));have HYW:=ħ (HE1.o RB (w.heap.size+1) (w.heap.size+1+1+1+1) (w.heap.size+1+1) (w.heap.size+1+1+1) A (by have:=HZ6.o;omega) (by first | rfl | trivial));have HPA2:Hid (PA=if 12<(Zgp c x.w).length then([],6) else match Zip (Zni c own x l) (Zgp c x.w) ((Zgp c x.w).length+1) with | some r=>(r,0) | none=>([],4)):=ħ (by rw[HPA.o];rfl);clear HPA HGR HE1;obtain⟨G,hG⟩:∃ y,Zgp c x.w=y:=⟨_,rfl⟩;rw[hG] at HG8 HPA2 HGM HGL HGN HGS;clear hG;obtain⟨y,hy⟩:∃ y,Zni c own x l=y:=⟨_,rfl⟩;rw[hy] at HPA2 HGN HGS HYW;clear hy
   go_wp2_with fail
   refine HG8.o.mono ?_;rintro e w9 ⟨⟨go,gc,rfl,hg⟩,b9⟩;have B9:=ħ (B8.o.trans (b9.mono B8.o.size));have R9:=ħ (R8.o.step b9);have HCH:=ħ (ChR.of_own (OB:=w.heap.size+1+1+1+1) hg rfl (R8.o.lt));have HI9:Hid (ExpW w w9 RB (w.heap.size+1) (w.heap.size+1+1+1+1) (w.heap.size+1+1) (w.heap.size+1+1+1) A c own oo oc x l lo lc):=ħ ⟨RB8.o.step b9,by rw[hon];exact O8.o.step b9,X8.o.step b9,L8.o.step b9,HQ8.o.only (Only.of_below b9) (fun g _ hg=>hg),B9.o⟩;clear hg b9 HG8 r0 x1 O8 X8 L8 R8 RB8 HR8 HQ8 B8;have hgl:=HGL.o;obtain⟨gl,hgl2⟩:∃ y,G.length=y:=⟨_,rfl⟩;have HGE:=ħ hgl2;rw[hgl2] at HPA2 hgl;rw[hgl2];clear hgl2;by_cases hlt:12<gl
   ·have g1:(12:Int)<(gl:Int):=by omega
    have HPN:Hid (PA=([],6)):=ħ (by rw[HPA2.o,if_pos hlt]);clear HPA2;have q0:=R9.o.cell 0 _ rfl;have qf:=R9.o.warm 0;have on:=(Only.refl w9 (· = w.heap.size+1+1+1+1)).setCell (a:=⟨w.heap.size+1+1+1+1,0,none⟩) (.slice none 0 0) rfl;have hc:=(R9.o.set 0 (.slice none 0 0)).cell 0 _ rfl;have BZ:=ħ (Only.later B9.o on (fun g hg=>by omega));have HON:=ħ hc;clear on hc
    go_wp2_with fail
    refine bodyPost_ret (Zdn (by kernel_rfl) _ _ (w.heap.size+1+1+1+1) _ _ rfl rfl HON.o) rfl ?_;exact Zqm.nil HPN.o BZ.o
   ·have g1:¬ (12:Int)<(gl:Int):=by omega
    have HPN:Hid (PA=match Zip y G (gl+1) with | some r=>(r,0) | none=>([],4)):=ħ (by rw[HPA2.o,if_neg hlt]);clear HPA2;have eL:IntKind.i64.wrap ((gl:Int)+1)=(gl:Int)+1:=đh _ (by omega)
    go_wp2_with fail
    have HG0:Hid (Zip y G 0=none):=ħ rfl
    go_loopw [39] (fun sv wr=>∃ (s:Nat) (v:Value),sv = .int .i64 s/\s<=gl+1/\Hid (Zip y G s=none)/\Hid (ExpW w wr RB (w.heap.size+1) (w.heap.size+1+1+1+1) (w.heap.size+1+1) (w.heap.size+1+1+1) A c own oo oc x l lo lc)/\Hid (ChR wr (w.heap.size+1+1+1+1) go gc G)/\Hid (Zae wr (w.heap.size+1+1+1+1) 33 [v])) (fun s _=>((gl:Int)+1-intOf s).toNat)
    case atStart=>exact⟨0,_,rfl,by omega,HG0,HI9,HCH,R9⟩
    case round =>
     clear HG0 HI9 HCH R9;obtain⟨s,v,rfl,hs,HGN0,HI,HCH,HO⟩:=hrel;have e2:IntKind.i64.wrap ((s:Int)+1)=((s+1:Nat):Int):=đh _ (by omega);by_cases hsl:s<gl+1
     ·have ss:(s:Int)<(gl:Int)+1:=by omega
      have HSU:=ħ (Zqk (w.heap.size+1+1+1+1) s (fun W=>ExpW w W RB (w.heap.size+1) (w.heap.size+1+1+1+1) (w.heap.size+1+1) (w.heap.size+1+1+1) A c own oo oc x l lo lc) (fun ch=>∀ u∈ch,u<nu) _ _ y HYW.o G (fun ch z h1 h2 u hu=>by
       rcases đt.1 hu with h | h
       ·exact h1 u h
       ·rw[List.mem_singleton] at h;subst h;exact HGM.o u h2) (fun u hu=>(by simp at hu)) go gc (by rw[HGE.o];exact hgl) wr v HI.o HO.o HCH.o)
      rw[HGE.o] at HSU;have HNX:=ħ (HGN.o s HGN0.o);obtain⟨RS,hRS⟩:∃ r,Zbk y s G []=r:=⟨_,rfl⟩;rw[hRS] at HSU HNX;clear hRS
      go_wp2_with fail
      refine HSU.o.mono ?_;rintro e w2 ⟨rfl,on,hq⟩;have HI2:=ħ (HYW.o.only wr w2 HI.o on);have HCH2:=ħ (HCH.o.only on);have HQ:=ħ hq;clear on hq HSU HI HCH HO
      cases RS with
      | some r =>
       have HPN2:Hid (PA=(r,0)):=ħ (by rw[HPN.o,HGS.o (s+1) (gl+1) r HNX.o (by omega)]);obtain⟨v2,h1,h2⟩:=HQ.o;obtain⟨ko,kc,rfl,hk⟩:=h2 r rfl;have q0:=h1.cell 0 _ rfl;have qf:=h1.warm 0;have on:=(Only.refl w2 (· = w.heap.size+1+1+1+1)).setCell (a:=⟨w.heap.size+1+1+1+1,0,none⟩) (.slice ko r.length kc) rfl;have HON:=ħ ((h1.set 0 (.slice ko r.length kc)).cell 0 _ rfl);have HK:=ħ (hk.only on);have BZ:=ħ (Only.later HI2.o.bl on (fun g hg=>by omega));clear on h1 h2 hk HQ
       go_wp2_with fail
       refine bodyPost_ret (Zdn (by kernel_rfl) _ _ (w.heap.size+1+1+1+1) _ _ rfl rfl HON.o) rfl ?_;rw[HPN2.o];exact⟨⟨ko,kc,rfl,HK.o.flat⟩,BZ.o⟩
      | none =>
       obtain⟨v2,h1,-⟩:=HQ.o;have HV2:=ħ h1;clear h1 HQ
       go_wp2_with fail
       go_roundw
       case rel=>exact⟨s+1,v2,by go_num,by omega,HNX,HI2,HCH2,HV2⟩
       case measure=>simp only[intOf];omega
     ·have ss:¬ (s:Int)<(gl:Int)+1:=by omega
      obtain rfl:gl+1=s:=by omega
      have HPN2:Hid (PA=([],4)):=ħ (by rw[HPN.o,HGN0.o]);have HBL:=ħ HI.o.bl;have q0:=HO.o.cell 0 _ rfl;have qf:=HO.o.warm 0;have on:=(Only.refl wr (· = w.heap.size+1+1+1+1)).setCell (a:=⟨w.heap.size+1+1+1+1,0,none⟩) (.slice none 0 0) rfl;have hc:=(HO.o.set 0 (.slice none 0 0)).cell 0 _ rfl;have BZ:=ħ (Only.later HBL.o on (fun g hg=>by omega));have HON:=ħ hc;clear on hc
      go_wp2_with fail
      refine bodyPost_ret (Zdn (by kernel_rfl) _ _ (w.heap.size+1+1+1+1) _ _ rfl rfl HON.o) rfl ?_;exact Zqm.nil HPN2.o BZ.o
end
section
open Go.RowKit Go.Sort Go.Maps
theorem Zpf(w:World)(a b:List Int)(ao bo:Option Addr)(ac bc:Nat)(ha:Zan Zbg w ao a)(hb:Zan Zbg w bo b)(hl:a.length<=1000000) :
  Calls Tryz.prog 25 #[.slice ao a.length ac,.slice bo b.length bc] w fun e w'=>e = .returned (.bool (decide (a=b)))/\Below w.heap.size w w':=by
 have HA:=ħ (fun W (hW:Below w.heap.size w W)=>ha.below hW);have HB:=ħ (fun W (hW:Below w.heap.size w W)=>hb.below hW);have HNE:Hid (a.length≠b.length->decide (a=b)=false):=ħ (fun h=>decide_eq_false (fun e=>h (by rw[e])))
 have HNI:Hid (∀ (i:Nat) (x y:Int),a[i]?=some x->b[i]?=some y->x≠y->decide (a=b)=false):=ħ (fun i x y h1 h2 h=>decide_eq_false (fun e=>by
  rw[e,h2] at h1
  exact h (đa h1).symm))
 have HEQ:Hid (a.length=b.length->(∀ i,i<a.length->a[i]?=b[i]?)->decide (a=b)=true):=ħ (fun hn h=>decide_eq_true (List.ext_getElem? (fun i=>by
  by_cases hi:i<a.length
  ·exact h i hi
  ·rw[List.getElem?_eq_none (by omega),List.getElem?_eq_none (by omega)])))
 have HGA:Hid (∀ (i:Nat),i<a.length->∃ x,a[i]?=some x):=ħ (fun i h=>⟨_,đb h⟩);have HGB:Hid (∀ (i:Nat),i<b.length->∃ x,b[i]?=some x):=ħ (fun i h=>⟨_,đb h⟩);clear ha hb;generalize decide (a=b)=DE at *;generalize hal:a.length=al at *;generalize hbl:b.length=bl at *;clear hal hbl
 go_enter Tryz.func25,Tryz.ntmps25
 by_cases hn:al=bl
 ·subst hn
  have HEQ2:=ħ (HEQ.o rfl);clear HEQ HNE
  go_wp2_with fail
  go_loopw [5] (fun iv wr=>∃ (i:Nat),iv = .int .i64 i/\i<=al/\Hid (∀ j,j<i->a[j]?=b[j]?)/\Hid (Below w.heap.size w wr)) (fun i _=>(al-intOf i).toNat)
  case atStart=>exact⟨0,rfl,by omega,ħ (fun j hj=>absurd hj (đu j)),ħ (đc _ _)⟩
  case round =>
   obtain⟨i,rfl,hi,HJ,BB⟩:=hrel;have e2:IntKind.i64.wrap ((i:Int)+1)=((i+1:Nat):Int):=đh _ (by omega);by_cases hin:i<al
   ·have ii:(i:Int)<al:=by omega
    obtain⟨x,hx⟩:=HGA.o i hin;obtain⟨y,hy⟩:=HGB.o i hin;obtain⟨ga,oa,hao,hga,hca⟩:=(HA.o wr BB.o).at Zaz i x hx;obtain⟨gb,ob,hbo,hgb,hcb⟩:=(HB.o wr BB.o).at Zaz i y hy;have a0:=hca 0 _ rfl;have b0:=hcb 0 _ rfl;rw[Nat.mul_one,Nat.add_zero] at a0 b0;have HXA:=ħ hx;have HYB:=ħ hy;have HAO:=ħ hao;have HBO:=ħ hbo;subst hao;subst hbo;clear hca hcb hga hgb hx hy;by_cases hxy:x=y
    ·subst hxy
     go_upto_region 6 with(fail)
     go_quiet (fail)
     have B3:=ħ (below_drewN BB.o nq);clear a0 b0 BB;generalize wr.drewN nq=wd at *
     go_wp2_with fail
     go_roundw
     case rel=>exact⟨i+1,by go_num,by omega,ħ (fun j hj=>by
      rcases đw j i with h | h
      ·exact HJ.o j h
      ·obtain rfl:j=i:=by omega
       rw[HXA.o,HYB.o]),B3⟩
     case measure=>simp only[intOf];omega
    ·have hxb:(x==y)=false:=by simpa using hxy
     have hxc:(x != y)=true:=by simp[hxy]
     have HD:=ħ (HNI.o i x y HXA.o HYB.o hxy)
     go_upto_region 6 with(fail)
     go_quiet (fail)
     have B3:=ħ (below_drewN BB.o nq);clear a0 b0 BB;generalize wr.drewN nq=wd at *
     go_wp2_with fail
     go_ret;exact⟨by rw[HD.o];rfl,B3.o⟩
   ·have ii:¬ (i:Int)<al:=by omega
    obtain rfl:al=i:=by omega
    have HD:=ħ (HEQ2.o HJ.o)
    go_wp2_with fail
    go_ret;exact⟨by rw[HD.o];rfl,BB.o⟩
 ·have hne:¬ (al:Int)=(bl:Int):=by omega
  have hneb:((al:Int)==(bl:Int))=false:=by simpa using hne
  have hnec:((al:Int) != (bl:Int))=true:=by simp[hne]
  have HD:=ħ (HNE.o hn)
  go_wp2_with fail
  go_ret;exact⟨by rw[HD.o];rfl,đc _ _⟩
end
section
open Go.RowKit Go.Sort Go.Maps
theorem Zxx(w:World)(a b:List (List Int))(ao bo:Option Addr)(ac bc:Nat)(ha:Zhw w a ao)(hb:Zhw w b bo)(hl:a.length<=1000000)(hr:∀ r∈a,r.length<=1000000) :
  Calls Tryz.prog 27 #[.slice ao a.length ac,.slice bo b.length bc] w fun e w'=>e = .returned (.bool (decide (a=b)))/\Below w.heap.size w w':=by
 have HA:=ħ (fun W (hW:Below w.heap.size w W)=>ha.below hW);have HB:=ħ (fun W (hW:Below w.heap.size w W)=>hb.below hW);have HRL:=ħ hr;have HNE:Hid (a.length≠b.length->decide (a=b)=false):=ħ (fun h=>decide_eq_false (fun e=>h (by rw[e])))
 have HNI:Hid (∀ (i:Nat) (x y:List Int),a[i]?=some x->b[i]?=some y->x≠y->decide (a=b)=false):=ħ (fun i x y h1 h2 h=>decide_eq_false (fun e=>by
  rw[e,h2] at h1
  exact h (đa h1).symm))
 have HEQ:Hid (a.length=b.length->(∀ i,i<a.length->a[i]?=b[i]?)->decide (a=b)=true):=ħ (fun hn h=>decide_eq_true (List.ext_getElem? (fun i=>by
  by_cases hi:i<a.length
  ·exact h i hi
  ·rw[List.getElem?_eq_none (by omega),List.getElem?_eq_none (by omega)])))
 have HGA:Hid (∀ (i:Nat),i<a.length->∃ x,a[i]?=some x):=ħ (fun i h=>⟨_,đb h⟩);have HGB:Hid (∀ (i:Nat),i<b.length->∃ x,b[i]?=some x):=ħ (fun i h=>⟨_,đb h⟩);clear ha hb hr;generalize decide (a=b)=DE at *;generalize hal:a.length=al at *;generalize hbl:b.length=bl at *;clear hal hbl
 go_enter Tryz.func27,Tryz.ntmps27
 by_cases hn:al=bl
 ·subst hn
  have HEQ2:=ħ (HEQ.o rfl);clear HEQ HNE
  go_wp2_with fail
  go_loopw [5] (fun iv wr=>∃ (i:Nat),iv = .int .i64 i/\i<=al/\Hid (∀ j,j<i->a[j]?=b[j]?)/\Hid (Below w.heap.size w wr)) (fun i _=>(al-intOf i).toNat)
  case atStart=>exact⟨0,rfl,by omega,ħ (fun j hj=>absurd hj (đu j)),ħ (đc _ _)⟩
  case round =>
   obtain⟨i,rfl,hi,HJ,BB⟩:=hrel;have e2:IntKind.i64.wrap ((i:Int)+1)=((i+1:Nat):Int):=đh _ (by omega);by_cases hin:i<al
   ·have ii:(i:Int)<al:=by omega
    obtain⟨x,hx⟩:=HGA.o i hin;obtain⟨y,hy⟩:=HGB.o i hin;obtain⟨ga,oa,xo,xc,hao,hga,hca,hxr⟩:=(HA.o wr BB.o).at i x hx;obtain⟨gb,ob,yo,yc,hbo,hgb,hcb,hyr⟩:=(HB.o wr BB.o).at i y hy;have HSM:=ħ (fun W (hW:Below wr.heap.size wr W)=>Zpf W x y xo yo xc yc (hxr.below hW) (hyr.below hW) (HRL.o x (đe hx)));have HXA:=ħ hx;have HYB:=ħ hy;have HAO:=ħ hao;have HBO:=ħ hbo;subst hao;subst hbo
    have r1:=fun(d:Nat) (os:Array Obj)=>Calls.regrown_of (d:=d) (os:=os) (HSM.o (grow (redrawn wr d) os) (below_regrown wr d os))
    have a0:=cell_regrown hca;have b0:=cell_regrown hcb;have HNX:=HNI.o i x y hx hy;obtain⟨q,hq⟩:∃ q,decide (x=y)=q:=⟨_,rfl⟩;rw[hq] at r1;have HQ:=ħ hq;have HNX:=ħ HNX;generalize x.length=xl at *;generalize y.length=yl at *;clear hca hcb hga hgb hx hy hxr hyr HSM hq
    go_upto_region 6 with(fail)
    refine wp_region_quiet_below (by kernel_rfl) (by kernel_rfl) ?_
    repeat (go_big_quiet_step (with_reducible (exact r1 _ _)))
    refine wpQuiet_nil ?_;intro _ hw';obtain⟨⟨dq,osq⟩,hw''⟩:=hw';subst hw'';have B3:=ħ (BB.o.trans ((below_regrown wr dq osq).mono BB.o.size));clear r1 a0 b0 BB;generalize grow (redrawn wr dq) osq=wd at *
    cases q with
    | true =>
     have hxy:x=y:=of_decide_eq_true HQ.o;have HEE:Hid (a[i]?=b[i]?):=ħ (by rw[HXA.o,HYB.o,hxy]);clear hxy
     go_wp2_with fail
     go_roundw
     case rel=>exact⟨i+1,by go_num,by omega,ħ (fun j hj=>by
      rcases đw j i with h | h
      ·exact HJ.o j h
      ·obtain rfl:j=i:=by omega
       exact HEE.o),B3⟩
     case measure=>simp only[intOf];omega
    | false =>
     have HD:=ħ (HNX.o (of_decide_eq_false HQ.o))
     go_wp2_with fail
     go_ret;exact⟨by rw[HD.o];rfl,B3.o⟩
   ·have ii:¬ (i:Int)<al:=by omega
    obtain rfl:al=i:=by omega
    have HD:=ħ (HEQ2.o HJ.o)
    go_wp2_with fail
    go_ret;exact⟨by rw[HD.o];rfl,BB.o⟩
 ·have hne:¬ (al:Int)=(bl:Int):=by omega
  have hneb:((al:Int)==(bl:Int))=false:=by simpa using hne
  have hnec:((al:Int) != (bl:Int))=true:=by simp[hne]
  have HD:=ħ (HNE.o hn)
  go_wp2_with fail
  go_ret;exact⟨by rw[HD.o];rfl,đc _ _⟩
end
section
open Go.RowKit Go.Sort Go.Maps
theorem Za9(q f:Int)(w:World) :
  Calls Tryz.prog 69 #[.int .i64 q,.int .i64 f] w fun e w'=>e = .returned (.agg #[.int .i64 q,.int .i64 0,.int .i64 f,.int .i64 (-1)])/\Below w.heap.size w w':=by
 have X1:Hid (Zae (w.alloc (.cells #[.int .i64 0,.int .i64 0,.int .i64 0,.int .i64 0] 39)) w.heap.size 39 [.int .i64 0,.int .i64 0,.int .i64 0,.int .i64 0]):=ħ (heap_alloc_new w _);have B1:=ħ ((đc w.heap.size w).alloc (đd _) (.cells #[.int .i64 0,.int .i64 0,.int .i64 0,.int .i64 0] 39))
 go_enter Tryz.func69,Tryz.ntmps69
 go_upto_region 1 with(fail)
 generalize w.alloc (.cells #[.int .i64 0,.int .i64 0,.int .i64 0,.int .i64 0] 39)=w1 at *
 go_wp2_with (refine Zaq rfl 39 (.tmp 4) (.tmp 7) rfl w.heap.size #[.int .i64 q,.int .i64 0,.int .i64 f,.int .i64 (-1)] (by rfl) (by rfl) 39 _ X1.o (Zsj _ _ _ _) rfl (by simp[Value.oneCell']) ?_;intro w9 s9 u9;have S9:=ħ s9;have U9:=ħ u9;clear s9 u9)
 exact bodyPost_ret (results_cell_row (p:=4) (by kernel_rfl) _ _ w.heap.size 39 #[.int .i64 q,.int .i64 0,.int .i64 f,.int .i64 (-1)] (0,0) _ rfl S9.o Tryz.underlying39 rfl (Zsj _ _ _ _)) rfl ⟨rfl,U9.o.below B1.o (đd _)⟩
def Zxy(a b r:Int):Mem:=⟨[⟨[120,46,97],a⟩,⟨[120,46,98],b⟩],[1],r⟩
theorem Ztz(a b r:Int)(w:World) :
  Calls Tryz.prog 133 #[.int .i64 a,.int .i64 b,.int .i64 r] w fun e w'=>(∃ B T,e = .returned (.agg #[.slice (some ⟨B,0,none⟩) 2 2,.slice (some ⟨T,0,none⟩) 1 1,.int .i64 r])/\Zae w' B 164 [.string ⟨#[120,46,97]⟩,.int .i64 a,.string ⟨#[120,46,98]⟩,.int .i64 b]/\Zae w' T 3 [.int .i64 1])/\Below w.heap.size w w':=by
 have X1:=Zae.new w 44 [.slice none 0 0,.slice none 0 0,.int .i64 0];have hb1:=(đc w.heap.size w).alloc (đd _) (.cells ([.slice none 0 0,.slice none 0 0,.int .i64 0]:List Value).toArray 44);generalize hw1:w.alloc (.cells ([.slice none 0 0,.slice none 0 0,.int .i64 0]:List Value).toArray 44)=w1 at *
 have hz1:w1.heap.size=w.heap.size+1:=by rw[<- hw1,đl]
 obtain⟨D3,T3,b3⟩:=Zcw w1 164 3 [.string ⟨#[120,46,97]⟩,.int .i64 a,.string ⟨#[120,46,98]⟩,.int .i64 b] [.int .i64 1];have X3:Hid (Zae ((w1.alloc (.cells #[.string ⟨#[120,46,97]⟩,.int .i64 a,.string ⟨#[120,46,98]⟩,.int .i64 b] 164)).alloc (.cells #[.int .i64 1] 3)) w.heap.size 44 [.slice none 0 0,.slice none 0 0,.int .i64 0]):=ħ (X1.step b3);have D3:Hid (Zae ((w1.alloc (.cells #[.string ⟨#[120,46,97]⟩,.int .i64 a,.string ⟨#[120,46,98]⟩,.int .i64 b] 164)).alloc (.cells #[.int .i64 1] 3)) w1.heap.size 164 [.string ⟨#[120,46,97]⟩,.int .i64 a,.string ⟨#[120,46,98]⟩,.int .i64 b]):=ħ D3;have T3:Hid (Zae ((w1.alloc (.cells #[.string ⟨#[120,46,97]⟩,.int .i64 a,.string ⟨#[120,46,98]⟩,.int .i64 b] 164)).alloc (.cells #[.int .i64 1] 3)) (w1.heap.size+1) 3 [.int .i64 1]):=ħ T3;have B3:Hid (Below w.heap.size w ((w1.alloc (.cells #[.string ⟨#[120,46,97]⟩,.int .i64 a,.string ⟨#[120,46,98]⟩,.int .i64 b] 164)).alloc (.cells #[.int .i64 1] 3))):=ħ (hb1.trans (b3.mono hb1.size));have HW1:=ħ hw1;have HNE:Hid (w1.heap.size≠w.heap.size/\w1.heap.size+1≠w.heap.size):=ħ (by omega);clear X1 b3 hb1 hw1 hz1
 go_enter Tryz.func133,Tryz.ntmps133
 go_upto_region 1 with(fail)
 rw[show w.alloc (.cells #[.slice none 0 0,.slice none 0 0,.int .i64 0] 44)=w1 from HW1.o]
 go_wp2_with (refine Zaq rfl 44 (.tmp 6) (.tmp 14) rfl w.heap.size #[.slice (some ⟨w1.heap.size,0,none⟩) 2 2,.slice (some ⟨w1.heap.size+1,0,none⟩) 1 1,.int .i64 r] (by rfl) (by rfl) 44 _ X3.o (Zha _ _ _) rfl (by simp[Value.oneCell']) ?_;intro w9 s9 u9;have S9:=ħ s9;have U9:=ħ u9;clear s9 u9)
 exact bodyPost_ret (results_cell_row (p:=6) (by kernel_rfl) _ _ w.heap.size 44 #[.slice (some ⟨w1.heap.size,0,none⟩) 2 2,.slice (some ⟨w1.heap.size+1,0,none⟩) 1 1,.int .i64 r] (0,0) _ rfl S9.o Tryz.underlying44 rfl (Zha _ _ _)) rfl ⟨⟨w1.heap.size,w1.heap.size+1,rfl,D3.o.upd U9.o HNE.o.1,T3.o.upd U9.o HNE.o.2⟩,U9.o.below B3.o (đd _)⟩
end
section
open Go.RowKit Go.Sort Go.Maps
def Z43:Prd:=.mk 0 [] [120,46,97] (-18) []
def Z4n:Prd:=.mk 1 [] [] 0 [.mk 0 [120,46,98] [] 1 [],.mk 0 [] [120,46,98] (-1) []]
def exC(us:List Use):Crw:=⟨[Z43,Z4n],[Zxy 20 1 (-1),Zxy 30 2 0,Zxy 17 1 (-1)],us⟩
def Zuu(W:World)(v:Value)(a b r:Int):Prop:=∃ B T,v = .agg #[.slice (some ⟨B,0,none⟩) 2 2,.slice (some ⟨T,0,none⟩) 1 1,.int .i64 r]/\Zae W B 164 [.string ⟨#[120,46,97]⟩,.int .i64 a,.string ⟨#[120,46,98]⟩,.int .i64 b]/\Zae W T 3 [.int .i64 1]
theorem Zuu.below{W W':World}{v:Value}{a b r:Int}(h:Zuu W v a b r)(hb:Below W.heap.size W W'):Zuu W' v a b r:=by
 obtain⟨B,T,h1,h2,h3⟩:=h;exact⟨B,T,h1,h2.step hb,h3.step hb⟩
def Zxz(W:World)(KB:Nat)(v:Value):Prop:=∃ G,v = .slice (some ⟨G,0,none⟩) 2 2/\Zae W G 54 [.int .i64 0,.string ⟨#[]⟩,.string ⟨#[120,46,97]⟩,.int .i64 (-18),.slice none 0 0,.int .i64 1,.string ⟨#[]⟩,.string ⟨#[]⟩,.int .i64 0,.slice (some ⟨KB,0,none⟩) 2 2]
theorem Zxz.below{W W':World}{KB:Nat}{v:Value}(h:Zxz W KB v)(hb:Below W.heap.size W W'):Zxz W' KB v:=by
 obtain⟨G,h1,h2⟩:=h;exact⟨G,h1,h2.step hb⟩
def Zj5(W:World)(v:Value):Prop:=∃ G,v = .slice (some ⟨G,0,none⟩) 3 3/\∃ B13 T13 B14 T14 B15 T15,Zae W G 44 [.slice (some ⟨B13,0,none⟩) 2 2,.slice (some ⟨T13,0,none⟩) 1 1,.int .i64 (-1),.slice (some ⟨B14,0,none⟩) 2 2,.slice (some ⟨T14,0,none⟩) 1 1,.int .i64 0,.slice (some ⟨B15,0,none⟩) 2 2,.slice (some ⟨T15,0,none⟩) 1 1,.int .i64 (-1)]/\Zae W B13 164 [.string ⟨#[120,46,97]⟩,.int .i64 20,.string ⟨#[120,46,98]⟩,.int .i64 1]/\Zae W T13 3 [.int .i64 1]/\Zae W B14 164 [.string ⟨#[120,46,97]⟩,.int .i64 30,.string ⟨#[120,46,98]⟩,.int .i64 2]/\Zae W T14 3 [.int .i64 1]/\Zae W B15 164 [.string ⟨#[120,46,97]⟩,.int .i64 17,.string ⟨#[120,46,98]⟩,.int .i64 1]/\Zae W T15 3 [.int .i64 1]
theorem Zj5.below{W W':World}{v:Value}(h:Zj5 W v)(hb:Below W.heap.size W W'):Zj5 W' v:=by
 obtain⟨G,h1,B13,T13,B14,T14,B15,T15,h2,h3,h4,h5,h6,h7,h8⟩:=h;exact⟨G,h1,B13,T13,B14,T14,B15,T15,h2.step hb,h3.step hb,h4.step hb,h5.step hb,h6.step hb,h7.step hb,h8.step hb⟩
theorem Z5d{W:World}{B:Nat}{a b:Int}(h:Zae W B 164 [.string ⟨#[120,46,97]⟩,.int .i64 a,.string ⟨#[120,46,98]⟩,.int .i64 b]):Zoq W (fun _=>True) [⟨[120,46,97],a⟩,⟨[120,46,98],b⟩] (some ⟨B,0,none⟩):=.inr ⟨B,0,rfl,trivial,h.lt,h.readsR⟩
theorem Zx0{W:World}{B T:Nat}{a b r:Int}(h:Zae W B 164 [.string ⟨#[120,46,97]⟩,.int .i64 a,.string ⟨#[120,46,98]⟩,.int .i64 b])(h2:Zae W T 3 [.int .i64 1]):Zur W (Zxy a b r) [.slice (some ⟨B,0,none⟩) 2 2,.slice (some ⟨T,0,none⟩) 1 1,.int .i64 r] :=
 ⟨some ⟨B,0,none⟩,2,some ⟨T,0,none⟩,1,rfl,Z5d h,.inr ⟨T,0,rfl,h2.lt,h2.readsR⟩⟩
theorem Zj5.mems{W:World}{v:Value}(h:Zj5 W v):∃ G,v = .slice (some ⟨G,0,none⟩) 3 3/\Zhr W [Zxy 20 1 (-1),Zxy 30 2 0,Zxy 17 1 (-1)] (some ⟨G,0,none⟩):=by
 obtain⟨G,h1,B13,T13,B14,T14,B15,T15,h2,h3,h4,h5,h6,h7,h8⟩:=h;refine⟨G,h1,.inr ⟨G,0,rfl,h2.lt,fun i m hm=>?_⟩⟩
 match i,hm with
 | 0,hm=>obtain rfl:=đa hm;exact⟨_,Zx0 h3 h4,fun j u hj=>by have:=(đg.1 hj).1;exact h2.cell (0+0*3+j) u (by match j,hj with | 0,hj=>exact hj | 1,hj=>exact hj | 2,hj=>exact hj)⟩
 | 1,hm=>obtain rfl:=đa hm;exact⟨_,Zx0 h5 h6,fun j u hj=>h2.cell (0+1*3+j) u (by match j,hj with | 0,hj=>exact hj | 1,hj=>exact hj | 2,hj=>exact hj)⟩
 | 2,hm=>obtain rfl:=đa hm;exact⟨_,Zx0 h7 h8,fun j u hj=>h2.cell (0+2*3+j) u (by match j,hj with | 0,hj=>exact hj | 1,hj=>exact hj | 2,hj=>exact hj)⟩
theorem Zxz.prds{W:World}{KB:Nat}{v:Value}(h:Zxz W KB v)(hk:Zae W KB 54 [.int .i64 0,.string ⟨#[120,46,98]⟩,.string ⟨#[]⟩,.int .i64 1,.slice none 0 0,.int .i64 0,.string ⟨#[]⟩,.string ⟨#[120,46,98]⟩,.int .i64 (-1),.slice none 0 0]):∃ G,v = .slice (some ⟨G,0,none⟩) 2 2/\Zfu W (fun _=>True) [Z43,Z4n] (some ⟨G,0,none⟩):=by
 obtain⟨G,h1,h2⟩:=h;refine⟨G,h1,.inr ⟨G,0,rfl,trivial,h2.lt,Zrc (v1:=[.int .i64 0,.string ⟨#[]⟩,.string ⟨#[120,46,97]⟩,.int .i64 (-18),.slice none 0 0]) (v2:=[.int .i64 1,.string ⟨#[]⟩,.string ⟨#[]⟩,.int .i64 0,.slice (some ⟨KB,0,none⟩) 2 2]) rfl h2 ?_ ?_⟩⟩
 ·exact Zhu W _ [] [120,46,97] (-18)
 ·unfold Z4n Zao
  exact⟨some ⟨KB,0,none⟩,2,rfl,.inr ⟨KB,0,rfl,trivial,hk.lt,Zrc (v1:=[.int .i64 0,.string ⟨#[120,46,98]⟩,.string ⟨#[]⟩,.int .i64 1,.slice none 0 0]) (v2:=[.int .i64 0,.string ⟨#[]⟩,.string ⟨#[120,46,98]⟩,.int .i64 (-1),.slice none 0 0]) rfl hk (Zhu W _ [120,46,98] [] 1) (Zhu W _ [] [120,46,98] (-1))⟩⟩
theorem Zae.neT{w:World}{b b' t t':Nat}{vs vs':List Value}(h:Zae w b t vs)(h':Zae w b' t' vs')(hn:t≠t'):b≠b':=by
 rintro rfl;unfold Zae at h h';rw[h] at h';simp at h';exact hn h'.2
theorem Zbf(v0 v1 v2:Value):(Tryz.prog.info? 26).map (·.size)=some #[v0,v1,v2].size:=by
 show _=some 3
 kernel_rfl
theorem Z4o(t:Array Value)(h:t.size=19):∃ f:Nat->Value,t=#[f 0,f 1,f 2,f 3,f 4,f 5,f 6,f 7,f 8,f 9,f 10,f 11,f 12,f 13,f 14,f 15,f 16,f 17,f 18]:=by
 obtain⟨l⟩:=t;have hl:l.length=19:=h
 have e:l=(List.range 19).map (fun i=>l.getD i undef):=by
  apply List.ext_getElem
  ·simp[hl]
  ·intro i h1 h2
   simp[List.getD,h1]
 exact⟨fun i=>l.getD i undef,congrArg List.toArray e⟩
def exF(KB nu uc:Nat)(uo:Option Addr)(i:Nat)(W:World)(v:Value):Prop:=match i with
 | 0=>v = .agg #[.int .i64 0,.string ⟨#[]⟩,.string ⟨#[120,46,97]⟩,.int .i64 (-18),.slice none 0 0]
 | 1=>v = .agg #[.int .i64 1,.string ⟨#[]⟩,.string ⟨#[]⟩,.int .i64 0,.slice (some ⟨KB,0,none⟩) 2 2]
 | 2=>Zxz W KB v
 | 3=>Zuu W v 20 1 (-1)
 | 4=>Zuu W v 30 2 0
 | 5=>Zuu W v 17 1 (-1)
 | 6=>Zj5 W v
 | 7=>v = .slice uo nu uc
 | 8=>∃ q m,v = .agg #[q,m,.slice uo nu uc]/\Zxz W KB q/\Zj5 W m
 | _=>True
theorem Z0y(KB nu uc:Nat)(uo:Option Addr):∀ i w w' v,exF KB nu uc uo i w v->Below w.heap.size w w'->exF KB nu uc uo i w' v:=by
 intro i w w' v h hb
 match i with
 | 0=>exact h
 | 1=>exact h
 | 2=>exact Zxz.below h hb
 | 3=>exact Zuu.below h hb
 | 4=>exact Zuu.below h hb
 | 5=>exact Zuu.below h hb
 | 6=>exact Zj5.below h hb
 | 7=>exact h
 | 8=>obtain⟨q,m,h1,h2,h3⟩:=h;exact⟨q,m,h1,Zxz.below h2 hb,Zj5.below h3 hb⟩
 | k+9=>trivial
theorem Zdc(w:World)(us:List Use)(uo:Option Addr)(uc:Nat)(hu:Zan Zcg w uo us)(hcap:us.length<=uc) :
  Calls Tryz.prog 70 #[.slice uo us.length uc] w fun e w'=>(∃ cs,e = .returned (.agg cs.toArray)/\Zhs w' (exC us) cs)/\Below w.heap.size w w':=by
 have HUW:=ħ (fun W (hW:Below w.heap.size w W)=>hu.below hW);have HCAP:=ħ hcap;have X1:=Zae.new w 26 [.slice none 0 0,.slice none 0 0,.slice none 0 0];have hb1:=(đc w.heap.size w).alloc (đd _) (.cells ([.slice none 0 0,.slice none 0 0,.slice none 0 0]:List Value).toArray 26);generalize hw1:w.alloc (.cells ([.slice none 0 0,.slice none 0 0,.slice none 0 0]:List Value).toArray 26)=w1 at *
 have hz1:w1.heap.size=w.heap.size+1:=by rw[<- hw1,đl]
 have A1:=Zae.new w1 54 [.int .i64 0,.string ⟨#[]⟩,.string ⟨#[120,46,97]⟩,.int .i64 (-18),.slice none 0 0];have hb2:=(đc w1.heap.size w1).alloc (đd _) (.cells ([.int .i64 0,.string ⟨#[]⟩,.string ⟨#[120,46,97]⟩,.int .i64 (-18),.slice none 0 0]:List Value).toArray 54);replace X1:=X1.step hb2;have hz2:(w1.alloc (.cells ([.int .i64 0,.string ⟨#[]⟩,.string ⟨#[120,46,97]⟩,.int .i64 (-18),.slice none 0 0]:List Value).toArray 54)).heap.size=w1.heap.size+1:=đl _ _;have HW1:=ħ hw1;have HME:=ħ Ztz;clear hu hcap hw1;generalize hnu:us.length=nu at *;have HNU:=ħ hnu;clear hnu
 go_enter Tryz.func70,Tryz.ntmps70
 go_upto_region 1 with(fail)
 rw[show w.alloc (.cells #[.slice none 0 0,.slice none 0 0,.slice none 0 0] 26)=w1 from HW1.o]
 go_upto_region 2 with(fail)
 generalize w1.alloc (.cells #[.int .i64 0,.string ⟨#[]⟩,.string ⟨#[120,46,97]⟩,.int .i64 (-18),.slice none 0 0] 54)=w2 at *;rw[hz1] at A1;obtain⟨K3,P3,b3⟩:=Zcw w2 54 54 [.int .i64 0,.string ⟨#[120,46,98]⟩,.string ⟨#[]⟩,.int .i64 1,.slice none 0 0,.int .i64 0,.string ⟨#[]⟩,.string ⟨#[120,46,98]⟩,.int .i64 (-1),.slice none 0 0] [.int .i64 1,.string ⟨#[]⟩,.string ⟨#[]⟩,.int .i64 0,.slice (some ⟨w2.heap.size,0,none⟩) 2 2];have X3:=ħ (X1.step b3);have A3:=ħ (A1.step b3);have K3:=ħ K3;have P3:=ħ P3;have B3:=ħ (hb1.trans ((hb2.trans (b3.mono hb2.size)).mono hb1.size));clear X1 A1 hb1 hb2 hz1 hz2 b3
 go_upto_region 3 with(fail)
 generalize (w2.alloc (.cells #[.int .i64 0,.string ⟨#[120,46,98]⟩,.string ⟨#[]⟩,.int .i64 1,.slice none 0 0,.int .i64 0,.string ⟨#[]⟩,.string ⟨#[120,46,98]⟩,.int .i64 (-1),.slice none 0 0] 54)).alloc (.cells #[.int .i64 1,.string ⟨#[]⟩,.string ⟨#[]⟩,.int .i64 0,.slice (some ⟨w2.heap.size,0,none⟩) 2 2] 54)=w4 at *;obtain⟨KB,hKB⟩:∃ y,w2.heap.size=y:=⟨_,rfl⟩;rw[hKB] at K3 P3 ⊢;obtain⟨AB,hAB⟩:∃ y,w.heap.size+1=y:=⟨_,rfl⟩;rw[hAB] at A3 ⊢;obtain⟨BB,hBB⟩:∃ y,KB+1=y:=⟨_,rfl⟩;rw[hBB] at P3 ⊢;clear hKB hAB hBB;have XA:=A3;have XB:=P3;refine Za2 9 0 (exF KB nu uc uo) (by kernel_rfl) rfl (Z0y KB nu uc uo) (Zbr (by kernel_rfl)) (Zeh (by kernel_rfl)) (Zax (by kernel_rfl)) (Zck (by kernel_rfl)) ?hs ?he
 case hs =>
  intro i o hin hi listed a' w' H hsn hl2;have hl3:=Zap hl2;have hb:=ħ H.below;have s0:=hsn 0 (Zak (by kernel_rfl));have s3:=hsn 3 (Zak (by kernel_rfl));have s4:=hsn 4 (Zak (by kernel_rfl));have hdn:=H.done;have hdf:=H.defers;have hts:=H.tsize;clear hl2 H hsn;obtain⟨t',df⟩:=a';obtain⟨f',rfl⟩:=Z4o t' hts;have hdf':df=[]:=hdf;subst hdf';have gs0:f' 0 = .slice uo nu uc:=s0;have gs3:f' 3 = .pointer (some ⟨AB,0,none⟩):=s3;have gs4:f' 4 = .pointer (some ⟨BB,0,none⟩):=s4;clear s0 s3 s4;clear hdf hts;have hcases:i=0\/i=1\/i=2\/i=3\/i=4\/i=5\/i=6\/i=7\/i=8:=Zjx i hin;clear hin;rcases hcases with rfl | rfl | rfl | rfl | rfl | rfl | rfl | rfl | rfl
  ·obtain rfl:=đa hi
   clear hdn hl3;rw[gs3];clear gs0 gs3 gs4;have X2:=XA.o.step hb.o;have p0:=X2.cell 0 _ rfl;have p1:=X2.cell 1 _ rfl;have p2:=X2.cell 2 _ rfl;have p3:=X2.cell 3 _ rfl;have p4:=X2.cell 4 _ rfl;clear X2;refine Zab rfl ?_
   go_wp2_with fail
   exact Zaa ⟨_,rfl,đc _ _,rfl⟩
  ·obtain rfl:=đa hi
   clear hdn hl3;rw[gs4];clear gs0 gs3 gs4;have X2:=XB.o.step hb.o;have p0:=X2.cell 0 _ rfl;have p1:=X2.cell 1 _ rfl;have p2:=X2.cell 2 _ rfl;have p3:=X2.cell 3 _ rfl;have p4:=X2.cell 4 _ rfl;clear X2;refine Zab rfl ?_
   go_wp2_with fail
   exact Zaa ⟨_,rfl,đc _ _,rfl⟩
  ·obtain rfl:=đa hi
   have dv0:f' 10 = .agg #[.int .i64 0,.string ⟨#[]⟩,.string ⟨#[120,46,97]⟩,.int .i64 (-18),.slice none 0 0]:=hdn 0 _ 10 rfl (hl3 0 (by rfl)) rfl;have dv1:f' 11 = .agg #[.int .i64 1,.string ⟨#[]⟩,.string ⟨#[]⟩,.int .i64 0,.slice (some ⟨KB,0,none⟩) 2 2]:=hdn 1 _ 11 rfl (hl3 1 (by rfl)) rfl;clear hdn hl3;rw[dv0,dv1];clear dv0 dv1 gs0 gs3 gs4;have BX:=ħ ((đc w'.heap.size w').alloc (đd _) (.cells #[.int .i64 0,.string ⟨#[]⟩,.string ⟨#[120,46,97]⟩,.int .i64 (-18),.slice none 0 0,.int .i64 1,.string ⟨#[]⟩,.string ⟨#[]⟩,.int .i64 0,.slice (some ⟨KB,0,none⟩) 2 2] 54));have HV:Hid (Zae (w'.alloc (.cells #[.int .i64 0,.string ⟨#[]⟩,.string ⟨#[120,46,97]⟩,.int .i64 (-18),.slice none 0 0,.int .i64 1,.string ⟨#[]⟩,.string ⟨#[]⟩,.int .i64 0,.slice (some ⟨KB,0,none⟩) 2 2] 54)) w'.heap.size 54 [.int .i64 0,.string ⟨#[]⟩,.string ⟨#[120,46,97]⟩,.int .i64 (-18),.slice none 0 0,.int .i64 1,.string ⟨#[]⟩,.string ⟨#[]⟩,.int .i64 0,.slice (some ⟨KB,0,none⟩) 2 2]):=ħ (heap_alloc_new _ _);refine Zab rfl ?_
   go_wp2_with fail
   exact Zaa ⟨_,rfl,BX.o,w'.heap.size,rfl,HV.o⟩
  ·obtain rfl:=đa hi
   clear hdn hl3;clear gs0 gs3 gs4;refine Zab rfl ?_
   go_wp2_with fail
   refine(HME.o 20 1 (-1) w').mono ?_;rintro e w4 ⟨⟨Bb,Tb,rfl,hB,hT⟩,b4⟩;have HM4:Hid (Zuu w4 (.agg #[.slice (some ⟨Bb,0,none⟩) 2 2,.slice (some ⟨Tb,0,none⟩) 1 1,.int .i64 (-1)]) 20 1 (-1)):=ħ ⟨Bb,Tb,rfl,hB,hT⟩;have HB4:=ħ b4;clear b4 hB hT
   go_wp2_with fail
   exact Zaa ⟨_,rfl,HB4.o,HM4.o⟩
  ·obtain rfl:=đa hi
   clear hdn hl3;clear gs0 gs3 gs4;refine Zab rfl ?_
   go_wp2_with fail
   refine(HME.o 30 2 0 w').mono ?_;rintro e w4 ⟨⟨Bb,Tb,rfl,hB,hT⟩,b4⟩;have HM4:Hid (Zuu w4 (.agg #[.slice (some ⟨Bb,0,none⟩) 2 2,.slice (some ⟨Tb,0,none⟩) 1 1,.int .i64 0]) 30 2 0):=ħ ⟨Bb,Tb,rfl,hB,hT⟩;have HB4:=ħ b4;clear b4 hB hT
   go_wp2_with fail
   exact Zaa ⟨_,rfl,HB4.o,HM4.o⟩
  ·obtain rfl:=đa hi
   clear hdn hl3;clear gs0 gs3 gs4;refine Zab rfl ?_
   go_wp2_with fail
   refine(HME.o 17 1 (-1) w').mono ?_;rintro e w4 ⟨⟨Bb,Tb,rfl,hB,hT⟩,b4⟩;have HM4:Hid (Zuu w4 (.agg #[.slice (some ⟨Bb,0,none⟩) 2 2,.slice (some ⟨Tb,0,none⟩) 1 1,.int .i64 (-1)]) 17 1 (-1)):=ħ ⟨Bb,Tb,rfl,hB,hT⟩;have HB4:=ħ b4;clear b4 hB hT
   go_wp2_with fail
   exact Zaa ⟨_,rfl,HB4.o,HM4.o⟩
  ·obtain rfl:=đa hi
   have dv3:exF KB nu uc uo 3 w' (f' 13):=hdn 3 _ 13 rfl (hl3 3 (by rfl)) rfl;obtain⟨B13,T13,dv3,hB13,hT13⟩:=dv3;have dv4:exF KB nu uc uo 4 w' (f' 14):=hdn 4 _ 14 rfl (hl3 4 (by rfl)) rfl;obtain⟨B14,T14,dv4,hB14,hT14⟩:=dv4;have dv5:exF KB nu uc uo 5 w' (f' 15):=hdn 5 _ 15 rfl (hl3 5 (by rfl)) rfl;obtain⟨B15,T15,dv5,hB15,hT15⟩:=dv5;clear hdn hl3;rw[dv3,dv4,dv5];clear dv3 dv4 dv5 gs0 gs3 gs4;have HH13:=ħ (And.intro hB13 hT13);have HH14:=ħ (And.intro hB14 hT14);have HH15:=ħ (And.intro hB15 hT15);clear hB13 hT13 hB14 hT14 hB15 hT15;have BX:=ħ ((đc w'.heap.size w').alloc (đd _) (.cells #[.slice (some ⟨B13,0,none⟩) 2 2,.slice (some ⟨T13,0,none⟩) 1 1,.int .i64 (-1),.slice (some ⟨B14,0,none⟩) 2 2,.slice (some ⟨T14,0,none⟩) 1 1,.int .i64 0,.slice (some ⟨B15,0,none⟩) 2 2,.slice (some ⟨T15,0,none⟩) 1 1,.int .i64 (-1)] 44));have HV:Hid (Zae (w'.alloc (.cells #[.slice (some ⟨B13,0,none⟩) 2 2,.slice (some ⟨T13,0,none⟩) 1 1,.int .i64 (-1),.slice (some ⟨B14,0,none⟩) 2 2,.slice (some ⟨T14,0,none⟩) 1 1,.int .i64 0,.slice (some ⟨B15,0,none⟩) 2 2,.slice (some ⟨T15,0,none⟩) 1 1,.int .i64 (-1)] 44)) w'.heap.size 44 [.slice (some ⟨B13,0,none⟩) 2 2,.slice (some ⟨T13,0,none⟩) 1 1,.int .i64 (-1),.slice (some ⟨B14,0,none⟩) 2 2,.slice (some ⟨T14,0,none⟩) 1 1,.int .i64 0,.slice (some ⟨B15,0,none⟩) 2 2,.slice (some ⟨T15,0,none⟩) 1 1,.int .i64 (-1)]):=ħ (heap_alloc_new _ _);refine Zab rfl ?_
   go_wp2_with fail
   exact Zaa ⟨_,rfl,BX.o,w'.heap.size,rfl,B13,T13,B14,T14,B15,T15,HV.o,HH13.o.1.step BX.o,HH13.o.2.step BX.o,HH14.o.1.step BX.o,HH14.o.2.step BX.o,HH15.o.1.step BX.o,HH15.o.2.step BX.o⟩
  ·obtain rfl:=đa hi
   clear hdn hl3;rw[gs0];clear gs0 gs3 gs4;refine Zab rfl ?_
   go_wp2_with fail
   exact Zaa ⟨_,rfl,đc _ _,rfl⟩
  ·obtain rfl:=đa hi
   have dv2:exF KB nu uc uo 2 w' (f' 12):=hdn 2 _ 12 rfl (hl3 2 (by rfl)) rfl;obtain⟨GQ,dv2,hGQ⟩:=dv2;have dv6:exF KB nu uc uo 6 w' (f' 16):=hdn 6 _ 16 rfl (hl3 6 (by rfl)) rfl;obtain⟨GM,dv6,hGM⟩:=dv6;have dv7:f' 17 = .slice uo nu uc:=hdn 7 _ 17 rfl (hl3 7 (by rfl)) rfl;clear hdn hl3;rw[dv2,dv6,dv7];clear dv2 dv6 dv7 gs0 gs3 gs4;have HQ:=ħ hGQ;have HM:=ħ hGM;clear hGQ hGM;refine Zab rfl ?_
   go_wp2_with fail
   exact Zaa ⟨_,rfl,đc _ _,_,_,rfl,⟨GQ,rfl,HQ.o⟩,GM,rfl,HM.o⟩
 case he =>
  intro listed a' w4 H hsn hall;have hd8:exF KB nu uc uo 8 w4 (a'.tmps.getD 18 undef):=H.done 8 _ 18 rfl (hall 8 (by decide)) rfl;have hb4:=ħ H.below;have hact:=H.actN hsn [10,11,12,13,14,15,16,17,18] (Zej (by kernel_rfl));clear H hall hsn;simp only[List.foldl_cons,List.foldl_nil] at hact;generalize a'.tmps.getD 10 undef=z10 at *;generalize a'.tmps.getD 11 undef=z11 at *;generalize a'.tmps.getD 12 undef=z12 at *;generalize a'.tmps.getD 13 undef=z13 at *;generalize a'.tmps.getD 14 undef=z14 at *;generalize a'.tmps.getD 15 undef=z15 at *;generalize a'.tmps.getD 16 undef=z16 at *;generalize a'.tmps.getD 17 undef=z17 at *;generalize a'.tmps.getD 18 undef=z18 at *;subst hact;obtain⟨q8,m8,e8,hq8,hm8⟩:=hd8;subst e8;simp only[Act.put,List.setIfInBounds_toArray,List.set_cons_succ,List.set_cons_zero];have HQ:=ħ hq8;have HM:=ħ hm8;have X4:=ħ (X3.o.step hb4.o);have B4:=ħ (B3.o.trans (hb4.o.mono B3.o.size));have K4:=ħ (K3.o.step hb4.o);clear hq8 hm8 hb4 X3 B3 A3 P3 XA XB K3;obtain⟨GQ,eQ,hQ⟩:=HQ.o;obtain⟨GM,eM,B13,T13,B14,T14,B15,T15,hM,k13,t13,k14,t14,k15,t15⟩:=HM.o;have F1:=ħ (And.intro hQ hM);have F2:=ħ (And.intro k13 (And.intro t13 (And.intro k14 (And.intro t14 (And.intro k15 t15)))));clear hQ hM k13 t13 k14 t14 k15 t15 HQ HM;subst eQ eM;refine Zas (Zab rfl ?_)
  go_wp2_with (refine Zaq rfl 26 (.tmp 2) (.tmp 18) rfl w.heap.size #[.slice (some ⟨GQ,0,none⟩) 2 2,.slice (some ⟨GM,0,none⟩) 3 3,.slice uo nu uc] (by rfl) (by rfl) 26 _ X4.o (Zbf _ _ _) rfl (by simp[Value.oneCell']) ?_;intro w9 s9 u9;have S9:=ħ s9;have U9:=ħ u9;clear s9 u9)
  have s9:=S9.o;have u9:=U9.o;have HQ9:Zxz w9 KB (.slice (some ⟨GQ,0,none⟩) 2 2):=⟨GQ,rfl,F1.o.1.upd u9 (F1.o.1.neT X4.o (by decide))⟩;have HM9:Zj5 w9 (.slice (some ⟨GM,0,none⟩) 3 3):=⟨GM,rfl,B13,T13,B14,T14,B15,T15,F1.o.2.upd u9 (F1.o.2.neT X4.o (by decide)),F2.o.1.upd u9 (F2.o.1.neT X4.o (by decide)),F2.o.2.1.upd u9 (F2.o.2.1.neT X4.o (by decide)),F2.o.2.2.1.upd u9 (F2.o.2.2.1.neT X4.o (by decide)),F2.o.2.2.2.1.upd u9 (F2.o.2.2.2.1.neT X4.o (by decide)),F2.o.2.2.2.2.1.upd u9 (F2.o.2.2.2.2.1.neT X4.o (by decide)),F2.o.2.2.2.2.2.upd u9 (F2.o.2.2.2.2.2.neT X4.o (by decide))⟩;have HK9:=K4.o.upd u9 (K4.o.neT X4.o (by decide));have HB9:=ħ (u9.below B4.o (đd _))
  have HCC:Hid (Zhs w9 (exC us) [.slice (some ⟨GQ,0,none⟩) 2 2,.slice (some ⟨GM,0,none⟩) 3 3,.slice uo nu uc]):=by
   obtain⟨g1,e1,h1⟩:=Zxz.prds HQ9 HK9;obtain⟨g2,e2,h2⟩:=Zj5.mems HM9
   obtain⟨rfl⟩:g1=GQ:=by simpa using e1.symm
   obtain⟨rfl⟩:g2=GM:=by simpa using e2.symm
   refine ħ ⟨_,2,_,3,uo,uc,?_,h1,h2,HUW.o _ HB9.o,by rw[exC,show us.length=nu from HNU.o];exact HCAP.o⟩;rw[<- HNU.o];rfl
  clear HQ9 HM9 HK9 u9;refine Zaa (Zbm ?_)
  go_wp2_with fail
  exact bodyPost_ret (results_cell_row (p:=2) (by kernel_rfl) _ _ w.heap.size 26 #[.slice (some ⟨GQ,0,none⟩) 2 2,.slice (some ⟨GM,0,none⟩) 3 3,.slice uo nu uc] (0,0) _ rfl S9.o Tryz.underlying26 rfl (Zbf _ _ _)) rfl ⟨⟨_,rfl,HCC.o⟩,HB9.o⟩
end
end Go.Proofs.YtbcgocpihobjnaaGreatDoor
