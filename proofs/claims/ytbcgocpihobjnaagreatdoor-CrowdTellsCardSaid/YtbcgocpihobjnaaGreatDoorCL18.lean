import Derived.OwnWalkIn
import Derived.TacticsInMore
import Derived.LoopNIn
import Derived.LoopIn
import Derived.Test.YtbcgocpihobjnaaGreatDoorCL17
set_option linter.all false
set_option maxHeartbeats 8000000
set_option maxRecDepth 100000
namespace Go.Proofs.YtbcgocpihobjnaaGreatDoor
open Go.RowKit Go.Shelf Go.Sort Go.Maps
attribute [local go_sem] Oper.semAt_some
section
variable {P:Program} {ops:Array Oper} {md:Region.Mode}
def DI(R:Act->World->Prop)(e:Exit)(a:Act)(w:World):Prop:=e = .normal/\R a w
theorem TQ(R:Act->World->Prop):¬ LetsOut (DI R):=fun ⟨a,w,h,_⟩=>by cases h
theorem Ztb{l n:Nat}{o:Oper}{a:Act}{w:World}{K:Act->World->Prop}{R:Act->World->Prop}{Q:Exit->Act->World->Prop}(hd:∀ c,o.op≠Op.defer c)(h:o.wp P a w K (DI R)):o.wpIn (Fence.wide.inRound l) n P a w K Q:=by
 refine⟨fun _ _=>trivial,?_⟩;rw[Fence.inRound_round,Oper.semAt_some l _ _ hd];unfold Oper.wp at h
 have nK:¬ ((Fence.wide.inRound l).depth.isSome=true):=fun h=>by cases h
 generalize (execOp a.eval o).run P w=r at *
 cases r with
 | ok x w' =>
  cases x<;>simp only[Oper.upon] at h<;>simp only[Oper.uponIn]
  case value=>exact h
  case skip=>exact h
  case defer=>exact h
  case enter f args=>exact⟨fun h=>absurd h nK,CallsIn.inRound l (callsIn_wide.2 (h.mono fun e w'' he=>by
   cases e with
   | returned v=>exact he
   | panicked c=>exact absurd he.1 (by intro h;cases h)
   | outgrown=>exact absurd he (TQ R)))⟩
  case row s args=>exact⟨fun h=>absurd h nK,fun c cs _=>by
   obtain⟨v,w',r,s⟩:=h c cs
   exact⟨v,w',r,stepsIn_wide.2 s⟩⟩
 | halt x w' =>
  cases x<;>simp only[Oper.upon] at h;exact absurd h.1 (by intro h;cases h)
theorem DJ{l n:Nat}{R:Act->World->Prop}{Q:Exit->Act->World->Prop}(hR:∀ a w,R a w->Q .normal a w):∀ (os:List Oper) (hd:∀ o∈os,∀ c,o.op≠Op.defer c) (a:Act) (w:World),
  wpList P ops (DI R) os a w->wpListIn (Fence.wide.inRound l) n P ops Q os a w
 | [],_,a,w,h=>hR _ _ h.2
 | o::os,hd,a,w,h=>by
  unfold wpList at h;unfold wpListIn;split
  ·rename_i hw
   rw[if_pos hw] at h;rcases h with h | h
   ·exact Oper.wpIn_mono (fun a w h=>DJ hR os (fun o' nT=>hd o' (List.mem_cons_of_mem _ nT)) a w h) (Ztb (hd o (List.mem_cons_self ..)) h)
   ·exact absurd h.2 (TQ R)
  ·rename_i hw
   rw[if_neg hw] at h;exact⟨fun _ _=>trivial,DJ hR os (fun o' nT=>hd o' (List.mem_cons_of_mem _ nT)) _ w h⟩
end
theorem OwnK.isCells{w:World}{B k n cap:Nat}{xs:List Value}{g off:Nat}(h:OwnK w B k n cap xs (some ⟨g,off,none⟩))(hn:0<n)(hk:0<k):∃ o,w.heap[g]?=some o/\o.isCells=true:=by
 cases h with
 | «at» g off h h1 h2 h3 =>
  have hr:=h.room 0 (Nat.mul_pos (by omega) hk);unfold World.cell? at hr
  cases hg:w.heap[g]? with
  | none=>simp[hg] at hr
  | some o =>
   refine⟨o,rfl,?_⟩;cases o<;>simp[hg] at hr<;>rfl
def TR:Value:=.agg #[.string ⟨#[]⟩,.string ⟨#[]⟩,.int .i64 0]
theorem Zzn:(Tryz.prog.info? 121).map (fun i=>(i.zero,i.size,i.bytes))=some (some TR,3,40):=by kernel_rfl
theorem TS(k:Ky):∀ u∈kyC k,u.oneCell'=true:=by
 intro u hu;simp only[kyC,List.mem_cons,List.not_mem_nil,or_false] at hu;rcases hu with rfl | rfl | rfl<;>rfl
def ApK(w0:World)(ss:List Ky)(W:World):Prop :=
 ∃ ao cap,aC W w0.heap.size 118 [.slice ao ss.length cap]/\OwnK W (w0.heap.size+1) 3 ss.length cap (ss.flatMap kyC) ao/\RowKit.Below w0.heap.size w0 W/\(ao=none\/0<ss.length)
theorem ApK.own(w0:World)(B:Nat)(hB:w0.heap.size<=B):OwnFrom B (ApK w0):=fun s W W' row ⟨ao,cap,h1,h2,h3,h4⟩ hg hr=>by
 have cT:∀ (k:Nat) (o:Obj),W.heap[k]?=some o->o.isCells=true->some k≠row:=fun k o hk hc e=>by
  obtain⟨_,o',ho,Bt⟩:=hr k e.symm;rw[hk] at ho;cases ho;rw[hc] at Bt;cases Bt
 refine⟨ao,cap,h1.grownBy hg (fun e=>cT _ _ h1 rfl e.symm),h2.grown hg ?_,h3.grown hg h3.size (fun k e=>dQ hB (hr k e).1),h4⟩;rcases h4 with rfl | h4
 ·exact .inr rfl
 ·cases ao with
  | none=>exact .inr rfl
  | some a =>
   left
   obtain⟨g,off,si⟩:=a
   cases h2 with
   | «at» g off h _ _ _ =>
    obtain⟨o,ho,hc⟩:=OwnK.isCells (.at g off h ‹_› ‹_› ‹_›) h4 (by omega);exact cT g o ho hc
def ApX(w0:World)(lb:Array Value)(x:Ky)(a:Act)(W:World):Prop :=
 ∃ X,a={ tmps:=#[.slice none 0 0,.func (.func 183) #[] lb,.pointer (some ⟨w0.heap.size,0,none⟩),undef,.slice none 0 0,.pointer (some ⟨X,0,none⟩),.func (.func 183) #[] lb,.agg (kyC x).toArray,undef,undef,undef,undef,undef],defers:=[] }/\aC W X 121 (kyC x)
theorem ApX.own(w0:World)(lb:Array Value)(x:Ky)(a:Act)(B:Nat):OwnFrom B (fun(_:Unit) W=>ApX w0 lb x a W):=fun s W W' row ⟨X,h1,h2⟩ hg hr=>by
 refine⟨X,h1,h2.grownBy hg (fun e=>?_)⟩;obtain⟨_,o',ho,Bt⟩:=hr X e;have Pn:W.heap[X]?=some (.cells (kyC x).toArray 121 (0,0)):=h2;rw[Pn] at ho;cases ho;cases Bt
theorem Zn8{W W':World}(h:RowKit.Below W.heap.size W W'):KeepsWalks W W':=⟨h.size,fun k o hk _=>(h.block k (lI.1 hk).1).trans hk⟩
theorem Zn9{W W':World}(B:Nat)(h:RowKit.Below W.heap.size W W'):KeepsFrom B W W':=⟨h.size,fun k o _ hk _=>(h.block k (lI.1 hk).1).trans hk⟩
theorem Z11(Bm b:Nat)(S0:List Ky)(hS0:∀ k∈S0,KyOk k)(aQ:S0.length<=1000000)(w:World)(hBm:Bm<w.heap.size)(hm:w.cell? ⟨Bm,0,none⟩=some (.map (some b)))(h:lX w b S0) :
  CallsIn Fence.wide 6 Tryz.prog 213 #[.slice none 0 0,.func (.func 183) #[] #[.pointer (some ⟨Bm,0,none⟩)]] w fun e w' =>
   ∃ (ao:Option Addr) (cap:Nat) (ss:List Ky),e = .returned (.slice ao ss.length cap)/\(ss.Nodup/\∀ x,x∈ss↔x∈S0)/\OwnK w' w.heap.size 3 ss.length cap (ss.flatMap kyC) ao/\RowKit.Below w.heap.size w w':=by
 have h1:(1:Nat)<=6:=by omega
 have uN:Fence.wide.round=none:=rfl;have nL:RowKit.Below w.heap.size w (w.alloc (.cells #[.slice none 0 0] 118)):=(aG _ w).alloc (aO _) _;have Po:=I nL;have bQ:=I (h.step nL);have rf:=I ((nL.cell (p:=⟨Bm,0,none⟩) hBm).trans hm);have i6:=hnw w 118 [.slice none 0 0];have mA:Hid ((w.alloc (.cells #[.slice none 0 0] 118)).heap.size=w.heap.size+1):=I (by simp);clear nL h hm;refine callsIn_of_wp_marks Tryz.func213 rfl trivial ?_ uN;simp only[Tryz.ntmps213,List.size_toArray,List.length_cons,List.length_nil,Nat.reduceAdd,Nat.reduceSub,Array.replicate_succ,Array.replicate_zero,List.push_toArray,List.append_toArray,List.nil_append,List.cons_append]
 gi_wp2_with fail
 generalize w.alloc (.cells #[.slice none 0 0] 118)=w4 at *
 refine wpIn_rangeFunc_ownH uN h1 (gf:=183) (lb:=#[.pointer (some ⟨Bm,0,none⟩)]) rfl trivial (enters_of Tryz.func183 (by kernel_rfl) rfl)
  (Zp2 Fence.wide (6-1) trivial uN (by omega) Bm b S0 hS0 w4 (by have:=Po.o.size;omega) rf.o bQ.o) KeepsWalks.trans ?kb (aG _ _) (fun _=>rfl)
  (ApK w) (fun _ _ _=>False) ?own (fun _ _ _ _ _ hs _ _=>hs) ?init (ApX w #[.pointer (some ⟨Bm,0,none⟩)]) ?ownx ?assign ?body ?done ?s
 case own=>exact ApK.own w _ Po.o.size
 case ownx=>exact fun x a'=>ApX.own w _ x a' _
 case init=>exact⟨none,0,i6.o,.nil rfl rfl rfl,Po.o,.inl rfl⟩
 case kb=>exact fun W l o o' _ hl hc hw=>KeepsWalks.putObj _ hl hw
 case assign =>
  intro l pre x W K hI hK;have wB:=I hK;have HI:=I hI;clear hK hI;unfold kyC
  gi_wp2
  have bk:=(aG W.heap.size W).alloc (aO _) (.cells (kyC x).toArray 121);refine wB.o _ _ (Zn9 _ bk) (Zn8 bk) ?_ ⟨W.heap.size,rfl,heap_alloc_new W _⟩;exact ApK.own w _ Po.o.size _ _ _ none HI.o (World.grownBy_alloc W _ none) (fun r e=>by cases e)
 case body =>
  rintro l pre x a' W hl hr hI ⟨X,rfl,hX⟩ hN;obtain⟨ao,cap,i1,i2,i3,i4⟩:=hI;refine wpIn_block ?_;refine wpIn_region_lit ?_
  refine DJ (R:=fun _ W'=>KeepsFrom w4.heap.size W W'/\KeepsWalks W W'/\ApK w (pre++[x]) W') (fun a' W' h=>h) _ (fun o ho c e=>by
   simp only[List.mem_cons,List.not_mem_nil,or_false] at ho
   rcases ho with rfl | rfl | rfl | rfl | rfl<;>cases e) _ _ ?_
  have I1:=I i1;have I2:=I i2;have I3:=I i3;have I4:=I i4;have HX:=I hX;have HN:=I hN;have c0:=i1.cell 0 _ rfl;have f0:=i1.warm 0;obtain⟨x0,x1,x2⟩:=hX.c3;have bk:=(aG W.heap.size W).alloc (aO _) (.cells (kyC x).toArray 121);clear i1 i2 i3 i4 hX hN;obtain⟨n,hn⟩:=exq (pre.length);rw[hn] at c0 I1 I2 HN;have bK:=I hn;clear hn
  go_wp2_with (at_builtin;refine jM 118 121 TR 3 40 Tryz.underlying118 Zzn rfl (by omega) (by omega) W (w.heap.size+1) rfl (.tmp 8) (.tmp 10) rfl ao cap n (pre.flatMap kyC) ?q1 I2.o ?q5 1 1 (kyC x).toArray 121 ?q2 rfl (by omega) ?q3 ?q4 ?_;(case q1=>rfl);(case q5=>have:=I1.o.lt;omega);(case q2=>rfl);(case q3=>exact TS x);(case q4=>have:=HN.o;omega);intro g5 off5 c5 wa o8 aX b8 bW;have O8:=I o8;have G8:=I aX;have B8:=I b8;have OR8:=I bW;have I9:=I (I1.o.grownBy aX (by intro e;cases ao with | none=>cases e | some aa=>(have:=(I2.o.blk_lt e).1;omega)));have c9:=I9.o.cell 0 _ rfl;have f9:=I9.o.warm 0;clear o8 aX b8 bW)
  have dG:∀ (k:Nat) (o:Obj),W.heap[k]?=some o->o.isCells=false->some k≠blk ao:=fun k o hk ho e=>by
   rcases I4.o with rfl | h4
   ·cases e
   ·cases ao with
    | none=>cases e
    | some aa =>
     obtain⟨g,off,si⟩:=aa;have hE:k=g:=bF e;subst hE;have h2:=I2.o
     cases h2 with
     | «at» g off h q1 q2 q3 =>
      obtain⟨o',nT,Bt⟩:=OwnK.isCells (.at k off h q1 q2 q3) (by have:=bK.o;omega) (by omega);rw[hk] at nT;cases nT;rw[ho] at Bt;cases Bt
  have Wx:∀ o:Obj,o.isWalk=true->o.isCells=false:=fun o h=>by cases o<;>first | rfl | cases h
  have xJ:w.heap.size+1<=g5:=(O8.o.blk_lt rfl).1;have iK:=mA.o
  have rg:∀ k,k≠w.heap.size->(wa.setCell ⟨w.heap.size,0,none⟩ (.slice (some ⟨g5,off5,none⟩) (n+1) c5)).heap[k]?=wa.heap[k]?:=fun k hk=>DK _ _ _ _ hk
  refine⟨rfl,⟨by rw[World.size_setCell];exact G8.o.size,fun k o hB hk ho=>?_⟩,(KeepsWalks.of_grownBy G8.o (fun j o hj ho=>?_)).trans (KeepsWalks.setCell _ _ _),?_⟩
  ·rw[rg k (by omega),G8.o.block k (lI.1 hk).1 (dG k o hk ho)]
   exact hk
  ·cases hw:o.isWalk with
   | false=>rfl
   | true=>exact absurd hj.symm (dG j o ho (Wx o hw))
  ·have Pp:(pre++[x]).length=n+1:=by rw[gL,bK.o];rfl
   refine⟨some ⟨g5,off5,none⟩,c5,by rw[Pp];exact I9.o.set 0 _,?_,?_,.inr (by rw[Pp];omega)⟩
   ·rw[Pp,List.flatMap_append]
    have:=O8.o.setCell (p:=⟨w.heap.size,0,none⟩) (.slice (some ⟨g5,off5,none⟩) (n+1) c5) (by intro e;have:g5=w.heap.size:=bF e;omega);simpa using this
   ·exact(I3.o.trans (B8.o.mono (by omega))).setCell (p:=⟨w.heap.size,0,none⟩) (aO _) _
 case done =>
  intro D xs W hD hS hI hK;obtain⟨ao,cap,i1,i2,i3,i4⟩:=hI;have I2:=I i2;have I3:=I i3;have HS:=I hS;have c0:=i1.cell 0 _ rfl;have i7:=I hK
  have qV:Hid (blk ao≠some D\/blk ao=none):=I (by
   rcases i4 with rfl | h4
   ·exact .inr rfl
   ·cases ao with
    | none=>exact .inr rfl
    | some aa =>
     left
     obtain⟨g,off,si⟩:=aa;intro e;have hE:g=D:=bF e;subst hE
     cases i2 with
     | «at» g off h q1 q2 q3 =>
      obtain⟨o',nT,Bt⟩:=OwnK.isCells (.at g off h q1 q2 q3) h4 (by omega);rw[hK] at nT;cases nT
      cases Bt)
  clear i1 i2 i3 i4 hS hK
  gi_wp2
  refine⟨by simp,.inl ⟨_,_,rfl,run_takeDeferred i7.o,?_⟩⟩;exact⟨_,results_tmp rfl _ _ _,ao,cap,xs,rfl,HS.o,(I2.o.lower (Nat.le_succ _)).grown (grownBy_putObj' W D _) qV.o,I3.o.grown (grownBy_putObj' W D _) I3.o.size (fun k e=>by cases e;have:=Po.o.size;omega)⟩
 case s=>exact fun _ _ _ _ _ _ h _=>h.elim
theorem Zzo(Bm b:Nat)(S0:List Ky)(hS0:∀ k∈S0,KyOk k)(aQ:S0.length<=1000000)(w:World)(hBm:Bm<w.heap.size)(hm:w.cell? ⟨Bm,0,none⟩=some (.map (some b)))(h:lX w b S0) :
  CallsIn Fence.wide 7 Tryz.prog 181 #[.func (.func 183) #[] #[.pointer (some ⟨Bm,0,none⟩)]] w fun e w' =>
   ∃ (ao:Option Addr) (cap:Nat) (ss:List Ky),e = .returned (.slice ao ss.length cap)/\(ss.Nodup/\∀ x,x∈ss↔x∈S0)/\OwnK w' w.heap.size 3 ss.length cap (ss.flatMap kyC) ao/\RowKit.Below w.heap.size w w':=by
 have uN:Fence.wide.round=none:=rfl;have HK:=I (Z11 Bm b S0 hS0 aQ w hBm hm h);clear hS0 aQ hBm hm h;refine callsIn_of_wp Tryz.func181 rfl trivial ?_ uN;simp only[Tryz.ntmps181,List.size_toArray,List.length_cons,List.length_nil,Nat.reduceAdd,Nat.reduceSub,Array.replicate_succ,Array.replicate_zero,List.push_toArray,List.append_toArray,List.nil_append,List.cons_append]
 gi_wp2_with fail
 refine⟨trivial,?_⟩;refine HK.o.mono ?_;rintro e w' ⟨ao,cap,ss,rfl,h1,h2,h3⟩;have H1:=I h1;have H2:=I h2;have H3:=I h3;clear h1 h2 h3
 gi_wp2
 go_ret;exact⟨ao,cap,ss,rfl,H1.o,H2.o,H3.o⟩
end Go.Proofs.YtbcgocpihobjnaaGreatDoor
