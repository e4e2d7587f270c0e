import Derived.Test.YtbcgocpihobjnaaGreatDoorCI29
import Derived.Test.YtbcgocpihobjnaaGreatDoorCI12
set_option linter.all false
set_option maxHeartbeats 16000000
set_option maxRecDepth 100000
namespace Go.Proofs.YtbcgocpihobjnaaGreatDoor
open Go.RowKit Go.Sort Go.Maps
def Z2x (ns:List (List Nat)) (EC:Int) (CS:List Ky) (ps:List Prd) (most:Int) (W:World) (x:Value):Prop :=
 (EC≠0∧x = .pointer none)∨(EC=0∧∃ D no nc po pn pc ro rc,x = .pointer (some ⟨D,0,none⟩)∧pn=ps.length∧DecR W (fun _=>True) D ns no ns.length nc most ps po pn pc CS ro rc)
theorem Z2x.step {ns:List (List Nat)} {EC:Int} {CS:List Ky} {ps:List Prd} {most:Int} {W W':World} {x:Value} (h:Z2x ns EC CS ps most W x) (hb:Below W.heap.size W W'):Z2x ns EC CS ps most W' x:=by
 rcases h with h | ⟨h0,D,no,nc,po,pn,pc,ro,rc,h1,h2,h3⟩
 ·exact .inl h
 ·exact .inr ⟨h0,D,no,nc,po,pn,pc,ro,rc,h1,h2,h3.step hb⟩
theorem Z37 {w w':World} {ns:List (List Nat)} {most:Int} {ps:List Prd} {no:Option Addr} {nc:Nat} {po:Option Addr} {pn pc:Nat} {e:Ending} (hpn:pn=ps.length) (hs:SpcR w ns no ns.length∨Zec ns most ps≠0) (hps:Zcl w (fun _=>True) ps po) (h:Zg2 w (Zec ns most ps) (Za7 ps) no ns.length nc most po pn pc e w'):∃ x,e = .returned (.tuple #[x,.int .i64 (Zec ns most ps)])∧Z2x ns (Zec ns most ps) (Za7 ps) ps most w' x∧Below w.heap.size w w':=by
 rcases h.open with ⟨hc,rfl,b3⟩ | ⟨hc,D,ro,rc,rfl,hD,hpv,hok,b3⟩
 ·exact⟨_,rfl,.inl ⟨hc,rfl⟩,b3⟩
 ·rcases hs with hs | hs
  ·refine⟨_,by rw[hc],.inr ⟨hc,D,no,nc,po,pn,pc,ro,rc,rfl,hpn,hpv,hs.step b3,hps.below b3,hok.flatR Z30 rfl⟩,b3⟩
  ·exact absurd hc hs
theorem Z5d (t:Array Value) (h:t.size=39):∃ f:Nat→Value,t=#[f 0,f 1,f 2,f 3,f 4,f 5,f 6,f 7,f 8,f 9,f 10,f 11,f 12,f 13,f 14,f 15,f 16,f 17,f 18,f 19,f 20,f 21,f 22,f 23,f 24,f 25,f 26,f 27,f 28,f 29,f 30,f 31,f 32,f 33,f 34,f 35,f 36,f 37,f 38]:=by
 obtain⟨l⟩:=t;have hl:l.length=39:=h
 have e:l=(List.range 39).map (fun i=>l.getD i undef):=by
  apply List.ext_getElem
  ·simp[hl]
  ·intro i h1 h2
   simp[List.getD,h1]
 exact⟨fun i=>l.getD i undef,congrArg List.toArray e⟩
theorem Zt5 (i:Nat) (h:i<14):i=0∨i=1∨i=2∨i=3∨i=4∨i=5∨i=6∨i=7∨i=8∨i=9∨i=10∨i=11∨i=12∨i=13:=by omega
def rfF (NS:List (List Nat)) (EC:Int) (CS:List Ky) (ps:List Prd) (most:Int) (va vb:Value) (i:Nat) (W:World) (v:Value):Prop:=match i with
 | 0=>v=va
 | 1=>v=vb
 | 2=>∃ A,v = .slice (some ⟨A,0,none⟩) 2 2∧Zcl W (fun _=>True) ps (some ⟨A,0,none⟩)
 | 3=>∃ ro rc,v = .slice ro NS.length rc∧Zf3 W ro NS
 | 4=>v = .int .i64 most
 | 5=>v=va
 | 6=>v=vb
 | 7=>∃ A,v = .slice (some ⟨A,0,none⟩) 2 2∧Zcl W (fun _=>True) ps (some ⟨A,0,none⟩)
 | 8=>∃ x,v = .tuple #[x,.int .i64 EC]∧Z2x NS EC CS ps most W x
 | 9=>∃ x,v = .tuple #[x,.int .i64 EC]∧Z2x NS EC CS ps most W x
 | 10=>∃ x,v=x∧Z2x NS EC CS ps most W x
 | 11=>v = .int .i64 EC
 | 12=>∃ x,v=x∧Z2x NS EC CS ps most W x
 | 13=>v = .int .i64 EC
 | _=>True
theorem Z1k (NS:List (List Nat)) (EC:Int) (CS:List Ky) (ps:List Prd) (most:Int) (va vb:Value):∀ i w w' v,rfF NS EC CS ps most va vb i w v→Below w.heap.size w w'→rfF NS EC CS ps most va vb i w' v:=by
 intro i w w' v h hb
 match i with
 | 0=>exact h
 | 1=>exact h
 | 2=>obtain⟨A,h1,h2⟩:=h;exact⟨A,h1,h2.below hb⟩
 | 3=>obtain⟨ro,rc,h1,h2⟩:=h;exact⟨ro,rc,h1,h2.below hb⟩
 | 4=>exact h
 | 5=>exact h
 | 6=>exact h
 | 7=>obtain⟨A,h1,h2⟩:=h;exact⟨A,h1,h2.below hb⟩
 | 8=>obtain⟨x,h1,h2⟩:=h;exact⟨x,h1,h2.step hb⟩
 | 9=>obtain⟨x,h1,h2⟩:=h;exact⟨x,h1,h2.step hb⟩
 | 10=>obtain⟨x,h1,h2⟩:=h;exact⟨x,h1,h2.step hb⟩
 | 11=>exact h
 | 12=>obtain⟨x,h1,h2⟩:=h;exact⟨x,h1,h2.step hb⟩
 | 13=>exact h
 | k+14=>trivial
theorem Zt6 (w:World) (P:Nat→Prop) (p q:Prd) (vs us:List Value) (most:Int) (B:Nat) (hT:Tab w B) (hp:Zan w P p vs) (hq:Zan w P q us) (hv:Zas p=true∧Zas q=true) (hpb:Zox p∧Zox q) (hpc:Zcx p≤1000000∧Zcx q≤1000000) (fg:Nat) (f:List Bool→Bool) (hf:IsT fg f 2) :
  Calls Tryz.prog 131 #[.agg vs.toArray,.agg us.toArray,.int .i64 most,.func (.func fg) #[] #[]] w fun e w'=>Zzp w (Zel [p,q]) (Zec (Zel [p,q]) most [p,q]) (Zkp (Zel [p,q]) most (Za7 [p,q]) [p,q] f) (!(Zkp (Zel [p,q]) most (Za7 [p,q]) [p,q] f).isSome) e w':=by
 have hall:∀ {S:Prd→Prop},S p→S q→∀ x∈[p,q],S x:=fun {S} h1 h2 x hx=>by
  rcases List.mem_cons.1 hx with rfl | hx
  ·exact h1
  ·rw[List.mem_singleton.1 hx];exact h2
 have PCp:=ħ hp.wide;have PCq:=ħ hq.wide;obtain⟨xa,xn,xc,rfl,-⟩:=hp.form;obtain⟨ya,yn,yc,rfl,-⟩:=hq.form;have HT:=ħ (fun W (hW:Below w.heap.size w W)=>Tab.keep hT (fun k hk=>hW.block k (Nat.lt_of_lt_of_le hk hT.size)) hW.size);have hvA:=hall (S:=fun x=>Zas x=true) hv.1 hv.2;have hbA:=hall (S:=Zox) hpb.1 hpb.2;have hcA:=hall (S:=fun x=>Zcx x≤1000000) hpc.1 hpc.2;have HNA:=ħ (fun W po (hW:Below w.heap.size w W) (hr:Zcl W (fun _=>True) [p,q] po)=>Zxe W (fun _=>True) [p,q] po 2 2 B (HT.o W hW) hr rfl (by omega) (by omega) hvA hbA hcA);have hasc:=Z1f [p,q];have hnb:=Zxb hvA;have hnl:(Zel [p,q]).length≤400:=Z1h hvA
 have HOP:=ħ (fun W no nc po (hW:Below w.heap.size w W) (hn:Zf3 W no (Zel [p,q])) (hr:Zcl W (fun _=>True) [p,q] po)=>(Z07 W (fun _=>True) [p,q] po 2 2 no (Zel [p,q]).length nc most (Zel [p,q]) B (HT.o W hW) hr rfl hbA hcA (by omega) rfl hn hnb hasc (by omega)).mono (fun e w' hqq=>Z37 (w:=W) rfl (by
  by_cases hz:Zec (Zel [p,q]) most [p,q]=0
  ·exact .inl ⟨rfl,hn,hnb,hasc,by have:=(Zpe hz).2.2.2.2;omega⟩
  ·exact .inr hz) hr hqq))
 have HFI:=ħ (fun (hz:Zec (Zel [p,q]) most [p,q]=0) W D no nc po pn pc ro rc (hpn:pn=2) (hd:DecR W (fun _=>True) D (Zel [p,q]) no (Zel [p,q]).length nc most [p,q] po pn pc (Za7 [p,q]) ro rc)=>by
  obtain⟨h1,h2,h3,h4,h5⟩:=Zpe hz
  exact Z1d W (fun _=>True) D (Zel [p,q]) no (Zel [p,q]).length nc most [p,q] po pn pc (Za7 [p,q]) ro rc hd hpn (by omega) h1 h2 h3 hcA h4 fg f (by rw[hpn];exact hf))
 obtain⟨NS,hNS⟩:∃ N,Zel [p,q]=N:=⟨_,rfl⟩;rw[hNS] at HNA HOP HFI ⊢;obtain⟨EC,hEC⟩:∃ c,Zec NS most [p,q]=c:=⟨_,rfl⟩;rw[hEC] at HOP HFI ⊢;obtain⟨CS,hCS⟩:∃ c,Za7 [p,q]=c:=⟨_,rfl⟩;rw[hCS] at HOP HFI ⊢;generalize Zkp NS most CS [p,q] f=FR at *;clear hT hp hq hv hpb hpc hf hall hvA hbA hcA hasc hnb hnl hNS hEC hCS;have bx:=(Below.refl w.heap.size w).alloc (Nat.le_refl _) (.cells #[.int .i64 p.k,.string (Zac p.l),.string (Zac p.r),.int .i64 p.c,.slice xa xn xc] 54);have bx2:=(Below.refl (w.alloc (.cells #[.int .i64 p.k,.string (Zac p.l),.string (Zac p.r),.int .i64 p.c,.slice xa xn xc] 54)).heap.size (w.alloc (.cells #[.int .i64 p.k,.string (Zac p.l),.string (Zac p.r),.int .i64 p.c,.slice xa xn xc] 54))).alloc (Nat.le_refl _) (.cells #[.int .i64 q.k,.string (Zac q.l),.string (Zac q.r),.int .i64 q.c,.slice ya yn yc] 54);have B1:=ħ (bx.trans (bx2.mono bx.size));have X1:Hid (Zae ((w.alloc (.cells #[.int .i64 p.k,.string (Zac p.l),.string (Zac p.r),.int .i64 p.c,.slice xa xn xc] 54)).alloc (.cells #[.int .i64 q.k,.string (Zac q.l),.string (Zac q.r),.int .i64 q.c,.slice ya yn yc] 54)) w.heap.size 54 [.int .i64 p.k,.string (Zac p.l),.string (Zac p.r),.int .i64 p.c,.slice xa xn xc]):=ħ (Za2 _ _ _);have Y1:Hid (Zae ((w.alloc (.cells #[.int .i64 p.k,.string (Zac p.l),.string (Zac p.r),.int .i64 p.c,.slice xa xn xc] 54)).alloc (.cells #[.int .i64 q.k,.string (Zac q.l),.string (Zac q.r),.int .i64 q.c,.slice ya yn yc] 54)) (w.heap.size+1) 54 [.int .i64 q.k,.string (Zac q.l),.string (Zac q.r),.int .i64 q.c,.slice ya yn yc]):=ħ (heap_alloc2_new _ _ _);have HP2:=ħ (fun W (hW:Below w.heap.size w W)=>Z1e (w:=W.alloc (.cells #[.int .i64 p.k,.string (Zac p.l),.string (Zac p.r),.int .i64 p.c,.slice xa xn xc,.int .i64 q.k,.string (Zac q.l),.string (Zac q.r),.int .i64 q.c,.slice ya yn yc] 54)) (g:=W.heap.size) (t:=54) (PCp.o.below (hW.alloc hW.size _)) (PCq.o.below (hW.alloc hW.size _)) (heap_alloc_new _ _));clear bx bx2 PCp PCq;generalize p.k=q0 at *;generalize Zac p.l=q1 at *;generalize Zac p.r=q2 at *;generalize p.c=q3 at *;generalize q.k=r0 at *;generalize Zac q.l=r1 at *;generalize Zac q.r=r2 at *;generalize q.c=r3 at *
 go_enter Tryz.func131,Tryz.ntmps131
 go_upto_region 1 with (fail)
 generalize hw1:(w.alloc (.cells #[.int .i64 q0,.string q1,.string q2,.int .i64 q3,.slice xa xn xc] 54)).alloc (.cells #[.int .i64 r0,.string r1,.string r2,.int .i64 r3,.slice ya yn yc] 54)=w1 at *;clear hw1;have HP2:=ħ (fun W (hW:Below w1.heap.size w1 W)=>HP2.o W (B1.o.trans (hW.mono B1.o.size)));have HNA:=ħ (fun W po (hW:Below w1.heap.size w1 W)=>HNA.o W po (B1.o.trans (hW.mono B1.o.size)));have HOP:=ħ (fun W no nc po (hW:Below w1.heap.size w1 W)=>HOP.o W no nc po (B1.o.trans (hW.mono B1.o.size)));refine Zax (rfF NS EC CS [p,q] most (.agg #[.int .i64 q0,.string q1,.string q2,.int .i64 q3,.slice xa xn xc]) (.agg #[.int .i64 r0,.string r1,.string r2,.int .i64 r3,.slice ya yn yc])) (by kernel_rfl) (Z1k NS EC CS [p,q] most (.agg #[.int .i64 q0,.string q1,.string q2,.int .i64 q3,.slice xa xn xc]) (.agg #[.int .i64 r0,.string r1,.string r2,.int .i64 r3,.slice ya yn yc])) (Zb4 (by kernel_rfl)) (Zfo (by kernel_rfl)) (Zbb (by kernel_rfl)) ?hs ?he
 case hs =>
  intro i o hi listed a' w' H hl2;have hl3:=Zap hl2;have hin:i<14:=(Array.getElem?_eq_some_iff.1 hi).1;have hb:=ħ H.below;have s2:=H.same 2 (Zai (by kernel_rfl));have s4:=H.same 4 (Zai (by kernel_rfl));have s5:=H.same 5 (Zai (by kernel_rfl));have hdn:=H.done;have hdf:=H.defers;have hts:=H.tsize;clear hl2 H;obtain⟨t',df⟩:=a';obtain⟨f',rfl⟩:=Z5d t' hts;have hdf':df=[]:=hdf;subst hdf';have gs2:f' 2 = .int .i64 most:=s2;have gs4:f' 4 = .pointer (some ⟨w.heap.size,0,none⟩):=s4;have gs5:f' 5 = .pointer (some ⟨w.heap.size+1,0,none⟩):=s5;clear s2 s4 s5;clear hdf hts;have hcases:=Zt5 i hin;clear hin;rcases hcases with rfl | rfl | rfl | rfl | rfl | rfl | rfl | rfl | rfl | rfl | rfl | rfl | rfl | rfl
  ·obtain rfl:=Option.some.inj hi
   clear hdn hl3;rw[gs4];clear gs2 gs4 gs5;refine Zab rfl ?_
   go_wp2_with (refine wpList_load_row rfl 54 (.tmp 4) rfl w.heap.size ?x1 54 #[.int .i64 q0,.string q1,.string q2,.int .i64 q3,.slice xa xn xc] (0,0) _ (X1.o.step hb.o) Tryz.underlying54 rfl (Za1 _ rfl) ?_;(case x1=>rfl))
   exact Zaa ⟨_,rfl,Below.refl _ _,rfl⟩
  ·obtain rfl:=Option.some.inj hi
   clear hdn hl3;rw[gs5];clear gs2 gs4 gs5;refine Zab rfl ?_
   go_wp2_with (refine wpList_load_row rfl 54 (.tmp 5) rfl (w.heap.size+1) ?x1 54 #[.int .i64 r0,.string r1,.string r2,.int .i64 r3,.slice ya yn yc] (0,0) _ (Y1.o.step hb.o) Tryz.underlying54 rfl (Za1 _ rfl) ?_;(case x1=>rfl))
   exact Zaa ⟨_,rfl,Below.refl _ _,rfl⟩
  ·obtain rfl:=Option.some.inj hi
   have dv0:f' 16 = .agg #[.int .i64 q0,.string q1,.string q2,.int .i64 q3,.slice xa xn xc]:=hdn 0 _ 16 rfl (hl3 0 (by rfl)) rfl;have dv1:f' 17 = .agg #[.int .i64 r0,.string r1,.string r2,.int .i64 r3,.slice ya yn yc]:=hdn 1 _ 17 rfl (hl3 1 (by rfl)) rfl;clear hdn hl3;rw[dv0,dv1];clear dv0 dv1 gs2 gs4 gs5;refine Zab rfl ?_
   go_wp2_with fail
   exact Zaa ⟨_,rfl,(Below.refl w'.heap.size w').alloc (Nat.le_refl _) _,w'.heap.size,rfl,HP2.o w' hb.o⟩
  ·obtain rfl:=Option.some.inj hi
   have dv2:rfF NS EC CS [p,q] most (.agg #[.int .i64 q0,.string q1,.string q2,.int .i64 q3,.slice xa xn xc]) (.agg #[.int .i64 r0,.string r1,.string r2,.int .i64 r3,.slice ya yn yc]) 2 w' (f' 18):=hdn 2 _ 18 rfl (hl3 2 (by rfl)) rfl;obtain⟨A1,dv2,hA1⟩:=dv2;clear hdn hl3;rw[dv2];clear dv2 gs2 gs4 gs5;refine Zab rfl ?_
   go_wp2_with fail
   refine (HNA.o w' (some ⟨A1,0,none⟩) hb.o hA1).mono ?_;rintro e w4 ⟨ro,rc,rfl,ho4,b4⟩;have HB4:=ħ b4;have HO4:=ħ (ho4.strsR rfl);clear b4 ho4 hA1
   go_wp2_with fail
   exact Zaa ⟨_,rfl,HB4.o,ro,rc,rfl,HO4.o⟩
  ·obtain rfl:=Option.some.inj hi
   clear hdn hl3;rw[gs2];clear gs2 gs4 gs5;refine Zab rfl ?_
   go_wp2_with fail
   exact Zaa ⟨_,rfl,Below.refl _ _,rfl⟩
  ·obtain rfl:=Option.some.inj hi
   clear hdn hl3;rw[gs4];clear gs2 gs4 gs5;refine Zab rfl ?_
   go_wp2_with (refine wpList_load_row rfl 54 (.tmp 4) rfl w.heap.size ?x1 54 #[.int .i64 q0,.string q1,.string q2,.int .i64 q3,.slice xa xn xc] (0,0) _ (X1.o.step hb.o) Tryz.underlying54 rfl (Za1 _ rfl) ?_;(case x1=>rfl))
   exact Zaa ⟨_,rfl,Below.refl _ _,rfl⟩
  ·obtain rfl:=Option.some.inj hi
   clear hdn hl3;rw[gs5];clear gs2 gs4 gs5;refine Zab rfl ?_
   go_wp2_with (refine wpList_load_row rfl 54 (.tmp 5) rfl (w.heap.size+1) ?x1 54 #[.int .i64 r0,.string r1,.string r2,.int .i64 r3,.slice ya yn yc] (0,0) _ (Y1.o.step hb.o) Tryz.underlying54 rfl (Za1 _ rfl) ?_;(case x1=>rfl))
   exact Zaa ⟨_,rfl,Below.refl _ _,rfl⟩
  ·obtain rfl:=Option.some.inj hi
   have dv5:f' 21 = .agg #[.int .i64 q0,.string q1,.string q2,.int .i64 q3,.slice xa xn xc]:=hdn 5 _ 21 rfl (hl3 5 (by rfl)) rfl;have dv6:f' 22 = .agg #[.int .i64 r0,.string r1,.string r2,.int .i64 r3,.slice ya yn yc]:=hdn 6 _ 22 rfl (hl3 6 (by rfl)) rfl;clear hdn hl3;rw[dv5,dv6];clear dv5 dv6 gs2 gs4 gs5;refine Zab rfl ?_
   go_wp2_with fail
   exact Zaa ⟨_,rfl,(Below.refl w'.heap.size w').alloc (Nat.le_refl _) _,w'.heap.size,rfl,HP2.o w' hb.o⟩
  ·obtain rfl:=Option.some.inj hi
   have dv3:rfF NS EC CS [p,q] most (.agg #[.int .i64 q0,.string q1,.string q2,.int .i64 q3,.slice xa xn xc]) (.agg #[.int .i64 r0,.string r1,.string r2,.int .i64 r3,.slice ya yn yc]) 3 w' (f' 19):=hdn 3 _ 19 rfl (hl3 3 (by rfl)) rfl;obtain⟨nr,nc,dv3,hNR⟩:=dv3;have dv4:f' 20 = .int .i64 most:=hdn 4 _ 20 rfl (hl3 4 (by rfl)) rfl;have dv7:rfF NS EC CS [p,q] most (.agg #[.int .i64 q0,.string q1,.string q2,.int .i64 q3,.slice xa xn xc]) (.agg #[.int .i64 r0,.string r1,.string r2,.int .i64 r3,.slice ya yn yc]) 7 w' (f' 23):=hdn 7 _ 23 rfl (hl3 7 (by rfl)) rfl;obtain⟨A2,dv7,hA2⟩:=dv7;clear hdn hl3;rw[dv3,dv4,dv7];clear dv3 dv4 dv7 gs2 gs4 gs5;refine Zab rfl ?_
   go_wp2_with fail
   refine (HOP.o w' nr nc (some ⟨A2,0,none⟩) hb.o hNR hA2).mono ?_;intro e w4 hq;obtain⟨x,rfl,hx,b4⟩:=hq;have HB4:=ħ b4;have HX4:=ħ hx;clear b4 hx hA2 hNR
   go_wp2_with fail
   exact Zaa ⟨_,rfl,HB4.o,x,rfl,HX4.o⟩
  ·obtain rfl:=Option.some.inj hi
   have dv8:rfF NS EC CS [p,q] most (.agg #[.int .i64 q0,.string q1,.string q2,.int .i64 q3,.slice xa xn xc]) (.agg #[.int .i64 r0,.string r1,.string r2,.int .i64 r3,.slice ya yn yc]) 8 w' (f' 24):=hdn 8 _ 24 rfl (hl3 8 (by rfl)) rfl;obtain⟨x,dv8,hx⟩:=dv8;clear hdn hl3;rw[dv8];clear dv8 gs2 gs4 gs5;have HX:=ħ hx;clear hx;refine Zab rfl ?_
   go_wp2_with fail
   exact Zaa ⟨_,rfl,Below.refl _ _,x,rfl,HX.o⟩
  ·obtain rfl:=Option.some.inj hi
   have dv9:rfF NS EC CS [p,q] most (.agg #[.int .i64 q0,.string q1,.string q2,.int .i64 q3,.slice xa xn xc]) (.agg #[.int .i64 r0,.string r1,.string r2,.int .i64 r3,.slice ya yn yc]) 9 w' (f' 15):=hdn 9 _ 15 rfl (hl3 9 (by rfl)) rfl;obtain⟨x,dv9,hx⟩:=dv9;clear hdn hl3;rw[dv9];clear dv9 gs2 gs4 gs5;have HX:=ħ hx;clear hx;refine Zab rfl ?_
   go_wp2_with fail
   exact Zaa ⟨_,rfl,Below.refl _ _,x,rfl,HX.o⟩
  ·obtain rfl:=Option.some.inj hi
   have dv9:rfF NS EC CS [p,q] most (.agg #[.int .i64 q0,.string q1,.string q2,.int .i64 q3,.slice xa xn xc]) (.agg #[.int .i64 r0,.string r1,.string r2,.int .i64 r3,.slice ya yn yc]) 9 w' (f' 15):=hdn 9 _ 15 rfl (hl3 9 (by rfl)) rfl;obtain⟨x,dv9,hx⟩:=dv9;clear hdn hl3;rw[dv9];clear dv9 gs2 gs4 gs5;clear hx;refine Zab rfl ?_
   go_wp2_with fail
   exact Zaa ⟨_,rfl,Below.refl _ _,rfl⟩
  ·obtain rfl:=Option.some.inj hi
   have dv10:rfF NS EC CS [p,q] most (.agg #[.int .i64 q0,.string q1,.string q2,.int .i64 q3,.slice xa xn xc]) (.agg #[.int .i64 r0,.string r1,.string r2,.int .i64 r3,.slice ya yn yc]) 10 w' (f' 25):=hdn 10 _ 25 rfl (hl3 10 (by rfl)) rfl;obtain⟨x,dv10,hx⟩:=dv10;clear hdn hl3;rw[dv10];clear dv10 gs2 gs4 gs5;have HX:=ħ hx;clear hx;refine Zab rfl ?_
   go_wp2_with fail
   exact Zaa ⟨_,rfl,Below.refl _ _,x,rfl,HX.o⟩
  ·obtain rfl:=Option.some.inj hi
   have dv11:f' 26 = .int .i64 EC:=hdn 11 _ 26 rfl (hl3 11 (by rfl)) rfl;clear hdn hl3;rw[dv11];clear dv11 gs2 gs4 gs5;refine Zab rfl ?_
   go_wp2_with fail
   exact Zaa ⟨_,rfl,Below.refl _ _,rfl⟩
 case he =>
  intro listed a' w4 H hall;have hd12:rfF NS EC CS [p,q] most (.agg #[.int .i64 q0,.string q1,.string q2,.int .i64 q3,.slice xa xn xc]) (.agg #[.int .i64 r0,.string r1,.string r2,.int .i64 r3,.slice ya yn yc]) 12 w4 (a'.tmps.getD 11 undef):=H.done 12 _ 11 rfl (hall 12 (by decide)) rfl;have hd13:rfF NS EC CS [p,q] most (.agg #[.int .i64 q0,.string q1,.string q2,.int .i64 q3,.slice xa xn xc]) (.agg #[.int .i64 r0,.string r1,.string r2,.int .i64 r3,.slice ya yn yc]) 13 w4 (a'.tmps.getD 12 undef):=H.done 13 _ 12 rfl (hall 13 (by decide)) rfl;have hb4:=ħ H.below;have s3:=H.same 3 (Zai (by kernel_rfl));have s8:=H.same 8 (Zai (by kernel_rfl));have s9:=H.same 9 (Zai (by kernel_rfl));have s10:=H.same 10 (Zai (by kernel_rfl));have hdf:=H.defers;have hts:=H.tsize;clear H hall;obtain⟨t',df⟩:=a';obtain⟨f',rfl⟩:=Z5d t' hts;have hdf':df=[]:=hdf;subst hdf';have gs3:f' 3 = .func (.func fg) #[] #[]:=s3;have gs8:f' 8 = .slice none 0 0:=s8;have gs9:f' 9 = .bool false:=s9;have gs10:f' 10 = .int .i64 0:=s10;have e12:rfF NS EC CS [p,q] most (.agg #[.int .i64 q0,.string q1,.string q2,.int .i64 q3,.slice xa xn xc]) (.agg #[.int .i64 r0,.string r1,.string r2,.int .i64 r3,.slice ya yn yc]) 12 w4 (f' 11):=hd12;clear hd12;obtain⟨x,e12,hx⟩:=e12;have e13:f' 12 = .int .i64 EC:=hd13;rw[gs3,gs8,gs9,gs10,e12,e13];clear s3 s8 s9 s10 gs3 gs8 gs9 gs10 hdf hts e12 hd13 e13;have HX:=ħ hx;have B4:=ħ (B1.o.trans (hb4.o.mono B1.o.size));clear hx HOP HNA HP2 X1 Y1 hb4;generalize f' 11=y11 at *;rcases HX.o with ⟨hc,rfl⟩ | ⟨hc,D,no,nc,po,pn,pc,ro,rc,rfl,hpn,hd⟩
  ·have HC:=ħ hc
   have HC2:¬ (EC=0):=hc;clear hc HX
   go_wp2
   go_ret3
   exact Zzp.bad HC.o B4.o
  ·have HC:=ħ hc
   have HFQ:=ħ (HFI.o hc w4 D no nc po pn pc ro rc hpn hd);rw[hc];clear hc hd HX HFI hpn
   go_wp2_with fail
   refine HFQ.o.mono ?_;intro e w5 hq;obtain⟨⟨v,rfl,hv⟩,b5⟩:=hq.open;have HV:=ħ (hv.lower B4.o.size);have B5:=ħ (B4.o.trans (b5.mono B4.o.size));clear hq hv b5 HFQ
   go_wp2
   go_ret3
   exact Zzp.good HC.o (by cases FR<;>rfl) HV.o B5.o
theorem Zqw (w:World) (P:Nat→Prop) (p q:Prd) (vs us:List Value) (most:Int) (B:Nat) (hT:Tab w B) (hp:Zan w P p vs) (hq:Zan w P q us) (hv:Zas p=true∧Zas q=true) (hpb:Zox p∧Zox q) (hpc:Zcx p≤1000000∧Zcx q≤1000000) :
  Calls Tryz.prog 67 #[.agg vs.toArray,.agg us.toArray,.int .i64 most] w fun e w'=>Zzp w (Zel [p,q]) (Zec (Zel [p,q]) most [p,q]) (Zkp (Zel [p,q]) most (Za7 [p,q]) [p,q] (fun l=>l.getD 0 false&&!l.getD 1 false)) (!(Zkp (Zel [p,q]) most (Za7 [p,q]) [p,q] (fun l=>l.getD 0 false&&!l.getD 1 false)).isSome) e w':=by
 have HRF:=ħ (fun W (hW:Below w.heap.size w W)=>Zt6 W P p q vs us most B (Tab.keep hT (fun k hk=>hW.block k (Nat.lt_of_lt_of_le hk hT.size)) hW.size) (hp.below hW) (hq.below hW) hv hpb hpc 132 (fun l=>l.getD 0 false&&!l.getD 1 false) (Zpg 2 (by omega) (by omega)));obtain⟨xa,xn,xc,rfl,-⟩:=hp.form;obtain⟨ya,yn,yc,rfl,-⟩:=hq.form;generalize Zec (Zel [p,q]) most [p,q]=EC at *;generalize Zkp (Zel [p,q]) most (Za7 [p,q]) [p,q] (fun l=>l.getD 0 false&&!l.getD 1 false)=FR at *;generalize Zel [p,q]=NS at *;clear hT hp hq hv hpb hpc;have bx:=(Below.refl w.heap.size w).alloc (Nat.le_refl _) (.cells #[.int .i64 p.k,.string (Zac p.l),.string (Zac p.r),.int .i64 p.c,.slice xa xn xc] 54);have bx2:=(Below.refl (w.alloc (.cells #[.int .i64 p.k,.string (Zac p.l),.string (Zac p.r),.int .i64 p.c,.slice xa xn xc] 54)).heap.size (w.alloc (.cells #[.int .i64 p.k,.string (Zac p.l),.string (Zac p.r),.int .i64 p.c,.slice xa xn xc] 54))).alloc (Nat.le_refl _) (.cells #[.int .i64 q.k,.string (Zac q.l),.string (Zac q.r),.int .i64 q.c,.slice ya yn yc] 54);have B1:=ħ (bx.trans (bx2.mono bx.size));have X1:Hid (Zae ((w.alloc (.cells #[.int .i64 p.k,.string (Zac p.l),.string (Zac p.r),.int .i64 p.c,.slice xa xn xc] 54)).alloc (.cells #[.int .i64 q.k,.string (Zac q.l),.string (Zac q.r),.int .i64 q.c,.slice ya yn yc] 54)) w.heap.size 54 [.int .i64 p.k,.string (Zac p.l),.string (Zac p.r),.int .i64 p.c,.slice xa xn xc]):=ħ (Za2 _ _ _);have Y1:Hid (Zae ((w.alloc (.cells #[.int .i64 p.k,.string (Zac p.l),.string (Zac p.r),.int .i64 p.c,.slice xa xn xc] 54)).alloc (.cells #[.int .i64 q.k,.string (Zac q.l),.string (Zac q.r),.int .i64 q.c,.slice ya yn yc] 54)) (w.heap.size+1) 54 [.int .i64 q.k,.string (Zac q.l),.string (Zac q.r),.int .i64 q.c,.slice ya yn yc]):=ħ (heap_alloc2_new _ _ _);clear bx bx2;generalize p.k=q0 at *;generalize Zac p.l=q1 at *;generalize Zac p.r=q2 at *;generalize p.c=q3 at *;generalize q.k=r0 at *;generalize Zac q.l=r1 at *;generalize Zac q.r=r2 at *;generalize q.c=r3 at *
 go_enter Tryz.func67,Tryz.ntmps67
 go_upto_region 1 with (fail)
 generalize hw1:(w.alloc (.cells #[.int .i64 q0,.string q1,.string q2,.int .i64 q3,.slice xa xn xc] 54)).alloc (.cells #[.int .i64 r0,.string r1,.string r2,.int .i64 r3,.slice ya yn yc] 54)=w1 at *;clear hw1
 go_wp2_with (first | (refine wpList_load_row rfl 54 (.tmp 3) rfl w.heap.size ?x1 54 #[.int .i64 q0,.string q1,.string q2,.int .i64 q3,.slice xa xn xc] (0,0) _ X1.o Tryz.underlying54 rfl (Za1 _ rfl) ?_;(case x1=>rfl)) | (refine wpList_load_row rfl 54 (.tmp 4) rfl (w.heap.size+1) ?x2 54 #[.int .i64 r0,.string r1,.string r2,.int .i64 r3,.slice ya yn yc] (0,0) _ Y1.o Tryz.underlying54 rfl (Za1 _ rfl) ?_;(case x2=>rfl)))
 refine (HRF.o w1 B1.o).mono ?_;intro e w2 hq;obtain⟨h1,b2⟩:=hq;have B2:=ħ (B1.o.trans (b2.mono B1.o.size));by_cases hz:EC=0
 ·rw[if_pos hz] at h1
  obtain⟨v,rfl,hv⟩:=h1;have HZ:=ħ hz;have HV:=ħ (hv.lower B1.o.size);clear hz hv b2 HRF
  go_wp2
  go_ret3
  exact Zzp.good HZ.o (by cases FR<;>rfl) HV.o B2.o
 ·rw[if_neg hz] at h1
  subst h1;have HZ:=ħ hz;clear hz b2 HRF
  go_wp2
  go_ret3
  exact Zzp.bad HZ.o B2.o
end Go.Proofs.YtbcgocpihobjnaaGreatDoor
