import Derived.Test.YtmkdfbelbcocpaaGreatDoorCD28
import Derived.Test.YtmkdfbelbcocpaaGreatDoorCD29
import Derived.Test.YtmkdfbelbcocpaaGreatDoorCD27
import Derived.Test.YtmkdfbelbcocpaaGreatDoorCD10
set_option linter.unusedVariables false
set_option linter.unusedSimpArgs false
set_option maxHeartbeats 16000000
set_option maxRecDepth 100000
namespace Go.Proofs.YtmkdfbelbcocpaaGreatDoor
section
open Go.RowKit Go.Sort Go.Maps
theorem Zg9 {fn:Func} {t u v x:Tmp} (h:fn.results=#[.tmp t,.tmp u,.tmp v,.tmp x]) (tmps:Array Value) (P:Program) (w:World) :
  (results fn tmps).run P w = .ok (.tuple #[tmps.getD t undef,tmps.getD u undef,tmps.getD v undef,tmps.getD x undef]) w:=by
 simp[results,h]
theorem Zha {P:Program} (w:World) (t ty e:TypeId) (i:TypeInfo) (ht:P.underlying t=some (.slice e)) (hi:P.info? e=some i) (b:Addr) (n cap:Nat) (ao:Option Addr) (c:Nat) (hn:n≤cap) :
  (Builtin.append_ #[t,t] ty #[.slice (some b) n cap,.slice ao 0 c]).run P w = .ok (.slice (some b) n cap) w:=by
 cases ao with
 | none=>simp[Builtin.append_,run_underlying ht,sizeOf,typeInfo,hi,Builtin.lenOf,hn,Builtin.firstCells,storeCells]
 | some a=>simp[Builtin.append_,run_underlying ht,sizeOf,typeInfo,hi,Builtin.lenOf,hn,Builtin.firstCells,storeCells,loadCells,loadCellsFrom]
theorem Z0j {ops:Array Oper} {rest:List Oper} {o:Oper} {a:Act} {Q:Exit→Act→World→Prop} (w:World) (hg:o.guard=none) (s x:Operand) (hop:o.op=Op.call { callee:=Callee.builtin Builtin.append,args:=#[s,x],argTypes:=#[23,23] })
  (p:Prd) (vs:List Value) (P:Nat→Prop) (ls:List Prd) (A ln lc:Nat) (lo:Option Addr) (hs:a.eval s = .slice (some ⟨A,0,none⟩) 1 1) (hx:a.eval x = .slice lo ln lc) (hp:Zai w (fun _=>True) p vs) (hA:Zah w A 25 vs) (hls:Zbj w P ls lo) (hln:ln=ls.length) (hl:ln≤100)
  (hK:∀ g off cap w',Zbj w' (fun _=>True) (p::ls) (some ⟨g,off,none⟩)→Below w.heap.size w w'→wpList Tryz.prog ops Q rest (a.put o.dst (.slice (some ⟨g,off,none⟩) (1+ln) cap)) w') :
  wpList Tryz.prog ops Q (o::rest) a w:=by
 obtain⟨i0,hi,hz0,hz1,hz2⟩:=Zgb Zdo
 rcases Nat.eq_zero_or_pos ln with h0 | h0
 ·have hl0:ls=[]:=List.eq_nil_of_length_eq_zero (by omega)
  subst h0
  subst hl0
  have hrun:=Zha (P:=Tryz.prog) w 23 o.type 25 i0 Tryz.underlying23 hi ⟨A,0,none⟩ 1 1 lo lc (Nat.le_refl _)
  refine wpList_plain hg fun K hK'=>?_
  unfold Oper.wp
  simp[execOp,hop,resolve,invoke,builtin,hs,hx,hrun,Result.andThen]
  exact hK' _ _ (hK A 0 1 w (Zi1 hp hA) (Below.refl _ _))
 ·rcases hls with hls | ⟨g,off,rfl,hPg,hgl,hkc⟩
  ·rw[hls] at hln;simp at hln;omega
  obtain⟨vss,hv1,hv2,hv3,hv4,hv5⟩:=Za1.cells ls g off hkc
  refine wpList_append_grows w hg s x 23 hop 25 i0 Znm 5 72 Tryz.underlying23 hi hz0 hz1 hz2 rfl (by omega) (some ⟨A,0,none⟩) 1 1 vs hs (fun h=>by cases h) (by rw[hp.len5]) (fun b hb j u hj=>by cases hb;exact hA.addr j u hj) ⟨g,off,none⟩ ln lc vss.flatten hx (by rw[hln];exact hv4) (fun j u hj=>by rw[Addr.add_lit];exact hv3 j u hj) hv5 (by omega)
   (by simp only[maxLen];omega) (by omega) ?_
  intro v' w' ho hgr
  obtain⟨g',cap',rfl,hw,hl',hcm,hle⟩:=OwnK.of_row ho (by omega)
  have hb:Below w.heap.size w w':=⟨hgr.os,hgr.tape,hgr.output,hgr.size,fun k hk=>hgr.block k hk (by simp)⟩
  refine hK g' 0 cap' w' (.inr ⟨g',0,rfl,trivial,hw.lt,Za1.of (p::ls) (vs::vss) g' 0 (by simp[hv1]) (fun i q us hq hu=>?_) (by rw[List.flatten_cons];exact hw.cells)⟩) hb
  cases i with
  | zero=>simp at hq hu;subst hq;subst hu;exact hp.below hb
  | succ i=>exact ((hv2 i q us (by simpa using hq) (by simpa using hu)).below hb).wide
theorem Z36 (w:World) (base lo:Nat) (bad:Nat→Prop) (ao:Option Addr) (n cap:Nat) (l:List Cel) (vss:List (List Value)) (hrm:RowM Zjw 2 base w lo bad ao n cap l vss) (hbig:n≤1000000)
  (fg:Nat) (cb:Array Value) (f:Cel→Bool) (eg:∀ args w,(callFunc fg args).run Tryz.prog w = .ok (.enter fg args) w) (hf:∀ W c x1 bo bc,c∈l→Below w.heap.size w W→x1.oneCell'=true→Za7 Zg8 W bo c.2→c.2.length≤bc→Calls Tryz.prog fg (#[.agg #[x1,.slice bo c.2.length bc]]++cb) W fun e w'=>e = .returned (.bool (f c))∧Below W.heap.size W w') :
  Calls Tryz.prog 124 #[.slice ao n cap,.func (.func fg) #[] cb] w fun e w'=>e = .returned (.int .i64 (Zre f l))∧Below w.heap.size w w':=by
 have HL:=ħ hrm
 have HN:=ħ hrm.cnt
 have HCA:=ħ hf
 have HI:Hid (Zre f l=match l.findIdx? f with | some i=>(i:Int) | none=>-1):=ħ rfl
 obtain⟨V,hV⟩:∃ V,Zre f l=V:=⟨_,rfl⟩
 rw[hV] at HI ⊢
 have B0:=ħ (Below.refl w.heap.size w)
 clear hrm hf hV
 go_enter Tryz.func124,Tryz.ntmps124
 go_wp2_with fail
 go_loopw [8] (fun cc wr=>∃ (i:Nat),cc = .int .i64 i∧i≤n∧Hid (Below w.heap.size w wr)∧Hid (∀ j k,j<i→l[j]?=some k→f k=false)) (fun c _=>(n-intOf c).toNat)
 case atStart=>exact⟨0,rfl,by omega,B0,ħ (fun j k hj=>absurd hj (Nat.not_lt_zero j))⟩
 case round =>
  clear B0
  obtain⟨i,rfl,hi,hw,hno⟩:=hrel
  have e2:IntKind.i64.wrap ((i:Int)+1)=((i+1:Nat):Int):=IntWalk.i64_in _ (by omega)
  by_cases hlt:i<n
  ·have ii:(i:Int)<n:=by omega
   obtain⟨x,hx⟩:∃ x,l[i]?=some x:=⟨_,List.getElem?_eq_getElem (by rw[← HN.o];exact hlt)⟩
   have HX:=ħ hx
   obtain⟨gc,off,vs,hao,hgl,hlo,hvs,hvl,hrd,hel⟩:=(HL.o.step Zjw.keeps hw.o).at i x hx
   obtain⟨vo,vc,bo,bc,rfl,hv1,hv2,hbc⟩:=hel.open
   have s0:=hrd 0 _ rfl
   have s1:=hrd 1 _ rfl
   rw[Nat.add_zero] at s0
   have HV2:=ħ hv2
   have HBC:=ħ hbc
   have HCX:=ħ (HCA.o wr x (.slice vo x.1.length vc) bo bc (List.mem_of_getElem? HX.o) hw.o rfl HV2.o HBC.o)
   clear hx hrd hel hvs hvl hlo hgl hv1 hv2 hbc HV2 HBC
   subst hao
   generalize x.1.length=xl at *
   generalize x.2.length=yl at *
   go_wp2_with fail
   refine HCX.o.mono ?_
   rintro e w3 ⟨rfl,b3⟩
   have hw3:=ħ (hw.o.trans (b3.mono hw.o.size))
   clear b3 s0 s1 hw HCX
   obtain⟨fv,hfv⟩:∃ v,f x=v:=⟨_,rfl⟩
   rw[hfv]
   have HFV:=ħ hfv
   clear hfv
   cases fv with
   | true =>
    have HY:Hid (V=(i:Int)):=ħ (by rw[HI.o,Zvb HX.o HFV.o hno.o])
    go_wp2
    go_ret
    exact⟨Za2 HY.o.symm,hw3.o⟩
   | false =>
    go_wp2
    go_roundw
    case rel=>exact⟨i+1,by go_num,by omega,hw3,ħ (fun j k' hj hk'=>by
     rcases Nat.lt_or_ge j i with h | h
     ·exact hno.o j k' h hk'
     ·obtain rfl:j=i:=by omega
      rw[HX.o] at hk'
      obtain rfl:=Option.some.inj hk'
      exact HFV.o)⟩
    case measure=>simp only[intOf];omega
  ·have ii:¬ ((i:Int)<n):=by omega
   have HY:Hid (V = -1):=ħ (by rw[HI.o,Zrf (fun j k hj hk=>hno.o j k (by rw[← HN.o] at hj;omega) hk)])
   go_wp2
   go_ret
   exact⟨Za2 HY.o.symm,hw.o⟩
def Z8b (CL:List Cel):Option (List Int×List Int):=CL.findSome? (fun x=>(CL.find? (fun y=>Zgq x.2 y.2)).map (fun y=>(x.1,y.1)))
def Zte (w:World) (ns:List (List Nat)) (c:Int) (r:Option (List Int×List Int)) (e:Ending) (w':World):Prop :=
 (if c=0 then (match r with
  | none=>e = .returned (.tuple #[.slice none 0 0,.slice none 0 0,.bool false,.int .i64 0])
  | some uv=>∃ x y,e = .returned (.tuple #[x,y,.bool true,.int .i64 0])∧Zhw w w' ns (some uv.1) x∧Zhw w w' ns (some uv.2) y)
  else e = .returned (.tuple #[.slice none 0 0,.slice none 0 0,.bool false,.int .i64 c]))∧Below w.heap.size w w'
theorem Zte.bad {w w':World} {ns:List (List Nat)} {c:Int} {r:Option (List Int×List Int)} (h:c≠0) (hb:Below w.heap.size w w'):Zte w ns c r (.returned (.tuple #[.slice none 0 0,.slice none 0 0,.bool false,.int .i64 c])) w':=by
 refine⟨?_,hb⟩
 rw[if_neg h]
theorem Zte.no {w w':World} {ns:List (List Nat)} {c:Int} {r:Option (List Int×List Int)} (h:c=0) (hr:r=none) (hb:Below w.heap.size w w'):Zte w ns c r (.returned (.tuple #[.slice none 0 0,.slice none 0 0,.bool false,.int .i64 0])) w':=by
 refine⟨?_,hb⟩
 rw[if_pos h,hr]
theorem Zte.yes {w w':World} {ns:List (List Nat)} {c:Int} {r:Option (List Int×List Int)} {u v:List Int} {x y:Value} (h:c=0) (hr:r=some (u,v)) (hx:Zhw w w' ns (some u) x) (hy:Zhw w w' ns (some v) y) (hb:Below w.heap.size w w'):Zte w ns c r (.returned (.tuple #[x,y,.bool true,.int .i64 0])) w':=by
 refine⟨?_,hb⟩
 rw[if_pos h,hr]
 exact⟨x,y,rfl,hx,hy⟩
theorem Z37 {α:Type} {f:α→Bool} {l:List α} {i:Nat} (h:l.findIdx? f=some i):∃ y,l[i]?=some y∧l.find? f=some y:=by
 rw[List.findIdx?_eq_some_iff_getElem] at h
 obtain⟨h1,h2,h3⟩:=h
 refine⟨l[i],List.getElem?_eq_getElem h1,?_⟩
 rw[List.find?_eq_some_iff_getElem]
 exact⟨h2,i,h1,rfl,fun j hj=>by simpa using h3 j hj⟩
theorem Z0k {α:Type} {f:α→Bool} {l:List α} (h:l.findIdx? f=none):l.find? f=none:=by
 rw[List.findIdx?_eq_none_iff] at h
 rw[List.find?_eq_none]
 intro x hx
 simp[h x hx]
theorem Z84 (t:Array Value) (h:t.size=65):∃ f:Nat→Value,t=#[f 0,f 1,f 2,f 3,f 4,f 5,f 6,f 7,f 8,f 9,f 10,f 11,f 12,f 13,f 14,f 15,f 16,f 17,f 18,f 19,f 20,f 21,f 22,f 23,f 24,f 25,f 26,f 27,f 28,f 29,f 30,f 31,f 32,f 33,f 34,f 35,f 36,f 37,f 38,f 39,f 40,f 41,f 42,f 43,f 44,f 45,f 46,f 47,f 48,f 49,f 50,f 51,f 52,f 53,f 54,f 55,f 56,f 57,f 58,f 59,f 60,f 61,f 62,f 63,f 64]:=by
 obtain⟨l⟩:=t
 have hl:l.length=65:=h
 have e:l=(List.range 65).map (fun i=>l.getD i undef):=by
  apply List.ext_getElem
  ·simp[hl]
  ·intro i h1 h2
   simp[List.getD,h1]
 exact⟨fun i=>l.getD i undef,congrArg List.toArray e⟩
def dsF (D X gc off N cc k B:Nat) (ns:List (List Nat)) (ao:Option Addr) (n cp:Nat) (most:Int) (vo uo:Option Addr) (vc uc:Nat) (cx cy:List Int) (i:Nat) (W:World) (v:Value):Prop:=match i with
 | 0=>v = .pointer (some ⟨D,0,none⟩)
 | 1=>v = .pointer (some ⟨D,0,none⟩)
 | 2=>v = .pointer (some ⟨D,0,none⟩)
 | 3=>v = .agg #[.slice ao n cp,.int .i64 most]
 | 4=>v = .pointer (some ⟨X,0,none⟩)
 | 5=>v = .slice vo (n+1) vc
 | 6=>∃ ro rc,v = .slice ro n rc∧OwnK W B 2 n rc ((Ze8 ns cx).flatMap Zfj) ro
 | 7=>v = .pointer (some ⟨D,0,none⟩)
 | 8=>v = .pointer (some ⟨D,0,none⟩)
 | 9=>v = .pointer (some ⟨D,0,none⟩)
 | 10=>v = .agg #[.slice ao n cp,.int .i64 most]
 | 11=>v = .slice (some ⟨gc,off,none⟩) N cc
 | 12=>v = .int .i64 (k:Int)
 | 13=>v = .pointer (some ⟨gc,off+k*2,none⟩)
 | 14=>v = .pointer (some ⟨gc,off+k*2,none⟩)
 | 15=>v = .slice uo (n+1) uc
 | 16=>∃ ro rc,v = .slice ro n rc∧OwnK W B 2 n rc ((Ze8 ns cy).flatMap Zfj) ro
 | _=>True
theorem Z38 (D X gc off N cc k B:Nat) (ns:List (List Nat)) (ao:Option Addr) (n cp:Nat) (most:Int) (vo uo:Option Addr) (vc uc:Nat) (cx cy:List Int):∀ i w w' v,dsF D X gc off N cc k B ns ao n cp most vo uo vc uc cx cy i w v→Below w.heap.size w w'→dsF D X gc off N cc k B ns ao n cp most vo uo vc uc cx cy i w' v:=by
 intro i w w' v h hb
 match i with
 | 0=>exact h
 | 1=>exact h
 | 2=>exact h
 | 3=>exact h
 | 4=>exact h
 | 5=>exact h
 | 6=>obtain⟨ro,rc,h1,h2⟩:=h;exact⟨ro,rc,h1,h2.below hb⟩
 | 7=>exact h
 | 8=>exact h
 | 9=>exact h
 | 10=>exact h
 | 11=>exact h
 | 12=>exact h
 | 13=>exact h
 | 14=>exact h
 | 15=>exact h
 | 16=>obtain⟨ro,rc,h1,h2⟩:=h;exact⟨ro,rc,h1,h2.below hb⟩
 | k+17=>trivial
theorem Zvj (w:World) (P:Nat→Prop) (p:Prd) (vs:List Value) (ls:List Prd) (lo:Option Addr) (ln lc:Nat) (most:Int) (B:Nat) (hT:Tab w B) (hp:Zai w P p vs) (hls:Zbj w P ls lo) (hln:ln=ls.length) (hl100:ln≤4) (hv:∀ x∈p::ls,Zau x=true) (hpb:∀ x∈p::ls,Zib x) (hpc:∀ x∈p::ls,Za8 x≤1000000) :
  Calls Tryz.prog 56 #[.agg vs.toArray,.slice lo ln lc,.int .i64 most] w fun e w'=>Zte w (Zdv (p::ls)) (Zb1 (Zdv (p::ls)) most (p::ls)) (Z8b (Zbc (Zdv (p::ls)) most (Zak (p::ls)) (p::ls))) e w':=by
 have PCp:=ħ hp.wide
 obtain⟨xa,xn,xc,rfl,-⟩:=hp.form
 obtain⟨pn,hpn⟩:∃ pn,(p::ls).length=pn:=⟨_,rfl⟩
 have HPN:Hid (pn=ln+1):=ħ (by rw[← hpn,hln];rfl)
 have hpl:pn≤5:=by rw[HPN.o];omega
 have hp1:1≤pn:=by rw[HPN.o];omega
 have HT:=ħ (fun W (hW:Below w.heap.size w W)=>Tab.keep hT (fun k hk=>hW.block k (Nat.lt_of_lt_of_le hk hT.size)) hW.size)
 have HNA:=ħ (fun W po pc (hW:Below w.heap.size w W) (hr:Zbj W (fun _=>True) (p::ls) po)=>Zrm W (fun _=>True) (p::ls) po pn pc B (HT.o W hW) hr hpn.symm (by omega) (by omega) hv hpb hpc)
 have hasc:=Zpj (p::ls)
 have hnb:=Zrl hv
 have hnl:(Zdv (p::ls)).length≤1000:=Nat.le_trans (Zvh hv) (by rw[hpn];omega)
 have HOP:=ħ (fun W no nc po pc (hW:Below w.heap.size w W) (hn:Zcr W no (Zdv (p::ls))) (hr:Zbj W (fun _=>True) (p::ls) po)=>Zli W (fun _=>True) (p::ls) po pn pc no (Zdv (p::ls)).length nc most (Zdv (p::ls)) B (HT.o W hW) hr hpn.symm hpb hpc (by omega) rfl hn hnb hasc hnl)
 have HSP:=ħ (fun W no (hn:Zcr W no (Zdv (p::ls))) (hz:Zb1 (Zdv (p::ls)) most (p::ls)=0)=>(⟨rfl,hn,hnb,hasc,by have:=(Zec hz).2.2.2.2;omega⟩:SpcR W (Zdv (p::ls)) no (Zdv (p::ls)).length))
 have HCE:=ħ (fun (hz:Zb1 (Zdv (p::ls)) most (p::ls)=0) W D no nc po pc ro rc (hd:DecR W (fun _=>True) D (Zdv (p::ls)) no (Zdv (p::ls)).length nc most (p::ls) po pn pc (Zak (p::ls)) ro rc)=>by
  obtain⟨h1,h2,h3,h4,h5⟩:=Zec hz
  exact Zri W (fun _=>True) D (Zdv (p::ls)) no (Zdv (p::ls)).length nc most (p::ls) po pn pc (Zak (p::ls)) ro rc hd hpn.symm (by omega) h1 h2 h3 hpc h4)
 have HLN0:=ħ (fun (hz:Zb1 (Zdv (p::ls)) most (p::ls)=0)=>(show (∀ c∈Zbc (Zdv (p::ls)) most (Zak (p::ls)) (p::ls),c.1.length=(Zdv (p::ls)).length+1∧c.2.length=pn)∧(Zbc (Zdv (p::ls)) most (Zak (p::ls)) (p::ls)).length≤256 from by
  obtain⟨h1,h2,h3,h4,h5⟩:=Zec hz
  refine⟨fun c hc=>by rw[← hpn];exact Zoe (fun k hk=>(h2 k hk).2.1) c hc,?_⟩
  unfold Zbc
  rw[List.length_mergeSort]
  exact Nat.le_trans (Zhp _ _ _ _ _) (Nat.le_trans (Nat.pow_le_pow_right (by decide) h1) (by decide))))
 have HLS:=ħ (fun W (hW:Below w.heap.size w W)=>hls.below hW)
 obtain⟨NS,hNS⟩:∃ N,Zdv (p::ls)=N:=⟨_,rfl⟩
 rw[hNS] at HNA HOP HSP HCE HLN0 ⊢
 obtain⟨EC,hEC⟩:∃ c,Zb1 NS most (p::ls)=c:=⟨_,rfl⟩
 rw[hEC] at HOP HSP HCE HLN0 ⊢
 obtain⟨CS,hCS⟩:∃ c,Zak (p::ls)=c:=⟨_,rfl⟩
 rw[hCS] at HOP HCE HLN0 ⊢
 obtain⟨CL,hCL⟩:∃ c,Zbc NS most CS (p::ls)=c:=⟨_,rfl⟩
 rw[hCL] at HCE HLN0 ⊢
 obtain⟨FR,hFR⟩:∃ c,Z8b CL=c:=⟨_,rfl⟩
 have HFR:Hid (CL.findSome? (fun x=>(CL.find? (fun y=>Zgq x.2 y.2)).map (fun y=>(x.1,y.1)))=FR):=ħ hFR
 rw[hFR]
 have HLC:=ħ hln
 have HLL:=ħ hl100
 have l128:¬ (128:Int)<(ln:Int):=by omega
 clear hT hp hls hln hl100 hv hpb hpc hasc hnb hnl hNS hEC hCS hCL hFR hpn
 have bx:=(Below.refl w.heap.size w).alloc (Nat.le_refl _) (.cells #[.int .i64 p.k,.string (Zad p.l),.string (Zad p.r),.int .i64 p.c,.slice xa xn xc] 25)
 have B1:=ħ bx
 have X1:Hid (Zah (w.alloc (.cells #[.int .i64 p.k,.string (Zad p.l),.string (Zad p.r),.int .i64 p.c,.slice xa xn xc] 25)) w.heap.size 25 [.int .i64 p.k,.string (Zad p.l),.string (Zad p.r),.int .i64 p.c,.slice xa xn xc]):=ħ (heap_alloc_new w _)
 clear bx
 generalize p.k=q0 at *
 generalize Zad p.l=q1 at *
 generalize Zad p.r=q2 at *
 generalize p.c=q3 at *
 go_enter Tryz.func56,Tryz.ntmps56
 go_upto_region 3 with (fail)
 generalize w.alloc (.cells #[.int .i64 q0,.string q1,.string q2,.int .i64 q3,.slice xa xn xc] 25)=w1 at *
 have by1:=(Below.refl w1.heap.size w1).alloc (Nat.le_refl _) (.cells #[.int .i64 q0,.string q1,.string q2,.int .i64 q3,.slice xa xn xc] 25)
 have Y2:Hid (Zah (w1.alloc (.cells #[.int .i64 q0,.string q1,.string q2,.int .i64 q3,.slice xa xn xc] 25)) w1.heap.size 25 [.int .i64 q0,.string q1,.string q2,.int .i64 q3,.slice xa xn xc]):=ħ (heap_alloc_new w1 _)
 have B2:=ħ (B1.o.trans (by1.mono B1.o.size))
 clear by1
 go_wp2_with (first | (refine wpList_load_row rfl 25 (.tmp 3) rfl w.heap.size ?x1 25 #[.int .i64 q0,.string q1,.string q2,.int .i64 q3,.slice xa xn xc] (0,0) _ X1.o Tryz.underlying25 rfl (Zae _ rfl) ?_;(case x1=>rfl)) | (at_builtin;refine Z0j _ rfl (.tmp 20) (.tmp 21) rfl p _ P ls w1.heap.size ln lc lo rfl rfl (PCp.o.below B2.o) Y2.o (HLS.o _ B2.o) HLC.o (by have:=HLL.o;omega) ?_;intro g0 off0 cap0 w3 hpr b3;have HPR:=ħ hpr;have B3:=ħ (B2.o.trans (b3.mono B2.o.size));clear hpr b3))
 clear Y2 X1 PCp
 have HNQ:=ħ (HNA.o w3 _ cap0 B3.o HPR.o)
 rw[HPN.o,Nat.add_comm ln 1] at HNQ
 refine HNQ.o.mono ?_
 rintro e w4 ⟨no,nc,rfl,ho4,b4⟩
 have B4:=ħ (B3.o.trans (b4.mono B3.o.size))
 have HNR:=ħ (ho4.strsR rfl)
 have HPR4:=ħ (HPR.o.below b4)
 have HOQ:=ħ (HOP.o w4 no nc _ cap0 B4.o HNR.o HPR4.o)
 rw[HPN.o,Nat.add_comm ln 1] at HOQ
 clear ho4 b4 HNQ HNA HOP HPR
 go_wp2_with fail
 refine HOQ.o.mono ?_
 intro e w5 hq
 rcases hq.open with ⟨hc,rfl,b5⟩ | ⟨hc,D,ro,rc,rfl,hD,hpv,hok,b5⟩
 ·have HC:=ħ hc
  have HC2:¬ (EC=0):=hc
  have B5:=ħ (B4.o.trans (b5.mono B4.o.size))
  clear hq hc b5 HOQ
  go_wp2
  ((try simp only[Exit.inBlock,Exit.then]);refine bodyPost_ret (Zg9 rfl _ _ _) rfl ?_)
  exact Zte.bad HC.o B5.o
 ·have B5:=ħ (B4.o.trans (b5.mono B4.o.size))
  have HDR:Hid (DecR w5 (fun _=>True) D NS no NS.length nc most (p::ls) (some ⟨g0,off0,none⟩) pn cap0 CS ro rc):=ħ ⟨by rw[HPN.o,Nat.add_comm ln 1];exact hpv,HSP.o w5 no (HNR.o.below b5) hc,HPR4.o.below b5,hok.flatR Zpi rfl⟩
  have HCQ:=ħ (HCE.o hc w5 D no nc _ cap0 ro rc HDR.o)
  have HLN:=ħ (HLN0.o hc)
  have HC:=ħ hc
  clear hq hc b5 hD hpv hok HOQ HCE HLN0 HSP HPR4 HNR
  go_wp2_with fail
  refine HCQ.o.mono ?_
  rintro e w6 ⟨r1,cc,vss,rfl,hrm,b6⟩
  have B6:=ħ (B5.o.trans (b6.mono B5.o.size))
  have HRM:=ħ hrm
  have HDR6:=ħ (HDR.o.step b6)
  clear hrm b6 HCQ HDR
  obtain⟨N,hN⟩:∃ N,CL.length=N:=⟨_,rfl⟩
  have HN:=ħ hN
  have hN2:N≤256:=by rw[← hN];exact HLN.o.2
  rw[hN] at HRM ⊢
  clear hN
  go_wp2_with fail
  go_loopw [38] (fun iv wr=>∃ i:Nat,iv = .int .i64 i∧i≤N∧Hid ((CL.take i).findSome? (fun x=>(CL.find? (fun y=>Zgq x.2 y.2)).map (fun y=>(x.1,y.1)))=none)∧Hid (Below w6.heap.size w6 wr)) (fun iv _=>(N-intOf iv).toNat)
  case atStart=>exact⟨0,rfl,by omega,ħ rfl,ħ (Below.refl _ _)⟩
  case round =>
   obtain⟨i,rfl,hi,hno,hw⟩:=hrel
   have e3:IntKind.i64.wrap ((i:Int)+1)=((i+1:Nat):Int):=IntWalk.i64_in _ (by omega)
   by_cases hil:i<N
   ·have ii:(i:Int)<N:=by omega
    obtain⟨c,hc⟩:∃ c,CL[i]?=some c:=⟨_,List.getElem?_eq_getElem (by rw[HN.o];exact hil)⟩
    have HCI:=ħ hc
    have HRW:=ħ (HRM.o.step Zjw.keeps hw.o)
    obtain⟨gc,off,vs,hao,hgl,hlo,hvs,hvl,hrd,hel⟩:=HRW.o.at i c hc
    obtain⟨vo,vc,bo,bc,rfl,hv1,hv2,hbc⟩:=hel.open
    have HLC2:=ħ (HLN.o.1 c (List.mem_of_getElem? hc))
    rw[HLC2.o.2] at hbc
    rw[HLC2.o.1,HLC2.o.2] at hrd
    have s0:=hrd 0 _ rfl
    have s1:=hrd 1 _ rfl
    rw[Nat.add_zero] at s0
    have bq:=(Below.refl wr.heap.size wr).alloc (Nat.le_refl _) (.cells #[.slice vo (NS.length+1) vc,.slice bo pn bc] 157)
    have Y1:Hid (Zah (wr.alloc (.cells #[.slice vo (NS.length+1) vc,.slice bo pn bc] 157)) wr.heap.size 157 [.slice vo (NS.length+1) vc,.slice bo pn bc]):=ħ (heap_alloc_new _ _)
    have HV3:=ħ (hv1.below bq)
    have HV4:=ħ (hv2.below bq)
    have HBC:=ħ hbc
    have HR1:=ħ (HRW.o.step Zjw.keeps bq)
    have HW1:=ħ (hw.o.trans (bq.mono hw.o.size))
    clear hv1 hv2 hbc hrd hel hc bq hvs hvl hlo hgl hw HRW
    have HAO:=ħ hao
    subst hao
    go_upto_region 11 with (fail)
    clear s0 s1
    generalize wr.alloc (.cells #[.slice vo (NS.length+1) vc,.slice bo pn bc] 157)=wx at *
    generalize wr.heap.size=X at *
    have eg:∀ args w,(callFunc 125 args).run Tryz.prog w = .ok (.enter 125 args) w:=enters_of Tryz.func125 (by kernel_rfl) rfl
    have HIX:=ħ (Z36 wx _ _ _ (some ⟨gc,off,none⟩) N cc CL vss HR1.o (by omega) 125 #[.pointer (some ⟨X,0,none⟩)] (fun y=>Zgq c.2 y.2) eg (fun W y x1 bo2 bc2 hy hW hx1 hf2 hb2=>by
     have hy2:=(HLN.o.1 y hy).2
     rw[hy2] at hb2 ⊢
     exact Zz9 W X (.slice vo (NS.length+1) vc) x1 bo bo2 bc bc2 pn c.2 y.2 (Y1.o.step hW) hx1 (HV4.o.below hW) hf2 HLC2.o.2.symm hy2.symm (by omega) (by omega) HBC.o hb2))
    go_wp2_with fail
    refine HIX.o.mono ?_
    rintro e w7 ⟨rfl,b7⟩
    have HW7:=ħ (HW1.o.trans (b7.mono HW1.o.size))
    have Y7:=ħ (Y1.o.step b7)
    have HV7:=ħ (HV3.o.below b7)
    have HR7:=ħ (HR1.o.step Zjw.keeps b7)
    clear HIX b7 HW1 Y1 HV3 HV4 HR1
    cases hfi:CL.findIdx? (fun y=>Zgq c.2 y.2) with
    | none =>
     have hix:Zre (fun y:Cel=>Zgq c.2 y.2) CL = -1:=by unfold Zre;rw[hfi]
     have HNO:Hid ((CL.take (i+1)).findSome? (fun x=>(CL.find? (fun y=>Zgq x.2 y.2)).map (fun y=>(x.1,y.1)))=none):=ħ (by
      rw[List.take_add_one,HCI.o,List.findSome?_append,hno.o]
      simp[Z0k hfi])
     rw[hix]
     clear hfi hix
     go_wp2_with fail
     go_roundw
     case rel=>exact⟨i+1,by go_num,by omega,HNO,HW7⟩
     case measure=>simp only[intOf];omega
    | some k =>
     have hix:Zre (fun y:Cel=>Zgq c.2 y.2) CL=(k:Int):=by unfold Zre;rw[hfi]
     obtain⟨y,hyk,hyf⟩:=Z37 hfi
     have HYE:Hid (FR=some (c.1,y.1)):=ħ (by
      rw[← HFR.o]
      have h2:i<CL.length:=by rw[HN.o];exact hil
      have h3:CL[i]=c:=by have:=HCI.o;rw[List.getElem?_eq_getElem h2] at this;exact Option.some.inj this
      have h1:CL=CL.take i++(c::CL.drop (i+1)):=by rw[← h3,← List.drop_eq_getElem_cons h2,List.take_append_drop]
      have h5:∀ F:Cel→Option (List Int×List Int),(CL.take i).findSome? F=none→F c=some (c.1,y.1)→CL.findSome? F=some (c.1,y.1):=fun F hn hF=>by
       rw[h1,List.findSome?_append,hn,List.findSome?_cons,hF];rfl
      exact h5 _ hno.o (by rw[hyf];rfl))
     have hkN:k<N:=by rw[← HN.o];exact (List.getElem?_eq_some_iff.1 hyk).1
     have kk:(0:Int)≤(k:Int):=by omega
     rw[hix]
     have HUC:Hid (∃ uo uc,Za7 Zcc w7 uo y.1∧y.1.length=NS.length+1∧∀ W,Below w7.heap.size w7 W→W.cell? ⟨gc,off+k*2,none⟩=some (.slice uo (NS.length+1) uc)):=ħ (by
      obtain⟨gc',off',vs',hao',hgl',-,-,-,hrd',hel'⟩:=HR7.o.at k y hyk
      cases hao'
      obtain⟨uo,uc,bo',bc',rfl,hu1,-,-⟩:=hel'.open
      have hyl:=(HLN.o.1 y (List.mem_of_getElem? hyk)).1
      refine⟨uo,uc,hu1,hyl,fun W hW=>?_⟩
      have:=hrd'.of_block (hW.block gc hgl') 0 _ rfl
      rw[hyl] at this
      exact this)
     obtain⟨uo,uc,huy,huyl,huc⟩:=HUC.o
     have HUD:=ħ huc
     have HVY:=ħ huy
     have HVX:=HV7
     have XC:=Y7
     have D1:=ħ (HDR6.o.step HW7.o)
     have HL2:Hid (c.1.length=NS.length+1∧y.1.length=NS.length+1):=ħ ⟨HLC2.o.1,huyl⟩
     have B7:=ħ (B6.o.trans (HW7.o.mono B6.o.size))
     have HNL:Hid (∀ z,z=c.1∨z=y.1→z.length=NS.length+1):=ħ (fun z hz=>by cases hz with | inl h=>rw[h];exact HL2.o.1 | inr h=>rw[h];exact HL2.o.2)
     clear hfi hix hyk hyf huy huyl huc HV7 Y7 HR7 HRM HDR6 HLC2 HW7 hno
     generalize hcx:c.1=cx at *
     generalize hcy:y.1=cy at *
     clear hcx hcy
     have HLN:=HNL
     go_upto_region 13 with (fail)
     clear kk
     refine Zc4 17 3 (dsF D X gc off N cc k w7.heap.size NS no NS.length nc most vo uo vc uc cx cy) (by kernel_rfl) rfl (Z38 D X gc off N cc k w7.heap.size NS no NS.length nc most vo uo vc uc cx cy) (Ze0 (by kernel_rfl)) (Zh0 (by kernel_rfl)) (Zdi (by kernel_rfl)) (Zgz (by kernel_rfl)) ?hs ?he
     case hs =>
      intro i o hin hi listed a' w' H hsn hl2
      have hl3:=Za9 hl2
      have hb:=ħ H.below
      have s11:=hsn 11 (Zbh (by kernel_rfl))
      have s12:=hsn 12 (Zbh (by kernel_rfl))
      have s14:=hsn 14 (Zbh (by kernel_rfl))
      have s15:=hsn 15 (Zbh (by kernel_rfl))
      have hdn:=H.done
      have hdf:=H.defers
      have hts:=H.tsize
      clear hl2 H hsn
      obtain⟨t',df⟩:=a'
      obtain⟨f',rfl⟩:=Z84 t' hts
      have hdf':df=[]:=hdf
      subst hdf'
      have gs11:f' 11 = .pointer (some ⟨D,0,none⟩):=s11
      have gs12:f' 12 = .slice (some ⟨gc,off,none⟩) N cc:=s12
      have gs14:f' 14 = .pointer (some ⟨X,0,none⟩):=s14
      have gs15:f' 15 = .int .i64 (k:Int):=s15
      clear s11 s12 s14 s15
      clear hdf hts
      have hcases:i=0∨i=1∨i=2∨i=3∨i=4∨i=5∨i=6∨i=7∨i=8∨i=9∨i=10∨i=11∨i=12∨i=13∨i=14∨i=15∨i=16:=Zod i hin
      clear hin
      rcases hcases with rfl | rfl | rfl | rfl | rfl | rfl | rfl | rfl | rfl | rfl | rfl | rfl | rfl | rfl | rfl | rfl | rfl
      ·obtain rfl:=Option.some.inj hi
       clear hdn hl3
       rw[gs11]
       clear gs11 gs12 gs14 gs15
       refine Zac rfl ?_
       go_wp2_with fail
       exact Zaa ⟨_,rfl,Below.refl _ _,rfl⟩
      ·obtain rfl:=Option.some.inj hi
       have dv0:f' 47 = .pointer (some ⟨D,0,none⟩):=hdn 0 _ 47 rfl (hl3 0 (by rfl)) rfl
       clear hdn hl3
       rw[dv0]
       clear dv0 gs11 gs12 gs14 gs15
       refine Zac rfl ?_
       go_wp2_with fail
       exact Zaa ⟨_,rfl,Below.refl _ _,rfl⟩
      ·obtain rfl:=Option.some.inj hi
       have dv1:f' 48 = .pointer (some ⟨D,0,none⟩):=hdn 1 _ 48 rfl (hl3 1 (by rfl)) rfl
       clear hdn hl3
       rw[dv1]
       clear dv1 gs11 gs12 gs14 gs15
       refine Zac rfl ?_
       go_wp2_with fail
       exact Zaa ⟨_,rfl,Below.refl _ _,rfl⟩
      ·obtain rfl:=Option.some.inj hi
       have dv2:f' 49 = .pointer (some ⟨D,0,none⟩):=hdn 2 _ 49 rfl (hl3 2 (by rfl)) rfl
       clear hdn hl3
       rw[dv2]
       clear dv2 gs11 gs12 gs14 gs15
       have d0:=Zah.cell (D1.o.step hb.o).prob 0 _ rfl
       have d1:=Zah.cell (D1.o.step hb.o).prob 1 _ rfl
       refine Zac rfl ?_
       go_wp2_with fail
       exact Zaa ⟨_,rfl,Below.refl _ _,rfl⟩
      ·obtain rfl:=Option.some.inj hi
       clear hdn hl3
       rw[gs14]
       clear gs11 gs12 gs14 gs15
       refine Zac rfl ?_
       go_wp2_with fail
       exact Zaa ⟨_,rfl,Below.refl _ _,rfl⟩
      ·obtain rfl:=Option.some.inj hi
       have dv4:f' 51 = .pointer (some ⟨X,0,none⟩):=hdn 4 _ 51 rfl (hl3 4 (by rfl)) rfl
       clear hdn hl3
       rw[dv4]
       clear dv4 gs11 gs12 gs14 gs15
       have x0:=(XC.o.step hb.o).cell 0 _ rfl
       refine Zac rfl ?_
       go_wp2_with fail
       exact Zaa ⟨_,rfl,Below.refl _ _,rfl⟩
      ·obtain rfl:=Option.some.inj hi
       have dv3:f' 50 = .agg #[.slice no NS.length nc,.int .i64 most]:=hdn 3 _ 50 rfl (hl3 3 (by rfl)) rfl
       have dv5:f' 52 = .slice vo (NS.length+1) vc:=hdn 5 _ 52 rfl (hl3 5 (by rfl)) rfl
       clear hdn hl3
       rw[dv3,dv5]
       clear dv3 dv5 gs11 gs12 gs14 gs15
       refine Zac rfl ?_
       go_wp2_with fail
       refine (Zmi w' no NS.length nc most NS vo (NS.length+1) vc cx rfl (D1.o.step hb.o).spc.strs (by have:=(D1.o.step hb.o).spc.big;omega) (HVX.o.below hb.o) (HLN.o cx (.inl rfl)).symm (HLN.o cx (.inl rfl))).mono ?_
       rintro e w4 ⟨⟨r5,c5,rfl,ho5⟩,b5⟩
       have HB4:=ħ b5
       have HO4:=ħ (ho5.lower hb.o.size)
       clear b5 ho5
       go_wp2_with fail
       exact Zaa ⟨_,rfl,HB4.o,r5,c5,rfl,HO4.o⟩
      ·obtain rfl:=Option.some.inj hi
       clear hdn hl3
       rw[gs11]
       clear gs11 gs12 gs14 gs15
       refine Zac rfl ?_
       go_wp2_with fail
       exact Zaa ⟨_,rfl,Below.refl _ _,rfl⟩
      ·obtain rfl:=Option.some.inj hi
       have dv7:f' 54 = .pointer (some ⟨D,0,none⟩):=hdn 7 _ 54 rfl (hl3 7 (by rfl)) rfl
       clear hdn hl3
       rw[dv7]
       clear dv7 gs11 gs12 gs14 gs15
       refine Zac rfl ?_
       go_wp2_with fail
       exact Zaa ⟨_,rfl,Below.refl _ _,rfl⟩
      ·obtain rfl:=Option.some.inj hi
       have dv8:f' 55 = .pointer (some ⟨D,0,none⟩):=hdn 8 _ 55 rfl (hl3 8 (by rfl)) rfl
       clear hdn hl3
       rw[dv8]
       clear dv8 gs11 gs12 gs14 gs15
       refine Zac rfl ?_
       go_wp2_with fail
       exact Zaa ⟨_,rfl,Below.refl _ _,rfl⟩
      ·obtain rfl:=Option.some.inj hi
       have dv9:f' 56 = .pointer (some ⟨D,0,none⟩):=hdn 9 _ 56 rfl (hl3 9 (by rfl)) rfl
       clear hdn hl3
       rw[dv9]
       clear dv9 gs11 gs12 gs14 gs15
       have d0:=Zah.cell (D1.o.step hb.o).prob 0 _ rfl
       have d1:=Zah.cell (D1.o.step hb.o).prob 1 _ rfl
       refine Zac rfl ?_
       go_wp2_with fail
       exact Zaa ⟨_,rfl,Below.refl _ _,rfl⟩
      ·obtain rfl:=Option.some.inj hi
       clear hdn hl3
       rw[gs12]
       clear gs11 gs12 gs14 gs15
       refine Zac rfl ?_
       go_wp2_with fail
       exact Zaa ⟨_,rfl,Below.refl _ _,rfl⟩
      ·obtain rfl:=Option.some.inj hi
       clear hdn hl3
       rw[gs15]
       clear gs11 gs12 gs14 gs15
       refine Zac rfl ?_
       go_wp2_with fail
       exact Zaa ⟨_,rfl,Below.refl _ _,rfl⟩
      ·obtain rfl:=Option.some.inj hi
       have dv11:f' 58 = .slice (some ⟨gc,off,none⟩) N cc:=hdn 11 _ 58 rfl (hl3 11 (by rfl)) rfl
       have dv12:f' 59 = .int .i64 (k:Int):=hdn 12 _ 59 rfl (hl3 12 (by rfl)) rfl
       clear hdn hl3
       rw[dv11,dv12]
       clear dv11 dv12 gs11 gs12 gs14 gs15
       have kk:(k:Int)<N:=by omega
       refine Zac rfl ?_
       go_wp2_with fail
       exact Zaa ⟨_,rfl,Below.refl _ _,rfl⟩
      ·obtain rfl:=Option.some.inj hi
       have dv13:f' 60 = .pointer (some ⟨gc,off+k*2,none⟩):=hdn 13 _ 60 rfl (hl3 13 (by rfl)) rfl
       clear hdn hl3
       rw[dv13]
       clear dv13 gs11 gs12 gs14 gs15
       refine Zac rfl ?_
       go_wp2_with fail
       exact Zaa ⟨_,rfl,Below.refl _ _,rfl⟩
      ·obtain rfl:=Option.some.inj hi
       have dv14:f' 61 = .pointer (some ⟨gc,off+k*2,none⟩):=hdn 14 _ 61 rfl (hl3 14 (by rfl)) rfl
       clear hdn hl3
       rw[dv14]
       clear dv14 gs11 gs12 gs14 gs15
       have x0:=HUD.o w' hb.o
       refine Zac rfl ?_
       go_wp2_with fail
       exact Zaa ⟨_,rfl,Below.refl _ _,rfl⟩
      ·obtain rfl:=Option.some.inj hi
       have dv10:f' 57 = .agg #[.slice no NS.length nc,.int .i64 most]:=hdn 10 _ 57 rfl (hl3 10 (by rfl)) rfl
       have dv15:f' 62 = .slice uo (NS.length+1) uc:=hdn 15 _ 62 rfl (hl3 15 (by rfl)) rfl
       clear hdn hl3
       rw[dv10,dv15]
       clear dv10 dv15 gs11 gs12 gs14 gs15
       refine Zac rfl ?_
       go_wp2_with fail
       refine (Zmi w' no NS.length nc most NS uo (NS.length+1) uc cy rfl (D1.o.step hb.o).spc.strs (by have:=(D1.o.step hb.o).spc.big;omega) (HVY.o.below hb.o) (HLN.o cy (.inr rfl)).symm (HLN.o cy (.inr rfl))).mono ?_
       rintro e w4 ⟨⟨r5,c5,rfl,ho5⟩,b5⟩
       have HB4:=ħ b5
       have HO4:=ħ (ho5.lower hb.o.size)
       clear b5 ho5
       go_wp2_with fail
       exact Zaa ⟨_,rfl,HB4.o,r5,c5,rfl,HO4.o⟩
     case he =>
      intro listed a' w4 H hsn hall
      have hd6:dsF D X gc off N cc k w7.heap.size NS no NS.length nc most vo uo vc uc cx cy 6 w4 (a'.tmps.getD 53 undef):=H.done 6 _ 53 rfl (hall 6 (by decide)) rfl
      have hd16:dsF D X gc off N cc k w7.heap.size NS no NS.length nc most vo uo vc uc cx cy 16 w4 (a'.tmps.getD 63 undef):=H.done 16 _ 63 rfl (hall 16 (by decide)) rfl
      have hb4:=ħ H.below
      have hact:=H.actN hsn [47,48,49,50,51,52,53,54,55,56,57,58,59,60,61,62,63] (Zly (by kernel_rfl))
      clear H hall hsn
      simp only[List.foldl_cons,List.foldl_nil] at hact
      generalize a'.tmps.getD 47 undef=z47 at *
      generalize a'.tmps.getD 48 undef=z48 at *
      generalize a'.tmps.getD 49 undef=z49 at *
      generalize a'.tmps.getD 50 undef=z50 at *
      generalize a'.tmps.getD 51 undef=z51 at *
      generalize a'.tmps.getD 52 undef=z52 at *
      generalize a'.tmps.getD 53 undef=z53 at *
      generalize a'.tmps.getD 54 undef=z54 at *
      generalize a'.tmps.getD 55 undef=z55 at *
      generalize a'.tmps.getD 56 undef=z56 at *
      generalize a'.tmps.getD 57 undef=z57 at *
      generalize a'.tmps.getD 58 undef=z58 at *
      generalize a'.tmps.getD 59 undef=z59 at *
      generalize a'.tmps.getD 60 undef=z60 at *
      generalize a'.tmps.getD 61 undef=z61 at *
      generalize a'.tmps.getD 62 undef=z62 at *
      generalize a'.tmps.getD 63 undef=z63 at *
      subst hact
      obtain⟨za,zb,e6,hRA⟩:=hd6
      subst e6
      obtain⟨zc,zd,e16,hRC⟩:=hd16
      subst e16
      have HRA:=ħ hRA
      have HRC:=ħ hRC
      have B8:=ħ (B7.o.trans (hb4.o.mono B7.o.size))
      clear hRA hRC
      refine Zbn (Zac rfl ?_)
      go_wp2_with fail
      refine Zaa (Zbn (Zac rfl ?_))
      go_wp2_with fail
      refine Zaa (Zbn (Zac rfl ?_))
      go_wp2_with fail
      refine Zaa (Zbn (Zac rfl ?_))
      go_wp2_with fail
      refine Zaa (Zd1 ?_)
      go_wp2
      ((try simp only[Exit.inBlock,Exit.then]);refine bodyPost_ret (Zg9 rfl _ _ _) rfl ?_)
      exact Zte.yes HC.o HYE.o ⟨za,zb,rfl,HRA.o.lower B7.o.size⟩ ⟨zc,zd,rfl,HRC.o.lower B7.o.size⟩ B8.o
   ·have ii:¬ ((i:Int)<N):=by omega
    have HNO:Hid (FR=none):=ħ (by
     rw[← HFR.o]
     have:=hno.o
     rw[List.take_of_length_le (by rw[HN.o];omega)] at this
     exact this)
    have B9:=ħ (B6.o.trans (hw.o.mono B6.o.size))
    go_wp2
    ((try simp only[Exit.inBlock,Exit.then]);refine bodyPost_ret (Zg9 rfl _ _ _) rfl ?_)
    exact Zte.no HC.o HNO.o B9.o
end
section
open Go.RowKit Go.Sort Go.Maps
def Z5x (ns:List (List Nat)) (EC:Int) (CS:List Ky) (ps:List Prd) (most:Int) (W:World) (x:Value):Prop :=
 (EC≠0∧x = .pointer none)∨(EC=0∧∃ D no nc po pn pc ro rc,x = .pointer (some ⟨D,0,none⟩)∧pn=ps.length∧DecR W (fun _=>True) D ns no ns.length nc most ps po pn pc CS ro rc)
theorem Z5x.step {ns:List (List Nat)} {EC:Int} {CS:List Ky} {ps:List Prd} {most:Int} {W W':World} {x:Value} (h:Z5x ns EC CS ps most W x) (hb:Below W.heap.size W W'):Z5x ns EC CS ps most W' x:=by
 rcases h with h | ⟨h0,D,no,nc,po,pn,pc,ro,rc,h1,h2,h3⟩
 ·exact .inl h
 ·exact .inr ⟨h0,D,no,nc,po,pn,pc,ro,rc,h1,h2,h3.step hb⟩
theorem Z63 {w w':World} {ns:List (List Nat)} {most:Int} {ps:List Prd} {no:Option Addr} {nc:Nat} {po:Option Addr} {pn pc:Nat} {e:Ending} (hpn:pn=ps.length) (hs:SpcR w ns no ns.length∨Zb1 ns most ps≠0) (hps:Zbj w (fun _=>True) ps po) (h:Zi0 w (Zb1 ns most ps) (Zak ps) no ns.length nc most po pn pc e w'):∃ x,e = .returned (.tuple #[x,.int .i64 (Zb1 ns most ps)])∧Z5x ns (Zb1 ns most ps) (Zak ps) ps most w' x∧Below w.heap.size w w':=by
 rcases h.open with ⟨hc,rfl,b3⟩ | ⟨hc,D,ro,rc,rfl,hD,hpv,hok,b3⟩
 ·exact⟨_,rfl,.inl ⟨hc,rfl⟩,b3⟩
 ·rcases hs with hs | hs
  ·refine⟨_,by rw[hc],.inr ⟨hc,D,no,nc,po,pn,pc,ro,rc,rfl,hpn,hpv,hs.step b3,hps.below b3,hok.flatR Zpi rfl⟩,b3⟩
  ·exact absurd hc hs
theorem Z8c (t:Array Value) (h:t.size=39):∃ f:Nat→Value,t=#[f 0,f 1,f 2,f 3,f 4,f 5,f 6,f 7,f 8,f 9,f 10,f 11,f 12,f 13,f 14,f 15,f 16,f 17,f 18,f 19,f 20,f 21,f 22,f 23,f 24,f 25,f 26,f 27,f 28,f 29,f 30,f 31,f 32,f 33,f 34,f 35,f 36,f 37,f 38]:=by
 obtain⟨l⟩:=t
 have hl:l.length=39:=h
 have e:l=(List.range 39).map (fun i=>l.getD i undef):=by
  apply List.ext_getElem
  ·simp[hl]
  ·intro i h1 h2
   simp[List.getD,h1]
 exact⟨fun i=>l.getD i undef,congrArg List.toArray e⟩
theorem Zoh (i:Nat) (h:i<14):i=0∨i=1∨i=2∨i=3∨i=4∨i=5∨i=6∨i=7∨i=8∨i=9∨i=10∨i=11∨i=12∨i=13:=by omega
def rfF (NS:List (List Nat)) (EC:Int) (CS:List Ky) (ps:List Prd) (most:Int) (va vb:Value) (i:Nat) (W:World) (v:Value):Prop:=match i with
 | 0=>v=va
 | 1=>v=vb
 | 2=>∃ A,v = .slice (some ⟨A,0,none⟩) 2 2∧Zbj W (fun _=>True) ps (some ⟨A,0,none⟩)
 | 3=>∃ ro rc,v = .slice ro NS.length rc∧Zcr W ro NS
 | 4=>v = .int .i64 most
 | 5=>v=va
 | 6=>v=vb
 | 7=>∃ A,v = .slice (some ⟨A,0,none⟩) 2 2∧Zbj W (fun _=>True) ps (some ⟨A,0,none⟩)
 | 8=>∃ x,v = .tuple #[x,.int .i64 EC]∧Z5x NS EC CS ps most W x
 | 9=>∃ x,v = .tuple #[x,.int .i64 EC]∧Z5x NS EC CS ps most W x
 | 10=>∃ x,v=x∧Z5x NS EC CS ps most W x
 | 11=>v = .int .i64 EC
 | 12=>∃ x,v=x∧Z5x NS EC CS ps most W x
 | 13=>v = .int .i64 EC
 | _=>True
theorem Z39 (NS:List (List Nat)) (EC:Int) (CS:List Ky) (ps:List Prd) (most:Int) (va vb:Value):∀ i w w' v,rfF NS EC CS ps most va vb i w v→Below w.heap.size w w'→rfF NS EC CS ps most va vb i w' v:=by
 intro i w w' v h hb
 match i with
 | 0=>exact h
 | 1=>exact h
 | 2=>obtain⟨A,h1,h2⟩:=h;exact⟨A,h1,h2.below hb⟩
 | 3=>obtain⟨ro,rc,h1,h2⟩:=h;exact⟨ro,rc,h1,h2.below hb⟩
 | 4=>exact h
 | 5=>exact h
 | 6=>exact h
 | 7=>obtain⟨A,h1,h2⟩:=h;exact⟨A,h1,h2.below hb⟩
 | 8=>obtain⟨x,h1,h2⟩:=h;exact⟨x,h1,h2.step hb⟩
 | 9=>obtain⟨x,h1,h2⟩:=h;exact⟨x,h1,h2.step hb⟩
 | 10=>obtain⟨x,h1,h2⟩:=h;exact⟨x,h1,h2.step hb⟩
 | 11=>exact h
 | 12=>obtain⟨x,h1,h2⟩:=h;exact⟨x,h1,h2.step hb⟩
 | 13=>exact h
 | k+14=>trivial
theorem Zwv (w:World) (P:Nat→Prop) (p q:Prd) (vs us:List Value) (most:Int) (B:Nat) (hT:Tab w B) (hp:Zai w P p vs) (hq:Zai w P q us) (hv:Zau p=true∧Zau q=true) (hpb:Zib p∧Zib q) (hpc:Za8 p≤1000000∧Za8 q≤1000000) (fg:Nat) (f:List Bool→Bool) (hf:IsT fg f 2) :
  Calls Tryz.prog 127 #[.agg vs.toArray,.agg us.toArray,.int .i64 most,.func (.func fg) #[] #[]] w fun e w'=>Zrj w (Zdv [p,q]) (Zb1 (Zdv [p,q]) most [p,q]) (Zf9 (Zdv [p,q]) most (Zak [p,q]) [p,q] f) (!(Zf9 (Zdv [p,q]) most (Zak [p,q]) [p,q] f).isSome) e w':=by
 have hall:∀ {S:Prd→Prop},S p→S q→∀ x∈[p,q],S x:=fun {S} h1 h2 x hx=>by
  rcases List.mem_cons.1 hx with rfl | hx
  ·exact h1
  ·rw[List.mem_singleton.1 hx];exact h2
 have PCp:=ħ hp.wide
 have PCq:=ħ hq.wide
 obtain⟨xa,xn,xc,rfl,-⟩:=hp.form
 obtain⟨ya,yn,yc,rfl,-⟩:=hq.form
 have HT:=ħ (fun W (hW:Below w.heap.size w W)=>Tab.keep hT (fun k hk=>hW.block k (Nat.lt_of_lt_of_le hk hT.size)) hW.size)
 have hvA:=hall (S:=fun x=>Zau x=true) hv.1 hv.2
 have hbA:=hall (S:=Zib) hpb.1 hpb.2
 have hcA:=hall (S:=fun x=>Za8 x≤1000000) hpc.1 hpc.2
 have HNA:=ħ (fun W po (hW:Below w.heap.size w W) (hr:Zbj W (fun _=>True) [p,q] po)=>Zrm W (fun _=>True) [p,q] po 2 2 B (HT.o W hW) hr rfl (by omega) (by omega) hvA hbA hcA)
 have hasc:=Zpj [p,q]
 have hnb:=Zrl hvA
 have hnl:(Zdv [p,q]).length≤400:=Zvh hvA
 have HOP:=ħ (fun W no nc po (hW:Below w.heap.size w W) (hn:Zcr W no (Zdv [p,q])) (hr:Zbj W (fun _=>True) [p,q] po)=>(Zli W (fun _=>True) [p,q] po 2 2 no (Zdv [p,q]).length nc most (Zdv [p,q]) B (HT.o W hW) hr rfl hbA hcA (by omega) rfl hn hnb hasc (by omega)).mono (fun e w' hqq=>Z63 (w:=W) rfl (by
  by_cases hz:Zb1 (Zdv [p,q]) most [p,q]=0
  ·exact .inl ⟨rfl,hn,hnb,hasc,by have:=(Zec hz).2.2.2.2;omega⟩
  ·exact .inr hz) hr hqq))
 have HFI:=ħ (fun (hz:Zb1 (Zdv [p,q]) most [p,q]=0) W D no nc po pn pc ro rc (hpn:pn=2) (hd:DecR W (fun _=>True) D (Zdv [p,q]) no (Zdv [p,q]).length nc most [p,q] po pn pc (Zak [p,q]) ro rc)=>by
  obtain⟨h1,h2,h3,h4,h5⟩:=Zec hz
  exact Zve W (fun _=>True) D (Zdv [p,q]) no (Zdv [p,q]).length nc most [p,q] po pn pc (Zak [p,q]) ro rc hd hpn (by omega) h1 h2 h3 hcA h4 fg f (by rw[hpn];exact hf))
 obtain⟨NS,hNS⟩:∃ N,Zdv [p,q]=N:=⟨_,rfl⟩
 rw[hNS] at HNA HOP HFI ⊢
 obtain⟨EC,hEC⟩:∃ c,Zb1 NS most [p,q]=c:=⟨_,rfl⟩
 rw[hEC] at HOP HFI ⊢
 obtain⟨CS,hCS⟩:∃ c,Zak [p,q]=c:=⟨_,rfl⟩
 rw[hCS] at HOP HFI ⊢
 generalize Zf9 NS most CS [p,q] f=FR at *
 clear hT hp hq hv hpb hpc hf hall hvA hbA hcA hasc hnb hnl hNS hEC hCS
 have bx:=(Below.refl w.heap.size w).alloc (Nat.le_refl _) (.cells #[.int .i64 p.k,.string (Zad p.l),.string (Zad p.r),.int .i64 p.c,.slice xa xn xc] 25)
 have bx2:=(Below.refl (w.alloc (.cells #[.int .i64 p.k,.string (Zad p.l),.string (Zad p.r),.int .i64 p.c,.slice xa xn xc] 25)).heap.size (w.alloc (.cells #[.int .i64 p.k,.string (Zad p.l),.string (Zad p.r),.int .i64 p.c,.slice xa xn xc] 25))).alloc (Nat.le_refl _) (.cells #[.int .i64 q.k,.string (Zad q.l),.string (Zad q.r),.int .i64 q.c,.slice ya yn yc] 25)
 have B1:=ħ (bx.trans (bx2.mono bx.size))
 have X1:Hid (Zah ((w.alloc (.cells #[.int .i64 p.k,.string (Zad p.l),.string (Zad p.r),.int .i64 p.c,.slice xa xn xc] 25)).alloc (.cells #[.int .i64 q.k,.string (Zad q.l),.string (Zad q.r),.int .i64 q.c,.slice ya yn yc] 25)) w.heap.size 25 [.int .i64 p.k,.string (Zad p.l),.string (Zad p.r),.int .i64 p.c,.slice xa xn xc]):=ħ (Zar _ _ _)
 have Y1:Hid (Zah ((w.alloc (.cells #[.int .i64 p.k,.string (Zad p.l),.string (Zad p.r),.int .i64 p.c,.slice xa xn xc] 25)).alloc (.cells #[.int .i64 q.k,.string (Zad q.l),.string (Zad q.r),.int .i64 q.c,.slice ya yn yc] 25)) (w.heap.size+1) 25 [.int .i64 q.k,.string (Zad q.l),.string (Zad q.r),.int .i64 q.c,.slice ya yn yc]):=ħ (heap_alloc2_new _ _ _)
 have HP2:=ħ (fun W (hW:Below w.heap.size w W)=>Zvf (w:=W.alloc (.cells #[.int .i64 p.k,.string (Zad p.l),.string (Zad p.r),.int .i64 p.c,.slice xa xn xc,.int .i64 q.k,.string (Zad q.l),.string (Zad q.r),.int .i64 q.c,.slice ya yn yc] 25)) (g:=W.heap.size) (t:=25) (PCp.o.below (hW.alloc hW.size _)) (PCq.o.below (hW.alloc hW.size _)) (heap_alloc_new _ _))
 clear bx bx2 PCp PCq
 generalize p.k=q0 at *
 generalize Zad p.l=q1 at *
 generalize Zad p.r=q2 at *
 generalize p.c=q3 at *
 generalize q.k=r0 at *
 generalize Zad q.l=r1 at *
 generalize Zad q.r=r2 at *
 generalize q.c=r3 at *
 go_enter Tryz.func127,Tryz.ntmps127
 go_upto_region 1 with (fail)
 generalize hw1:(w.alloc (.cells #[.int .i64 q0,.string q1,.string q2,.int .i64 q3,.slice xa xn xc] 25)).alloc (.cells #[.int .i64 r0,.string r1,.string r2,.int .i64 r3,.slice ya yn yc] 25)=w1 at *
 clear hw1
 have HP2:=ħ (fun W (hW:Below w1.heap.size w1 W)=>HP2.o W (B1.o.trans (hW.mono B1.o.size)))
 have HNA:=ħ (fun W po (hW:Below w1.heap.size w1 W)=>HNA.o W po (B1.o.trans (hW.mono B1.o.size)))
 have HOP:=ħ (fun W no nc po (hW:Below w1.heap.size w1 W)=>HOP.o W no nc po (B1.o.trans (hW.mono B1.o.size)))
 refine Zfq (rfF NS EC CS [p,q] most (.agg #[.int .i64 q0,.string q1,.string q2,.int .i64 q3,.slice xa xn xc]) (.agg #[.int .i64 r0,.string r1,.string r2,.int .i64 r3,.slice ya yn yc])) (by kernel_rfl) (Z39 NS EC CS [p,q] most (.agg #[.int .i64 q0,.string q1,.string q2,.int .i64 q3,.slice xa xn xc]) (.agg #[.int .i64 r0,.string r1,.string r2,.int .i64 r3,.slice ya yn yc])) (Ze0 (by kernel_rfl)) (Zt2 (by kernel_rfl)) (Zdi (by kernel_rfl)) ?hs ?he
 case hs =>
  intro i o hi listed a' w' H hl2
  have hl3:=Za9 hl2
  have hin:i<14:=(Array.getElem?_eq_some_iff.1 hi).1
  have hb:=ħ H.below
  have s2:=H.same 2 (Zap (by kernel_rfl))
  have s4:=H.same 4 (Zap (by kernel_rfl))
  have s5:=H.same 5 (Zap (by kernel_rfl))
  have hdn:=H.done
  have hdf:=H.defers
  have hts:=H.tsize
  clear hl2 H
  obtain⟨t',df⟩:=a'
  obtain⟨f',rfl⟩:=Z8c t' hts
  have hdf':df=[]:=hdf
  subst hdf'
  have gs2:f' 2 = .int .i64 most:=s2
  have gs4:f' 4 = .pointer (some ⟨w.heap.size,0,none⟩):=s4
  have gs5:f' 5 = .pointer (some ⟨w.heap.size+1,0,none⟩):=s5
  clear s2 s4 s5
  clear hdf hts
  have hcases:=Zoh i hin
  clear hin
  rcases hcases with rfl | rfl | rfl | rfl | rfl | rfl | rfl | rfl | rfl | rfl | rfl | rfl | rfl | rfl
  ·obtain rfl:=Option.some.inj hi
   clear hdn hl3
   rw[gs4]
   clear gs2 gs4 gs5
   refine Zac rfl ?_
   go_wp2_with (refine wpList_load_row rfl 25 (.tmp 4) rfl w.heap.size ?x1 25 #[.int .i64 q0,.string q1,.string q2,.int .i64 q3,.slice xa xn xc] (0,0) _ (X1.o.step hb.o) Tryz.underlying25 rfl (Zae _ rfl) ?_;(case x1=>rfl))
   exact Zaa ⟨_,rfl,Below.refl _ _,rfl⟩
  ·obtain rfl:=Option.some.inj hi
   clear hdn hl3
   rw[gs5]
   clear gs2 gs4 gs5
   refine Zac rfl ?_
   go_wp2_with (refine wpList_load_row rfl 25 (.tmp 5) rfl (w.heap.size+1) ?x1 25 #[.int .i64 r0,.string r1,.string r2,.int .i64 r3,.slice ya yn yc] (0,0) _ (Y1.o.step hb.o) Tryz.underlying25 rfl (Zae _ rfl) ?_;(case x1=>rfl))
   exact Zaa ⟨_,rfl,Below.refl _ _,rfl⟩
  ·obtain rfl:=Option.some.inj hi
   have dv0:f' 16 = .agg #[.int .i64 q0,.string q1,.string q2,.int .i64 q3,.slice xa xn xc]:=hdn 0 _ 16 rfl (hl3 0 (by rfl)) rfl
   have dv1:f' 17 = .agg #[.int .i64 r0,.string r1,.string r2,.int .i64 r3,.slice ya yn yc]:=hdn 1 _ 17 rfl (hl3 1 (by rfl)) rfl
   clear hdn hl3
   rw[dv0,dv1]
   clear dv0 dv1 gs2 gs4 gs5
   refine Zac rfl ?_
   go_wp2_with fail
   exact Zaa ⟨_,rfl,(Below.refl w'.heap.size w').alloc (Nat.le_refl _) _,w'.heap.size,rfl,HP2.o w' hb.o⟩
  ·obtain rfl:=Option.some.inj hi
   have dv2:rfF NS EC CS [p,q] most (.agg #[.int .i64 q0,.string q1,.string q2,.int .i64 q3,.slice xa xn xc]) (.agg #[.int .i64 r0,.string r1,.string r2,.int .i64 r3,.slice ya yn yc]) 2 w' (f' 18):=hdn 2 _ 18 rfl (hl3 2 (by rfl)) rfl
   obtain⟨A1,dv2,hA1⟩:=dv2
   clear hdn hl3
   rw[dv2]
   clear dv2 gs2 gs4 gs5
   refine Zac rfl ?_
   go_wp2_with fail
   refine (HNA.o w' (some ⟨A1,0,none⟩) hb.o hA1).mono ?_
   rintro e w4 ⟨ro,rc,rfl,ho4,b4⟩
   have HB4:=ħ b4
   have HO4:=ħ (ho4.strsR rfl)
   clear b4 ho4 hA1
   go_wp2_with fail
   exact Zaa ⟨_,rfl,HB4.o,ro,rc,rfl,HO4.o⟩
  ·obtain rfl:=Option.some.inj hi
   clear hdn hl3
   rw[gs2]
   clear gs2 gs4 gs5
   refine Zac rfl ?_
   go_wp2_with fail
   exact Zaa ⟨_,rfl,Below.refl _ _,rfl⟩
  ·obtain rfl:=Option.some.inj hi
   clear hdn hl3
   rw[gs4]
   clear gs2 gs4 gs5
   refine Zac rfl ?_
   go_wp2_with (refine wpList_load_row rfl 25 (.tmp 4) rfl w.heap.size ?x1 25 #[.int .i64 q0,.string q1,.string q2,.int .i64 q3,.slice xa xn xc] (0,0) _ (X1.o.step hb.o) Tryz.underlying25 rfl (Zae _ rfl) ?_;(case x1=>rfl))
   exact Zaa ⟨_,rfl,Below.refl _ _,rfl⟩
  ·obtain rfl:=Option.some.inj hi
   clear hdn hl3
   rw[gs5]
   clear gs2 gs4 gs5
   refine Zac rfl ?_
   go_wp2_with (refine wpList_load_row rfl 25 (.tmp 5) rfl (w.heap.size+1) ?x1 25 #[.int .i64 r0,.string r1,.string r2,.int .i64 r3,.slice ya yn yc] (0,0) _ (Y1.o.step hb.o) Tryz.underlying25 rfl (Zae _ rfl) ?_;(case x1=>rfl))
   exact Zaa ⟨_,rfl,Below.refl _ _,rfl⟩
  ·obtain rfl:=Option.some.inj hi
   have dv5:f' 21 = .agg #[.int .i64 q0,.string q1,.string q2,.int .i64 q3,.slice xa xn xc]:=hdn 5 _ 21 rfl (hl3 5 (by rfl)) rfl
   have dv6:f' 22 = .agg #[.int .i64 r0,.string r1,.string r2,.int .i64 r3,.slice ya yn yc]:=hdn 6 _ 22 rfl (hl3 6 (by rfl)) rfl
   clear hdn hl3
   rw[dv5,dv6]
   clear dv5 dv6 gs2 gs4 gs5
   refine Zac rfl ?_
   go_wp2_with fail
   exact Zaa ⟨_,rfl,(Below.refl w'.heap.size w').alloc (Nat.le_refl _) _,w'.heap.size,rfl,HP2.o w' hb.o⟩
  ·obtain rfl:=Option.some.inj hi
   have dv3:rfF NS EC CS [p,q] most (.agg #[.int .i64 q0,.string q1,.string q2,.int .i64 q3,.slice xa xn xc]) (.agg #[.int .i64 r0,.string r1,.string r2,.int .i64 r3,.slice ya yn yc]) 3 w' (f' 19):=hdn 3 _ 19 rfl (hl3 3 (by rfl)) rfl
   obtain⟨nr,nc,dv3,hNR⟩:=dv3
   have dv4:f' 20 = .int .i64 most:=hdn 4 _ 20 rfl (hl3 4 (by rfl)) rfl
   have dv7:rfF NS EC CS [p,q] most (.agg #[.int .i64 q0,.string q1,.string q2,.int .i64 q3,.slice xa xn xc]) (.agg #[.int .i64 r0,.string r1,.string r2,.int .i64 r3,.slice ya yn yc]) 7 w' (f' 23):=hdn 7 _ 23 rfl (hl3 7 (by rfl)) rfl
   obtain⟨A2,dv7,hA2⟩:=dv7
   clear hdn hl3
   rw[dv3,dv4,dv7]
   clear dv3 dv4 dv7 gs2 gs4 gs5
   refine Zac rfl ?_
   go_wp2_with fail
   refine (HOP.o w' nr nc (some ⟨A2,0,none⟩) hb.o hNR hA2).mono ?_
   intro e w4 hq
   obtain⟨x,rfl,hx,b4⟩:=hq
   have HB4:=ħ b4
   have HX4:=ħ hx
   clear b4 hx hA2 hNR
   go_wp2_with fail
   exact Zaa ⟨_,rfl,HB4.o,x,rfl,HX4.o⟩
  ·obtain rfl:=Option.some.inj hi
   have dv8:rfF NS EC CS [p,q] most (.agg #[.int .i64 q0,.string q1,.string q2,.int .i64 q3,.slice xa xn xc]) (.agg #[.int .i64 r0,.string r1,.string r2,.int .i64 r3,.slice ya yn yc]) 8 w' (f' 24):=hdn 8 _ 24 rfl (hl3 8 (by rfl)) rfl
   obtain⟨x,dv8,hx⟩:=dv8
   clear hdn hl3
   rw[dv8]
   clear dv8 gs2 gs4 gs5
   have HX:=ħ hx
   clear hx
   refine Zac rfl ?_
   go_wp2_with fail
   exact Zaa ⟨_,rfl,Below.refl _ _,x,rfl,HX.o⟩
  ·obtain rfl:=Option.some.inj hi
   have dv9:rfF NS EC CS [p,q] most (.agg #[.int .i64 q0,.string q1,.string q2,.int .i64 q3,.slice xa xn xc]) (.agg #[.int .i64 r0,.string r1,.string r2,.int .i64 r3,.slice ya yn yc]) 9 w' (f' 15):=hdn 9 _ 15 rfl (hl3 9 (by rfl)) rfl
   obtain⟨x,dv9,hx⟩:=dv9
   clear hdn hl3
   rw[dv9]
   clear dv9 gs2 gs4 gs5
   have HX:=ħ hx
   clear hx
   refine Zac rfl ?_
   go_wp2_with fail
   exact Zaa ⟨_,rfl,Below.refl _ _,x,rfl,HX.o⟩
  ·obtain rfl:=Option.some.inj hi
   have dv9:rfF NS EC CS [p,q] most (.agg #[.int .i64 q0,.string q1,.string q2,.int .i64 q3,.slice xa xn xc]) (.agg #[.int .i64 r0,.string r1,.string r2,.int .i64 r3,.slice ya yn yc]) 9 w' (f' 15):=hdn 9 _ 15 rfl (hl3 9 (by rfl)) rfl
   obtain⟨x,dv9,hx⟩:=dv9
   clear hdn hl3
   rw[dv9]
   clear dv9 gs2 gs4 gs5
   clear hx
   refine Zac rfl ?_
   go_wp2_with fail
   exact Zaa ⟨_,rfl,Below.refl _ _,rfl⟩
  ·obtain rfl:=Option.some.inj hi
   have dv10:rfF NS EC CS [p,q] most (.agg #[.int .i64 q0,.string q1,.string q2,.int .i64 q3,.slice xa xn xc]) (.agg #[.int .i64 r0,.string r1,.string r2,.int .i64 r3,.slice ya yn yc]) 10 w' (f' 25):=hdn 10 _ 25 rfl (hl3 10 (by rfl)) rfl
   obtain⟨x,dv10,hx⟩:=dv10
   clear hdn hl3
   rw[dv10]
   clear dv10 gs2 gs4 gs5
   have HX:=ħ hx
   clear hx
   refine Zac rfl ?_
   go_wp2_with fail
   exact Zaa ⟨_,rfl,Below.refl _ _,x,rfl,HX.o⟩
  ·obtain rfl:=Option.some.inj hi
   have dv11:f' 26 = .int .i64 EC:=hdn 11 _ 26 rfl (hl3 11 (by rfl)) rfl
   clear hdn hl3
   rw[dv11]
   clear dv11 gs2 gs4 gs5
   refine Zac rfl ?_
   go_wp2_with fail
   exact Zaa ⟨_,rfl,Below.refl _ _,rfl⟩
 case he =>
  intro listed a' w4 H hall
  have hd12:rfF NS EC CS [p,q] most (.agg #[.int .i64 q0,.string q1,.string q2,.int .i64 q3,.slice xa xn xc]) (.agg #[.int .i64 r0,.string r1,.string r2,.int .i64 r3,.slice ya yn yc]) 12 w4 (a'.tmps.getD 11 undef):=H.done 12 _ 11 rfl (hall 12 (by decide)) rfl
  have hd13:rfF NS EC CS [p,q] most (.agg #[.int .i64 q0,.string q1,.string q2,.int .i64 q3,.slice xa xn xc]) (.agg #[.int .i64 r0,.string r1,.string r2,.int .i64 r3,.slice ya yn yc]) 13 w4 (a'.tmps.getD 12 undef):=H.done 13 _ 12 rfl (hall 13 (by decide)) rfl
  have hb4:=ħ H.below
  have s3:=H.same 3 (Zap (by kernel_rfl))
  have s8:=H.same 8 (Zap (by kernel_rfl))
  have s9:=H.same 9 (Zap (by kernel_rfl))
  have s10:=H.same 10 (Zap (by kernel_rfl))
  have hdf:=H.defers
  have hts:=H.tsize
  clear H hall
  obtain⟨t',df⟩:=a'
  obtain⟨f',rfl⟩:=Z8c t' hts
  have hdf':df=[]:=hdf
  subst hdf'
  have gs3:f' 3 = .func (.func fg) #[] #[]:=s3
  have gs8:f' 8 = .slice none 0 0:=s8
  have gs9:f' 9 = .bool false:=s9
  have gs10:f' 10 = .int .i64 0:=s10
  have e12:rfF NS EC CS [p,q] most (.agg #[.int .i64 q0,.string q1,.string q2,.int .i64 q3,.slice xa xn xc]) (.agg #[.int .i64 r0,.string r1,.string r2,.int .i64 r3,.slice ya yn yc]) 12 w4 (f' 11):=hd12
  clear hd12
  obtain⟨x,e12,hx⟩:=e12
  have e13:f' 12 = .int .i64 EC:=hd13
  rw[gs3,gs8,gs9,gs10,e12,e13]
  clear s3 s8 s9 s10 gs3 gs8 gs9 gs10 hdf hts e12 hd13 e13
  have HX:=ħ hx
  have B4:=ħ (B1.o.trans (hb4.o.mono B1.o.size))
  clear hx HOP HNA HP2 X1 Y1 hb4
  generalize f' 11=y11 at *
  rcases HX.o with ⟨hc,rfl⟩ | ⟨hc,D,no,nc,po,pn,pc,ro,rc,rfl,hpn,hd⟩
  ·have HC:=ħ hc
   have HC2:¬ (EC=0):=hc
   clear hc HX
   go_wp2
   go_ret3
   exact Zrj.bad HC.o B4.o
  ·have HC:=ħ hc
   have HFQ:=ħ (HFI.o hc w4 D no nc po pn pc ro rc hpn hd)
   rw[hc]
   clear hc hd HX HFI hpn
   go_wp2_with fail
   refine HFQ.o.mono ?_
   intro e w5 hq
   obtain⟨⟨v,rfl,hv⟩,b5⟩:=hq.open
   have HV:=ħ (hv.lower B4.o.size)
   have B5:=ħ (B4.o.trans (b5.mono B4.o.size))
   clear hq hv b5 HFQ
   go_wp2
   go_ret3
   exact Zrj.good HC.o (by cases FR<;>rfl) HV.o B5.o
theorem Ztf (w:World) (P:Nat→Prop) (p q:Prd) (vs us:List Value) (most:Int) (B:Nat) (hT:Tab w B) (hp:Zai w P p vs) (hq:Zai w P q us) (hv:Zau p=true∧Zau q=true) (hpb:Zib p∧Zib q) (hpc:Za8 p≤1000000∧Za8 q≤1000000) :
  Calls Tryz.prog 60 #[.agg vs.toArray,.agg us.toArray,.int .i64 most] w fun e w'=>Zrj w (Zdv [p,q]) (Zb1 (Zdv [p,q]) most [p,q]) (Zf9 (Zdv [p,q]) most (Zak [p,q]) [p,q] (fun l=>l.getD 0 false&&!l.getD 1 false)) (!(Zf9 (Zdv [p,q]) most (Zak [p,q]) [p,q] (fun l=>l.getD 0 false&&!l.getD 1 false)).isSome) e w':=by
 have HRF:=ħ (fun W (hW:Below w.heap.size w W)=>Zwv W P p q vs us most B (Tab.keep hT (fun k hk=>hW.block k (Nat.lt_of_lt_of_le hk hT.size)) hW.size) (hp.below hW) (hq.below hW) hv hpb hpc 128 (fun l=>l.getD 0 false&&!l.getD 1 false) (Zrk 2 (by omega) (by omega)))
 obtain⟨xa,xn,xc,rfl,-⟩:=hp.form
 obtain⟨ya,yn,yc,rfl,-⟩:=hq.form
 generalize Zb1 (Zdv [p,q]) most [p,q]=EC at *
 generalize Zf9 (Zdv [p,q]) most (Zak [p,q]) [p,q] (fun l=>l.getD 0 false&&!l.getD 1 false)=FR at *
 generalize Zdv [p,q]=NS at *
 clear hT hp hq hv hpb hpc
 have bx:=(Below.refl w.heap.size w).alloc (Nat.le_refl _) (.cells #[.int .i64 p.k,.string (Zad p.l),.string (Zad p.r),.int .i64 p.c,.slice xa xn xc] 25)
 have bx2:=(Below.refl (w.alloc (.cells #[.int .i64 p.k,.string (Zad p.l),.string (Zad p.r),.int .i64 p.c,.slice xa xn xc] 25)).heap.size (w.alloc (.cells #[.int .i64 p.k,.string (Zad p.l),.string (Zad p.r),.int .i64 p.c,.slice xa xn xc] 25))).alloc (Nat.le_refl _) (.cells #[.int .i64 q.k,.string (Zad q.l),.string (Zad q.r),.int .i64 q.c,.slice ya yn yc] 25)
 have B1:=ħ (bx.trans (bx2.mono bx.size))
 have X1:Hid (Zah ((w.alloc (.cells #[.int .i64 p.k,.string (Zad p.l),.string (Zad p.r),.int .i64 p.c,.slice xa xn xc] 25)).alloc (.cells #[.int .i64 q.k,.string (Zad q.l),.string (Zad q.r),.int .i64 q.c,.slice ya yn yc] 25)) w.heap.size 25 [.int .i64 p.k,.string (Zad p.l),.string (Zad p.r),.int .i64 p.c,.slice xa xn xc]):=ħ (Zar _ _ _)
 have Y1:Hid (Zah ((w.alloc (.cells #[.int .i64 p.k,.string (Zad p.l),.string (Zad p.r),.int .i64 p.c,.slice xa xn xc] 25)).alloc (.cells #[.int .i64 q.k,.string (Zad q.l),.string (Zad q.r),.int .i64 q.c,.slice ya yn yc] 25)) (w.heap.size+1) 25 [.int .i64 q.k,.string (Zad q.l),.string (Zad q.r),.int .i64 q.c,.slice ya yn yc]):=ħ (heap_alloc2_new _ _ _)
 clear bx bx2
 generalize p.k=q0 at *
 generalize Zad p.l=q1 at *
 generalize Zad p.r=q2 at *
 generalize p.c=q3 at *
 generalize q.k=r0 at *
 generalize Zad q.l=r1 at *
 generalize Zad q.r=r2 at *
 generalize q.c=r3 at *
 go_enter Tryz.func60,Tryz.ntmps60
 go_upto_region 1 with (fail)
 generalize hw1:(w.alloc (.cells #[.int .i64 q0,.string q1,.string q2,.int .i64 q3,.slice xa xn xc] 25)).alloc (.cells #[.int .i64 r0,.string r1,.string r2,.int .i64 r3,.slice ya yn yc] 25)=w1 at *
 clear hw1
 go_wp2_with (first | (refine wpList_load_row rfl 25 (.tmp 3) rfl w.heap.size ?x1 25 #[.int .i64 q0,.string q1,.string q2,.int .i64 q3,.slice xa xn xc] (0,0) _ X1.o Tryz.underlying25 rfl (Zae _ rfl) ?_;(case x1=>rfl)) | (refine wpList_load_row rfl 25 (.tmp 4) rfl (w.heap.size+1) ?x2 25 #[.int .i64 r0,.string r1,.string r2,.int .i64 r3,.slice ya yn yc] (0,0) _ Y1.o Tryz.underlying25 rfl (Zae _ rfl) ?_;(case x2=>rfl)))
 refine (HRF.o w1 B1.o).mono ?_
 intro e w2 hq
 obtain⟨h1,b2⟩:=hq
 have B2:=ħ (B1.o.trans (b2.mono B1.o.size))
 by_cases hz:EC=0
 ·rw[if_pos hz] at h1
  obtain⟨v,rfl,hv⟩:=h1
  have HZ:=ħ hz
  have HV:=ħ (hv.lower B1.o.size)
  clear hz hv b2 HRF
  go_wp2
  go_ret3
  exact Zrj.good HZ.o (by cases FR<;>rfl) HV.o B2.o
 ·rw[if_neg hz] at h1
  subst h1
  have HZ:=ħ hz
  clear hz b2 HRF
  go_wp2
  go_ret3
  exact Zrj.bad HZ.o B2.o
end
end Go.Proofs.YtmkdfbelbcocpaaGreatDoor
