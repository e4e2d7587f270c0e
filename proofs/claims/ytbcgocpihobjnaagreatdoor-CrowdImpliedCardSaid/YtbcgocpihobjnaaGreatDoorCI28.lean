import Derived.Deep.CutBlock
import Derived.Deep.DeepCutAuto
import Derived.Test.YtbcgocpihobjnaaGreatDoorCI27
import Derived.Deep.OwnRows
import Derived.Test.YtbcgocpihobjnaaGreatDoorCI24
import Derived.Test.YtbcgocpihobjnaaGreatDoorCI23
import Derived.Test.YtbcgocpihobjnaaGreatDoorCI0
import Derived.Maps.OwnSet
set_option linter.all false
set_option maxHeartbeats 16000000
set_option maxRecDepth 100000
namespace Go.Proofs.YtbcgocpihobjnaaGreatDoor
section
open Go.RowKit Go.Sort
theorem Z6t (ns:List (List Nat)) (k:Ky) (h:Zfs ns k.l=true∧Zfs ns k.r=true):#[Value.int .i64 (Zll ns k.l),.int .i64 (Zll ns k.r),.int .i64 k.c]=(Zl5 (Zfc ns k)).toArray:=by
 unfold Zll Zl5 Zfc;rw[if_pos h.1,if_pos h.2]
theorem Z00 (c:Con):∀ u∈(Zl5 c),u.oneCell'=true:=by
 intro u hu;simp only[Zl5,List.mem_cons,List.not_mem_nil,or_false] at hu;rcases hu with rfl | rfl | rfl<;>rfl
theorem Zo9 {α:Type} (f:α→List Value) (l:List α) (x:α):l.flatMap f++f x=(l++[x]).flatMap f:=by simp
theorem Ztu {α:Type} (f:α→List Value) (l:List α) (x y:α):l.flatMap f++(f x++f y)=(l++[x,y]).flatMap f:=by simp
theorem Z01 (w:World) (ao:Option Addr) (n cp:Nat) (most:Int) (ns:List (List Nat)) (al:Option Addr) (nl cl:Nat) (ks:List Ky) (hn:n=ns.length) (h:Zf3 w ao ns) (hb:∀ s∈ns,NmB s) (hl:Zlx ns) (hbig:n≤1000)
  (hkr:Zal kyC w al ks) (hnl:nl=ks.length) (hk:Zp0 ns ks) (hkb:∀ k∈ks,NmB k.l∧NmB k.r) (hnb:nl≤100000) :
  Calls Tryz.prog 241 #[.agg #[.slice ao n cp,.int .i64 most],.slice al nl cl] w fun e w'=>(∃ ro rc,e = .returned (.slice ro (Zcu ns most ks).length rc)∧OwnK w' w.heap.size 3 (Zcu ns most ks).length rc ((Zcu ns most ks).flatMap Zl5) ro)∧Below w.heap.size w w':=by
 have HOF:=ħ (fun W (hW:Below w.heap.size w W) k (hk2:k∈ks)=>Z2w W ao n cp most ns k hn (h.below hW) hb hl (by omega) (hkb k hk2).1 (hkb k hk2).2);have HKR:=ħ hkr;have HNL:=ħ hnl;have HKN:=ħ hk;have bx:=(Below.refl w.heap.size w).alloc (Nat.le_refl _) (.cells #[.slice ao n cp,.int .i64 most] 216);have B1:=ħ bx;have X1:Hid (Zae (w.alloc (.cells #[.slice ao n cp,.int .i64 most] 216)) w.heap.size 216 [.slice ao n cp,.int .i64 most]):=ħ (heap_alloc_new w _);have HLEN:Hid ((Zcu ns most ks).length=nl+2*n):=ħ (by unfold Zcu;rw[List.length_append,List.length_map,Zhq,hnl,hn]);have HCP:Hid (Zcu ns most ks=ks.map (Zfc ns)++Zd6 most n):=ħ (by unfold Zcu;rw[hn]);rw[HLEN.o];obtain⟨CP,hCP⟩:∃ c,Zcu ns most ks=c:=⟨_,rfl⟩;rw[hCP] at HCP ⊢;clear bx h hb hl hkr hnl hk hkb HLEN hCP hn
 go_enter Tryz.func241,Tryz.ntmps241
 go_upto_block 0 with (fail)
 generalize w.alloc (.cells #[.slice ao n cp,.int .i64 most] 216)=w1 at *
 go_cut [4] (fun o wx=>∃ (ro:Option Addr) (rc:Nat),o = .slice ro nl rc∧Hid (OwnK wx (w.heap.size+1) 3 nl rc ((ks.map (Zfc ns)).flatMap Zl5) ro)∧Hid (Zae wx w.heap.size 216 [.slice ao n cp,.int .i64 most])∧Hid (Below w.heap.size w wx))
 case first =>
  go_wp2_with fail
  go_loopw [4,10] (fun o c wr=>∃ (i:Nat) (ro:Option Addr) (rc:Nat),c = .int .i64 i∧i≤nl∧o = .slice ro i rc∧Hid (OwnK wr (w.heap.size+1) 3 i rc (((ks.take i).map (Zfc ns)).flatMap Zl5) ro)∧Hid (Zae wr w.heap.size 216 [.slice ao n cp,.int .i64 most])∧Hid (Below w.heap.size w wr)) (fun o c _=>(nl-intOf c).toNat)
  case atStart=>exact⟨0,none,0,rfl,by omega,rfl,ħ (.nil (by simp) rfl rfl),X1,B1⟩
  case round =>
   clear X1 B1;obtain⟨i,ro,rc,rfl,hi,rfl,ho,hx,hw⟩:=hrel;have e2:IntKind.i64.wrap ((i:Int)+1)=((i+1:Nat):Int):=IntWalk.i64_in _ (by omega);by_cases hlt:i<nl
   ·have ii:(i:Int)<nl:=by omega
    obtain⟨k,hk⟩:∃ k,ks[i]?=some k:=⟨_,List.getElem?_eq_getElem (by rw[← HNL.o];exact hlt)⟩;have HKI:=ħ hk;obtain⟨g,off,hao,hg,hc⟩:=(HKR.o.below hw.o).at (k:=3) (fun _=>rfl) i k hk;have HAO:=ħ hao;subst hao;have s0:=hc 0 _ rfl;have s1:=hc 1 _ rfl;have s2:=hc 2 _ rfl;rw[Nat.add_zero] at s0;have HCV:=ħ (Z6t ns k (HKN.o k (List.mem_of_getElem? hk)));have HOK:=ħ (fun W hW=>HOF.o W hW k (List.mem_of_getElem? hk));have HTK:Hid (((ks.take i).map (Zfc ns)).flatMap Zl5++Zl5 (Zfc ns k)=((ks.take (i+1)).map (Zfc ns)).flatMap Zl5):=ħ (by rw[Zo9,List.take_add_one,hk];simp);rw[HCV.o,show (kyC k)=[.string (Zac k.l),.string (Zac k.r),.int .i64 k.c] from rfl] at HOK;clear hc hk hg HCV;generalize Zac k.l=y1 at *;generalize Zac k.r=y2 at *;generalize k.c=y3 at *;have CL:=Zm8 (Zfc ns k);have C1:=ħ (Z00 (Zfc ns k));generalize Zl5 (Zfc ns k)=cv at *
    go_upto_region 4 with (fail)
    have bx:=(Below.refl wr.heap.size wr).alloc (Nat.le_refl _) (.cells #[.string y1,.string y2,.int .i64 y3] 121);have Kx:Hid (Zae (wr.alloc (.cells #[.string y1,.string y2,.int .i64 y3] 121)) wr.heap.size 121 [.string y1,.string y2,.int .i64 y3]):=ħ (heap_alloc_new _ _);have X2:=ħ (hx.o.step bx);have O2:=ħ (ho.o.below bx);have B2:=ħ (hw.o.trans (bx.mono hw.o.size));clear bx hx ho hw s0 s1 s2;generalize wr.alloc (.cells #[.string y1,.string y2,.int .i64 y3] 121)=w2 at *;generalize wr.heap.size=KA at *
    go_wp2_with (first
     | (refine wpList_load_row rfl 216 (.tmp 2) rfl w.heap.size ?la1 216 #[.slice ao n cp,.int .i64 most] (0,0) _ X2.o Tryz.underlying216 rfl (Z3r _ _) ?_;(case la1=>rfl))
     | (refine wpList_load_row rfl 121 (.tmp 6) rfl KA ?la2 121 #[.string y1,.string y2,.int .i64 y3] (0,0) _ Kx.o Tryz.underlying121 rfl (Zfr _ rfl) ?_;(case la2=>rfl)))
    refine (HOK.o w2 B2.o).mono ?_;rintro e w3 ⟨rfl,b3⟩;have X3:=ħ (X2.o.step b3);have O3:=ħ (O2.o.below b3);have B3:=ħ (B2.o.trans (b3.mono B2.o.size));clear b3 X2 O2 B2 Kx HOK
    match cv,CL with
    | [v0,v1,v2],_ =>
    go_wp2_with (at_builtin;refine Zc7 256 259 Z57 3 24 Tryz.underlying256 Zsh rfl (by omega) (by omega) w3 (w.heap.size+1) rfl (.tmp 14) (.tmp 18) rfl ro rc i (((ks.take i).map (Zfc ns)).flatMap Zl5) ?q1 O3.o X3.o.lt 1 1 #[v0,v1,v2] 259 ?q2 rfl (by omega) C1.o ?q4 ?_;(case q1=>rfl);(case q2=>rfl);(case q4=>omega);intro g5 off5 c5 wa o8 gr8 b8 or8;have O8:=ħ o8;have B8:=ħ b8;clear o8 gr8 b8 or8)
    have X4:=ħ (X3.o.below B8.o (Nat.lt_succ_self _));have B4:=ħ (B3.o.trans (B8.o.mono (Nat.le_succ _)));clear X3 O3 B3 B8;go_roundw
    case rel=>exact⟨i+1,some ⟨g5,off5,none⟩,c5,by go_num,by omega,rfl,ħ (by rw[← HTK.o];exact O8.o),X4,B4⟩
    case measure=>simp only[intOf];omega
   ·obtain rfl:i=nl:=by omega
    have ii:¬ ((i:Int)<(i:Int)):=by omega
    go_wp2_with fail
    go_meet
    case rel=>exact⟨ro,rc,rfl,ħ (by have:=ho.o;rwa [List.take_of_length_le (by rw[← HNL.o];exact Nat.le_refl _)] at this),hx,hw⟩
 case rest =>
  clear X1 B1;obtain⟨ro,rc,rfl,ho,hx,hw⟩:=hcut;have x0:=hx.o.cell 0 _ rfl
  go_wp2_with fail
  go_loopw [4,24] (fun o c wr=>∃ (i:Nat) (ro:Option Addr) (rc:Nat),c = .int .i64 i∧i≤n∧o = .slice ro (nl+2*i) rc∧Hid (OwnK wr (w.heap.size+1) 3 (nl+2*i) rc ((ks.map (Zfc ns)++Zd6 most i).flatMap Zl5) ro)∧Hid (Zae wr w.heap.size 216 [.slice ao n cp,.int .i64 most])∧Hid (Below w.heap.size w wr)) (fun o c _=>(n-intOf c).toNat)
  case atStart=>exact⟨0,ro,rc,rfl,by omega,rfl,ħ (by have:=ho.o;simpa [Zd6] using this),hx,hw⟩
  case round =>
   clear ho hx hw x0;obtain⟨i,ro,rc,rfl,hi,rfl,ho,hx,hw⟩:=hrel;have e2:IntKind.i64.wrap ((i:Int)+1)=((i+1:Nat):Int):=IntWalk.i64_in _ (by omega);by_cases hlt:i<n
   ·have ii:(i:Int)<n:=by omega
    have x1:=hx.o.cell 1 _ rfl
    go_wp2_with (at_builtin;refine Zc7 256 259 Z57 3 24 Tryz.underlying256 Zsh rfl (by omega) (by omega) wr (w.heap.size+1) rfl (.tmp 27) (.tmp 36) rfl ro rc (nl+2*i) ((ks.map (Zfc ns)++Zd6 most i).flatMap Zl5) ?q1 ho.o hx.o.lt 2 2 #[.int .i64 0,.int .i64 ((i+1:Nat):Int),.int .i64 0,.int .i64 ((i+1:Nat):Int),.int .i64 0,.int .i64 most] 259 ?q2 rfl (by omega) ?q3 ?q4 ?_;(case q1=>rfl);(case q2=>rfl);(case q3=>simp[Value.oneCell']);(case q4=>omega);intro g5 off5 c5 wa o8 gr8 b8 or8;have O8:=ħ o8;have B8:=ħ b8;clear o8 gr8 b8 or8)
    have X4:=ħ (hx.o.below B8.o (Nat.lt_succ_self _));have B4:=ħ (hw.o.trans (B8.o.mono (Nat.le_succ _)))
    have HTK:Hid ((ks.map (Zfc ns)++Zd6 most i).flatMap Zl5++[.int .i64 0,.int .i64 ((i+1:Nat):Int),.int .i64 0,.int .i64 ((i+1:Nat):Int),.int .i64 0,.int .i64 most]=(ks.map (Zfc ns)++Zd6 most (i+1)).flatMap Zl5):=ħ (by
     rw[show Zd6 most (i+1)=Zd6 most i++[⟨0,i+1,0⟩,⟨i+1,0,most⟩] from rfl,← List.append_assoc,← Ztu]
     rfl)
    clear ho hx hw x1 B8;go_roundw
    case rel=>exact⟨i+1,some ⟨g5,off5,none⟩,c5,by go_num,by omega,rfl,ħ (by rw[← HTK.o];exact O8.o),X4,B4⟩
    case measure=>simp only[intOf];omega
   ·obtain rfl:i=n:=by omega
    have ii:¬ ((i:Int)<(i:Int)):=by omega
    go_wp2
    go_ret;exact⟨⟨ro,rc,rfl,by rw[HCP.o];exact ho.o.lower (Nat.le_succ _)⟩,hw.o⟩
end
section
open Go.RowKit Go.Sort
def ivs (l:List Int):List Value:=l.map (Value.int .i64)
theorem Zwt {l:List Int} {i:Nat} (h:i<l.length):(ivs l)[i]?=some (.int .i64 (gv l i)):=by
 unfold ivs gv;rw[List.getElem?_map,List.getElem?_eq_getElem h,List.getD_eq_getElem?_getD,List.getElem?_eq_getElem h];rfl
theorem Z3s (l:List Int) (i:Nat) (x:Int):(ivs l).set i (.int .i64 x)=ivs (l.set i x):=by
 unfold ivs;rw[List.map_set]
theorem Zkl (x:Int) (N:Nat):madeCells #[Value.int .i64 x] N=(ivs (List.replicate N x)).toArray:=by
 unfold ivs;apply Array.ext
 ·simp[madeCells]
 ·intro i h1 h2
  simp[madeCells,Nat.mod_one]
def Zfb (w:World) (N:Nat) (r:Option (List Int)) (e:Ending) (w':World):Prop :=
 (match r with
  | none=>e = .returned (.tuple #[.slice none 0 0,.bool false])
  | some v=>∃ V,e = .returned (.tuple #[.slice (some ⟨V,0,none⟩) N N,.bool true])∧Zae w' V 3 (ivs v)∧w.heap.size≤V)∧Below w.heap.size w w'
theorem Zfb.no {w w':World} {N:Nat} {r:Option (List Int)} (h:r=none) (hb:Below w.heap.size w w'):Zfb w N r (.returned (.tuple #[.slice none 0 0,.bool false])) w':=by
 subst h;exact⟨rfl,hb⟩
theorem Zfb.yes {w w':World} {N V:Nat} {r:Option (List Int)} {v:List Int} (h:r=some v) (hv:Zae w' V 3 (ivs v)) (hV:w.heap.size≤V) (hb:Below w.heap.size w w'):Zfb w N r (.returned (.tuple #[.slice (some ⟨V,0,none⟩) N N,.bool true])) w':=by
 subst h;exact⟨⟨V,rfl,hv,hV⟩,hb⟩
def Z6l (cs:List Con):Prop:=∀ c∈cs,-1099511627776≤c.c∧c.c≤1099511627776
theorem Zqm {cs:List Con} {f:Nat} {v:List Int} (h:Zc0 cs v true=none):Zdm cs (f+1) v=none:=by
 unfold Zdm;rw[h]
theorem Zqn {cs:List Con} {f:Nat} {v v':List Int} (h:Zc0 cs v true=some (v',true)):Zdm cs (f+1) v=some v':=by
 unfold Zdm;rw[h];rfl
theorem Zwu {cs:List Con} {f:Nat} {v v':List Int} (h:Zc0 cs v true=some (v',false)):Zdm cs (f+1) v=Zdm cs f v':=by
 conv=>lhs;unfold Zdm
 rw[h];rfl
theorem Zwv {c:Con} {l:List Con} {v:List Int} {s:Bool} (h:¬ gv v c.r<gv v c.l-c.c):Zc0 (c::l) v s=Zc0 l v s:=by
 conv=>lhs;unfold Zc0
 rw[if_neg h]
theorem Z02 {c:Con} {l:List Con} {v:List Int} {s:Bool} (h:gv v c.r<gv v c.l-c.c) (h0:c.r=0):Zc0 (c::l) v s=none:=by
 unfold Zc0;rw[if_pos h,if_pos h0]
theorem Z3t {c:Con} {l:List Con} {v:List Int} {s:Bool} (h:gv v c.r<gv v c.l-c.c) (h0:¬ c.r=0):Zc0 (c::l) v s=Zc0 l (v.set c.r (gv v c.l-c.c)) false:=by
 conv=>lhs;unfold Zc0
 rw[if_pos h,if_neg h0]
theorem least_any' (w:World) (ao:Option Addr) (n cp:Nat) (most:Int) (al:Option Addr) (nl cl:Nat) (cs:List Con) (hc:Zal Zl5 w al cs) (hnl:nl=cs.length) (hI:InC (n+1) cs) (hn:n≤1000) (hb:Z6l cs) (hl:nl≤2000) :
  Calls Tryz.prog 240 #[.agg #[.slice ao n cp,.int .i64 most],.slice al nl cl] w fun e w'=>Zfb w (n+1) (Zdn n cs) e w':=by
 have HC:=ħ hc;have HNL:=ħ hnl;have HI:=ħ hI;have HBC:=ħ hb;obtain⟨LL,hLL⟩:∃ LL,Zdn n cs=LL:=⟨_,rfl⟩;rw[hLL];have HLL:Hid (LL=Zdm cs (n+2) (List.replicate (n+1) 0)):=ħ (by rw[← hLL];rfl);have bx:=(Below.refl w.heap.size w).alloc (Nat.le_refl _) (.cells #[.slice ao n cp,.int .i64 most] 216);have X1:Hid (Zae (w.alloc (.cells #[.slice ao n cp,.int .i64 most] 216)) w.heap.size 216 [.slice ao n cp,.int .i64 most]):=ħ (heap_alloc_new w _);have B1:=ħ bx;obtain⟨N,hN⟩:∃ N,n+1=N:=⟨_,rfl⟩;have HN:=ħ hN;rw[hN] at HI HLL;clear bx hc hnl hI hb hLL;rw[hN]
 have hN2:N≤1001:=by omega
 have eN:IntKind.i64.wrap ((n:Int)+1)=(N:Int):=by rw[IntWalk.i64_in _ (by omega)];omega
 have eN2:IntKind.i64.wrap ((N:Int)+1)=((N+1:Nat):Int):=by rw[IntWalk.i64_in _ (by omega)];omega
 have hmk:=run_make_row' (P:=Tryz.prog) 33 3 (.int .i64 0) 8 Tryz.underlying33 Zb0 rfl .i64 .i64 N (by omega) (by omega);rw[Zkl] at hmk;clear hN
 go_enter Tryz.func240,Tryz.ntmps240
 go_upto_region 1 with (fail)
 generalize w.alloc (.cells #[.slice ao n cp,.int .i64 most] 216)=w1 at *;have x0:=X1.o.cell 0 _ rfl;have bx:=(Below.refl w1.heap.size w1).alloc (Nat.le_refl _) (.cells (ivs (List.replicate N 0)).toArray 3);have V2:Hid (Zae (w1.alloc (.cells (ivs (List.replicate N 0)).toArray 3)) w1.heap.size 3 (ivs (List.replicate N 0))):=ħ (heap_alloc_new _ _);have B2:=ħ (B1.o.trans (bx.mono B1.o.size));have G2:Hid (w.heap.size≤w1.heap.size):=ħ B1.o.size;clear bx B1 X1
 go_wp2_with fail
 clear hmk x0;generalize w1.alloc (.cells (ivs (List.replicate N 0)).toArray 3)=w2 at *;generalize w1.heap.size=V at *
 go_loopw [19] (fun cc wr=>∃ (i f:Nat) (v:List Int),cc = .int .i64 i∧i+f=N+1∧Hid (LL=Zdm cs f v)∧Hid (v.length=N)∧Hid (∀ k,0≤gv v k∧gv v k≤((i*nl:Nat):Int)*1099511627776)∧Hid (Zae wr V 3 (ivs v))∧Hid (Below w.heap.size w wr)) (fun c _=>(N+1-intOf c).toNat)
 case atStart=>exact⟨0,N+1,List.replicate N 0,rfl,by omega,ħ (by rw[HLL.o];congr 1;have:=HN.o;omega),ħ List.length_replicate,ħ (fun k=>by rw[Zjs];simp),V2,B2⟩
 case round =>
  clear V2 B2 HLL eN eN2;obtain⟨i,f,v0,rfl,hif,hll,hvl,hvb,hv,hw⟩:=hrel;have e2:IntKind.i64.wrap ((i:Int)+1)=((i+1:Nat):Int):=IntWalk.i64_in _ (by omega);by_cases hlt:i<N+1
  ·have ii:(i:Int)<((N+1:Nat):Int):=by omega
   obtain⟨f',rfl⟩:∃ f',f=f'+1:=⟨f-1,by omega⟩;have HIN:Hid (i*nl≤1001*2000):=ħ (Nat.mul_le_mul (by omega) hl);obtain⟨RP,hRP⟩:∃ r,Zc0 cs v0 true=r:=⟨_,rfl⟩;have HRP:Hid (RP=Zc0 (cs.drop 0) v0 true):=ħ hRP.symm;have HRQ:=ħ hRP;clear hRP
   go_wp2_with fail
   generalize wr=wo at *
   go_loopw [7,23] (fun st cc wr=>∃ (j:Nat) (s:Bool) (v:List Int),cc = .int .i64 j∧st = .bool s∧j≤nl∧Hid (RP=Zc0 (cs.drop j) v s)∧Hid (v.length=N)∧Hid (∀ k,0≤gv v k∧gv v k≤((i*nl+j:Nat):Int)*1099511627776)∧Hid (Zae wr V 3 (ivs v))∧Hid (Below w.heap.size w wr)) (fun _ c _=>(nl-intOf c).toNat)
   case atStart=>exact⟨0,true,v0,rfl,rfl,by omega,HRP,hvl,hvb,hv,hw⟩
   case round =>
    clear HRP hv hw hvl hvb;obtain⟨j,s,v,rfl,rfl,hj,hrp,hvl,hvb,hv,hw⟩:=hrel;have e3:IntKind.i64.wrap ((j:Int)+1)=((j+1:Nat):Int):=IntWalk.i64_in _ (by omega);by_cases hjl:j<nl
    ·have jj:(j:Int)<nl:=by omega
     obtain⟨c,hcj⟩:∃ c,cs[j]?=some c:=⟨_,List.getElem?_eq_getElem (by rw[← HNL.o];exact hjl)⟩;have hcm:=List.mem_of_getElem? hcj;obtain⟨g,off,hao,hg,hcc⟩:=(HC.o.below hw.o).at (k:=3) Zm8 j c hcj;have HAO:=ħ hao;subst hao;have s0:=hcc 0 _ rfl;have s1:=hcc 1 _ rfl;have s2:=hcc 2 _ rfl;rw[Nat.add_zero] at s0;obtain⟨hin1,hin2⟩:=HI.o c hcm;obtain⟨hb1,hb2⟩:=HBC.o c hcm;have HDR:Hid (cs.drop j=c::cs.drop (j+1)):=ħ (Zb9 cs j c hcj);have HCK:=ħ (fun (h:¬ gv v c.r<gv v c.l-c.c)=>Zwv (l:=cs.drop (j+1)) (s:=s) h);have HCB:=ħ (fun (h:gv v c.r<gv v c.l-c.c) (h0:c.r=0)=>Z02 (l:=cs.drop (j+1)) (s:=s) h h0);have HCU:=ħ (fun (h:gv v c.r<gv v c.l-c.c) (h0:¬ c.r=0)=>Z3t (l:=cs.drop (j+1)) (s:=s) h h0);rw[HDR.o] at hrp;have q1:=Zwt (l:=v) (i:=c.l) (by rw[hvl.o];exact hin1);have q2:=Zwt (l:=v) (i:=c.r) (by rw[hvl.o];exact hin2);have hv1:=hvb.o c.l;have hv2:=hvb.o c.r;clear hcj hcm hcc hg HDR;generalize hx1:gv v c.l=x1 at *;generalize hx2:gv v c.r=x2 at *;generalize Zc0 (c::cs.drop (j+1)) v s=PC at *;generalize c.l=cl' at *;generalize c.r=cr at *;generalize c.c=cc' at *;clear hx1 hx2
     have i1:(cl':Int)<(N:Int):=by omega
     have i2:(cr:Int)<(N:Int):=by omega
     have HPW:Hid (((i*nl+j:Nat):Int)*1099511627776≤4398046511104*1099511627776/1000000):=ħ (by have:=HIN.o;omega);have ex:IntKind.i64.wrap (x1-cc')=x1-cc':=IntWalk.i64_in _ (by have:=HPW.o;omega);have bx:=(Below.refl wr.heap.size wr).alloc (Nat.le_refl _) (.cells #[.int .i64 (cl':Int),.int .i64 (cr:Int),.int .i64 cc'] 259);have K2:Hid (Zae (wr.alloc (.cells #[.int .i64 (cl':Int),.int .i64 (cr:Int),.int .i64 cc'] 259)) wr.heap.size 259 [.int .i64 (cl':Int),.int .i64 (cr:Int),.int .i64 cc']):=ħ (heap_alloc_new _ _);have V3:=ħ (hv.o.step bx);have B3:=ħ (hw.o.trans (bx.mono hw.o.size));have KV:Hid (wr.heap.size≠V):=ħ (by have:=hv.o.lt;omega)
     go_upto_region 8 with (fail)
     clear bx hv hw s0 s1 s2;generalize wr.alloc (.cells #[.int .i64 (cl':Int),.int .i64 (cr:Int),.int .i64 cc'] 259)=w3 at *;generalize wr.heap.size=KA at *;have k0:=K2.o.cell 0 _ rfl;have k1:=K2.o.cell 1 _ rfl;have k2:=K2.o.cell 2 _ rfl;have y1:=V3.o.cell cl' _ q1;have y2:=V3.o.cell cr _ q2;clear q1 q2;by_cases hrel2:x2<x1-cc'
     ·by_cases h0:cr=0
      ·have HNO:Hid (LL=none):=ħ (by rw[hll.o];exact Zqm (by rw[HRQ.o,hrp.o];exact HCB.o hrel2 h0))
       subst h0;clear HCK HCB HCU
       go_region
       go_wp2
       go_ret2
       exact Zfb.no HNO.o B3.o.drew
      ·have HUP:Hid (RP=Zc0 (cs.drop (j+1)) (v.set cr (x1-cc')) false):=ħ (by rw[hrp.o];exact HCU.o hrel2 h0)
       have hcr0:¬ (cr:Int)=0:=by omega
       have hcr1:((cr:Int)==0)=false:=by rw[beq_eq_false_iff_ne];exact hcr0
       have f2:=V3.o.warm cr;clear HCK HCB HCU h0
       go_region
       go_wp2_with fail
       have V4:Hid (Zae (w3.drew.setCell ⟨V,cr,none⟩ (.int .i64 (x1-cc'))) V 3 (ivs (v.set cr (x1-cc')))):=ħ (by rw[← Z3s];exact (V3.o.step (Below.refl _ _).drew).set cr _);have B4:=ħ (B3.o.drew.setCell (p:=⟨V,cr,none⟩) (by have:=G2.o;exact this) (.int .i64 (x1-cc')));have VL:Hid ((v.set cr (x1-cc')).length=N):=ħ (by rw[List.length_set];exact hvl.o)
       have VB:Hid (∀ k,0≤gv (v.set cr (x1-cc')) k∧gv (v.set cr (x1-cc')) k≤((i*nl+(j+1):Nat):Int)*1099511627776):=ħ (fun k=>by
        rw[Zlp _ _ _ _ (by rw[hvl.o];exact hin2)];have:=hvb.o k;by_cases e:cr=k
        ·rw[if_pos e];omega
        ·rw[if_neg e];omega)
       go_roundw
       case rel=>exact⟨j+1,false,_,by go_num,rfl,by omega,HUP,VL,VB,V4,B4⟩
       case measure=>simp only[intOf];omega
     ·have HUP:Hid (RP=Zc0 (cs.drop (j+1)) v s):=ħ (by rw[hrp.o];exact HCK.o hrel2)
      clear HCK HCB HCU
      go_region
      go_wp2_with fail
      have V4:=ħ (V3.o.step (Below.refl _ _).drew);have B4:=ħ (B3.o.drew);have VB:Hid (∀ k,0≤gv v k∧gv v k≤((i*nl+(j+1):Nat):Int)*1099511627776):=ħ (fun k=>by have:=hvb.o k;omega);go_roundw
      case rel=>exact⟨j+1,s,v,by go_num,rfl,by omega,HUP,hvl,VB,V4,B4⟩
      case measure=>simp only[intOf];omega
    ·obtain rfl:j=nl:=by omega
     have jj:¬ ((j:Int)<(j:Int)):=by omega
     have HEND:Hid (Zc0 cs v0 true=some (v,s)):=ħ (by
      rw[HRQ.o,hrp.o,List.drop_eq_nil_of_le (by rw[← HNL.o];exact Nat.le_refl _)]
      rfl)
     cases s with
     | true =>
      have HSO:Hid (LL=some v):=ħ (by rw[hll.o];exact Zqn HEND.o)
      go_wp2
      go_ret2
      exact Zfb.yes HSO.o hv.o G2.o hw.o
     | false =>
      have HGO:Hid (LL=Zdm cs f' v):=ħ (by rw[hll.o];exact Zwu HEND.o);have VB:Hid (∀ k,0≤gv v k∧gv v k≤(((i+1)*j:Nat):Int)*1099511627776):=ħ (fun k=>by have:=hvb.o k;rw[Nat.add_mul,Nat.one_mul];exact this)
      go_wp2_with fail
      go_roundw
      case rel=>exact⟨i+1,f',v,by go_num,by omega,HGO,hvl,VB,hv,hw⟩
      case measure=>simp only[intOf];omega
  ·obtain rfl:i=N+1:=by omega
   have ii:¬ (((N+1:Nat):Int)<((N+1:Nat):Int)):=by omega
   obtain rfl:f=0:=by omega
   have HNO:Hid (LL=none):=ħ hll.o
   go_wp2
   go_ret2
   exact Zfb.no HNO.o hw.o
end
section
open Go.RowKit Go.Sort
def Zbk (x:Int):List Value:=[.int .i64 x]
theorem Ze4:∀ l:List Int,ivs l=l.flatMap Zbk
 | []=>rfl
 | x::l=>by show _::ivs l=_;rw[Ze4 l];rfl
theorem Zae.flatI {w:World} {V:Nat} {l:List Int} (h:Zae w V 3 (ivs l)):Zal Zbk w (some ⟨V,0,none⟩) l:=.inr ⟨V,0,rfl,h.lt,by
 rw[← Ze4];intro j u hj;rw[Nat.zero_add]
 exact h.cell j u hj⟩
def Zlm (ns:List (List Nat)) (v:List Int) (j:Nat):List Bnd:=(List.range j).map (fun i=>⟨ns.getD i [],gv v (i+1)⟩)
def Zww (ns:List (List Nat)) (v:List Int):List Bnd:=Zlm ns v ns.length
theorem Ztv {ns:List (List Nat)} {v:List Int} {j:Nat} {s:List Nat} (h:ns[j]?=some s):Zlm ns v (j+1)=Zlm ns v j++[⟨s,gv v (j+1)⟩]:=by
 unfold Zlm;rw[List.range_succ,List.map_append];simp[List.getD_eq_getElem?_getD,h]
def Z6m:Value:=.agg #[.string ⟨#[]⟩,.int .i64 0]
theorem Z03:(Tryz.prog.info? 164).map (fun i=>(i.zero,i.size,i.bytes))=some (some Z6m,2,24):=by kernel_rfl
theorem Zbp (x:Int):(Zbk x).length=1:=rfl
theorem Zwx {l:List Int} {i:Nat} (h:i<l.length):l[i]?=some (gv l i):=by
 unfold gv;rw[List.getElem?_eq_getElem h,List.getD_eq_getElem?_getD,List.getElem?_eq_getElem h];rfl
theorem Zwy (w:World) (ao:Option Addr) (n cp:Nat) (most:Int) (ns:List (List Nat)) (vo:Option Addr) (vn vc:Nat) (v:List Int) (hn:n=ns.length) (h:Zf3 w ao ns) (hbig:n≤100000) (hv:Zal Zbk w vo v) (hvn:vn=v.length) (hvl:v.length=n+1) :
  Calls Tryz.prog 208 #[.agg #[.slice ao n cp,.int .i64 most],.slice vo vn vc] w fun e w'=>(∃ ro rc,e = .returned (.slice ro n rc)∧OwnK w' w.heap.size 2 n rc ((Zww ns v).flatMap Zp1) ro)∧Below w.heap.size w w':=by
 have HS:=ħ h;have HV:=ħ hv;have HN:=ħ hn;have HVN:=ħ hvn;have HVL:=ħ hvl;have bx:=(Below.refl w.heap.size w).alloc (Nat.le_refl _) (.cells #[.slice ao n cp,.int .i64 most] 216);have B1:=ħ bx;have X1:Hid (Zae (w.alloc (.cells #[.slice ao n cp,.int .i64 most] 216)) w.heap.size 216 [.slice ao n cp,.int .i64 most]):=ħ (heap_alloc_new w _)
 have iv:(vn:Int)=((n+1:Nat):Int):=by omega
 have HP:Hid (Zww ns v=Zlm ns v n):=ħ (by rw[hn];rfl);rw[HP.o];clear bx h hv hn hvn hvl HP
 go_enter Tryz.func208,Tryz.ntmps208
 go_upto_region 1 with (fail)
 generalize w.alloc (.cells #[.slice ao n cp,.int .i64 most] 216)=w1 at *;have x0:=X1.o.cell 0 _ rfl
 go_wp2_with fail
 clear x0
 go_loopw [4,10] (fun o c wr=>∃ (i:Nat) (ro:Option Addr) (rc:Nat),c = .int .i64 i∧i≤n∧o = .slice ro i rc∧Hid (OwnK wr (w.heap.size+1) 2 i rc ((Zlm ns v i).flatMap Zp1) ro)∧Hid (w.heap.size+1≤wr.heap.size)∧Hid (Below w.heap.size w wr)) (fun o c _=>(n-intOf c).toNat)
 case atStart=>exact⟨0,none,0,rfl,by omega,rfl,ħ (.nil (by simp[Zlm]) rfl rfl),ħ X1.o.lt,B1⟩
 case round =>
  clear X1 B1;obtain⟨i,ro,rc,rfl,hi,rfl,ho,hx,hw⟩:=hrel;have e2:IntKind.i64.wrap ((i:Int)+1)=((i+1:Nat):Int):=IntWalk.i64_in _ (by omega);by_cases hlt:i<n
  ·have ii:(i:Int)<n:=by omega
   obtain⟨s,hs⟩:∃ s,ns[i]?=some s:=⟨_,List.getElem?_eq_getElem (by rw[← HN.o];exact hlt)⟩;obtain⟨g,off,hao,hg,hc⟩:=(HS.o.below hw.o).at i s hs;have HAO:=ħ hao;subst hao;obtain⟨g2,off2,hvo,hg2,hc2⟩:=(HV.o.below hw.o).at (k:=1) Zbp (i+1) (gv v (i+1)) (Zwx (by rw[HVL.o];omega));have HVO:=ħ hvo;subst hvo;have c2:=hc2 0 _ rfl;rw[Nat.mul_one,Nat.add_zero] at c2;have HTK:Hid ((Zlm ns v i).flatMap Zp1++[.string (Zac s),.int .i64 (gv v (i+1))]=(Zlm ns v (i+1)).flatMap Zp1):=ħ (by rw[Ztv hs,← Zo9];rfl)
   have iv2:((i+1:Nat):Int)<vn:=by omega
   clear hs hg hg2 hc2;generalize Zac s=y at *;generalize gv v (i+1)=x at *
   go_wp2_with (at_builtin;refine Zc7 42 164 Z6m 2 24 Tryz.underlying42 Z03 rfl (by omega) (by omega) wr (w.heap.size+1) rfl (.tmp 15) (.tmp 23) rfl ro rc i ((Zlm ns v i).flatMap Zp1) ?q1 ho.o hx.o 1 1 #[.string y,.int .i64 x] 164 ?q2 rfl (by omega) ?q3 ?q4 ?_;(case q1=>rfl);(case q2=>rfl);(case q3=>simp[Value.oneCell']);(case q4=>omega);intro g5 off5 c5 wa o8 gr8 b8 or8;have O8:=ħ o8;have B8:=ħ b8;clear o8 gr8 b8 or8)
   have B4:=ħ (hw.o.trans (B8.o.mono (Nat.le_succ _)));have X4:Hid (w.heap.size+1≤wa.heap.size):=ħ (Nat.le_trans hx.o B8.o.size);clear ho hx hw c2 hc B8;go_roundw
   case rel=>exact⟨i+1,some ⟨g5,off5,none⟩,c5,by go_num,by omega,rfl,ħ (by rw[← HTK.o];exact O8.o),X4,B4⟩
   case measure=>simp only[intOf];omega
  ·obtain rfl:i=n:=by omega
   have ii:¬ ((i:Int)<(i:Int)):=by omega
   go_wp2
   go_ret;exact⟨⟨ro,rc,rfl,ho.o.lower (Nat.le_succ _)⟩,hw.o⟩
end
section
open Go.RowKit Go.Sort
theorem Zcl.below {w w':World} {P:Nat→Prop} {l:List Prd} {ao:Option Addr} (h:Zcl w P l ao) (hb:Below w.heap.size w w'):Zcl w' P l ao:=by
 rcases h with h | ⟨g,off,h1,h2,h3,h4⟩
 ·exact .inl h
 ·exact .inr ⟨g,off,h1,h2,Nat.lt_of_lt_of_le h3 hb.size,Za6.keep (fun g _ hg=>hb.block g hg) hb.size (fun g hg _=>hg) l g off h2 h3 h4⟩
theorem Zcl.at {w:World} {P:Nat→Prop} {l:List Prd} {ao:Option Addr} (h:Zcl w P l ao) (i:Nat) (p:Prd) (hp:l[i]?=some p):∃ g off vs,ao=some ⟨g,off,none⟩∧g<w.heap.size∧Zan w P p vs∧Zau w g (off+i*5) vs:=by
 rcases h with h | ⟨g,off,h1,h2,h3,h4⟩
 ·rw[h] at hp;simp at hp
 ·obtain⟨vs,hv1,hv2⟩:=Za6.at l g off i p hp h4
  exact⟨g,off,vs,h1,h3,hv1,hv2⟩
end
section
open Go.RowKit Go.Sort
structure Mem where
 b:List Bnd
 t:List Int
 r:Int
structure Use where
 q:Int
 w:Int
 f:Int
 h:Int
structure Crw where
 qs:List Prd
 ms:List Mem
 us:List Use
def Zcp (x:Use):List Value:=[.int .i64 x.q,.int .i64 x.w,.int .i64 x.f,.int .i64 x.h]
theorem Zbv (x:Use):(Zcp x).length=4:=rfl
def Zwz (w:World) (m:Mem) (cs:List Value):Prop:=∃ bo bc to' tc,cs=[.slice bo m.b.length bc,.slice to' m.t.length tc,.int .i64 m.r]∧Zwf w (fun _=>True) m.b bo∧Zal Zbk w to' m.t
theorem Zwz.below {w w':World} {m:Mem} {cs:List Value} (h:Zwz w m cs) (hb:Below w.heap.size w w'):Zwz w' m cs:=by
 obtain⟨bo,bc,to',tc,h1,h2,h3⟩:=h;exact⟨bo,bc,to',tc,h1,h2.below hb,h3.below hb⟩
def Zip (w:World) (ms:List Mem) (ao:Option Addr):Prop:=ms=[]∨∃ g off,ao=some ⟨g,off,none⟩∧g<w.heap.size∧∀ i m,ms[i]?=some m→∃ cs,Zwz w m cs∧Zau w g (off+i*3) cs
theorem Zip.below {w w':World} {ms:List Mem} {ao:Option Addr} (h:Zip w ms ao) (hb:Below w.heap.size w w'):Zip w' ms ao:=by
 rcases h with h | ⟨g,off,h1,h2,h3⟩
 ·exact .inl h
 ·refine .inr ⟨g,off,h1,Nat.lt_of_lt_of_le h2 hb.size,fun i m hm=>?_⟩
  obtain⟨cs,h4,h5⟩:=h3 i m hm;exact⟨cs,h4.below hb,h5.of_block (hb.block g h2)⟩
theorem Zip.at {w:World} {ms:List Mem} {ao:Option Addr} (h:Zip w ms ao) (i:Nat) (m:Mem) (hm:ms[i]?=some m):∃ g off cs,ao=some ⟨g,off,none⟩∧g<w.heap.size∧Zwz w m cs∧Zau w g (off+i*3) cs:=by
 rcases h with h | ⟨g,off,h1,h2,h3⟩
 ·rw[h] at hm;simp at hm
 ·obtain⟨cs,h4,h5⟩:=h3 i m hm
  exact⟨g,off,cs,h1,h2,h4,h5⟩
def Zid (w:World) (c:Crw) (cs:List Value):Prop:=∃ qo qc mo mc uo uc,cs=[.slice qo c.qs.length qc,.slice mo c.ms.length mc,.slice uo c.us.length uc]∧Zcl w (fun _=>True) c.qs qo∧Zip w c.ms mo∧Zal Zcp w uo c.us∧c.us.length≤uc
theorem Zid.below {w w':World} {c:Crw} {cs:List Value} (h:Zid w c cs) (hb:Below w.heap.size w w'):Zid w' c cs:=by
 obtain⟨qo,qc,mo,mc,uo,uc,h1,h2,h3,h4,h5⟩:=h;exact⟨qo,qc,mo,mc,uo,uc,h1,h2.below hb,h3.below hb,h4.below hb,h5⟩
def inB (n lo hi:Int):Bool:=decide (lo≤n)&&decide (n≤hi)
theorem Zbm (n lo hi:Int) (w:World):Calls Tryz.prog 83 #[.int .i64 n,.int .i64 lo,.int .i64 hi] w fun e w'=>e = .returned (.bool (inB n lo hi))∧w=w':=by
 unfold inB
 go_enter Tryz.func83,Tryz.ntmps83
 by_cases h1:lo≤n
 ·by_cases h2:n≤hi
  ·go_wp2
   go_ret;exact⟨Zad (by simp[h1,h2]),rfl⟩
  ·go_wp2
   go_ret;exact⟨Zad (by simp[show ¬ n≤hi by omega]),rfl⟩
 ·go_wp2
  go_ret;exact⟨Zad (by simp[show ¬ lo≤n by omega]),rfl⟩
def Zcb (nq nm:Nat) (x:Use):Bool:=inB x.q 0 ((nq:Int)-1)&&inB x.w 0 15&&inB x.f 0 16&&inB x.h (-1) ((nm:Int)-1)
theorem Zl6 (w:World) (qo mo uo:Option Addr) (nq nm nu qc mc uc:Nat) (x:Use) (h1:nq≤1000000000) (h2:nm≤1000000000) :
  Calls Tryz.prog 80 #[.agg #[.slice qo nq qc,.slice mo nm mc,.slice uo nu uc],.agg (Zcp x).toArray] w fun e w'=>e = .returned (.bool (Zcb nq nm x))∧Below w.heap.size w w':=by
 unfold Zcb Zcp;generalize x.q=x0 at *;generalize x.w=x1 at *;generalize x.f=x2 at *;generalize x.h=x3 at *;have H1:=ħ (fun W=>Zbm x0 0 ((nq:Int)-1) W);have H2:=ħ (fun W=>Zbm x1 0 15 W);have H3:=ħ (fun W=>Zbm x2 0 16 W);have H4:=ħ (fun W=>Zbm x3 (-1) ((nm:Int)-1) W);generalize inB x0 0 ((nq:Int)-1)=b1 at *;generalize inB x1 0 15=b2 at *;generalize inB x2 0 16=b3 at *;generalize inB x3 (-1) ((nm:Int)-1)=b4 at *;have bx:=((Below.refl w.heap.size w).alloc (Nat.le_refl _) (.cells #[.slice qo nq qc,.slice mo nm mc,.slice uo nu uc] 26)).alloc (by simp) (.cells #[.int .i64 x0,.int .i64 x1,.int .i64 x2,.int .i64 x3] 39);have B1:=ħ bx;have C1:Hid (Zae ((w.alloc (.cells #[.slice qo nq qc,.slice mo nm mc,.slice uo nu uc] 26)).alloc (.cells #[.int .i64 x0,.int .i64 x1,.int .i64 x2,.int .i64 x3] 39)) w.heap.size 26 [.slice qo nq qc,.slice mo nm mc,.slice uo nu uc]):=ħ (Za2 _ _ _);have X1:Hid (Zae ((w.alloc (.cells #[.slice qo nq qc,.slice mo nm mc,.slice uo nu uc] 26)).alloc (.cells #[.int .i64 x0,.int .i64 x1,.int .i64 x2,.int .i64 x3] 39)) (w.heap.size+1) 39 [.int .i64 x0,.int .i64 x1,.int .i64 x2,.int .i64 x3]):=ħ (heap_alloc2_new _ _ _);clear bx;have e1:IntKind.i64.wrap ((nq:Int)-1)=(nq:Int)-1:=IntWalk.i64_in _ (by omega);have e2:IntKind.i64.wrap ((nm:Int)-1)=(nm:Int)-1:=IntWalk.i64_in _ (by omega)
 go_enter Tryz.func80,Tryz.ntmps80
 go_upto_region 1 with (fail)
 generalize hw:(w.alloc (.cells #[.slice qo nq qc,.slice mo nm mc,.slice uo nu uc] 26)).alloc (.cells #[.int .i64 x0,.int .i64 x1,.int .i64 x2,.int .i64 x3] 39)=w1 at *;clear hw;have c0:=C1.o.cell 0 _ rfl;have c1:=C1.o.cell 1 _ rfl;have y0:=X1.o.cell 0 _ rfl;have y1:=X1.o.cell 1 _ rfl;have y2:=X1.o.cell 2 _ rfl;have y3:=X1.o.cell 3 _ rfl
 go_wp2_with fail
 refine (H1.o w1).mono ?_;rintro e wa ⟨rfl,rfl⟩
 cases b1 with
 | false =>
  go_wp2_with fail
  go_ret;exact⟨Zad (by simp),B1.o⟩
 | true =>
  go_wp2_with fail
  refine (H2.o w1).mono ?_;rintro e wa ⟨rfl,rfl⟩
  cases b2 with
  | false =>
   go_wp2_with fail
   go_ret;exact⟨Zad (by simp),B1.o⟩
  | true =>
   go_wp2_with fail
   refine (H3.o w1).mono ?_;rintro e wa ⟨rfl,rfl⟩
   cases b3 with
   | false =>
    go_wp2_with fail
    go_ret;exact⟨Zad (by simp),B1.o⟩
   | true =>
    go_wp2_with fail
    refine (H4.o w1).mono ?_;rintro e wa ⟨rfl,rfl⟩
    go_wp2_with fail
    go_ret;exact⟨Zad (by simp),B1.o⟩
def Zdj (t:List Int) (w:Nat):Int:=t.getD w 0
theorem Zgf (w:World) (m:Mem) (cs:List Value) (hm:Zwz w m cs) (k:Nat) (hk:k≤1000000) (hl:m.t.length≤100000000000000) :
  Calls Tryz.prog 121 #[.agg cs.toArray,.int .i64 k] w fun e w'=>e = .returned (.int .i64 (Zdj m.t k))∧Below w.heap.size w w':=by
 obtain⟨bo,bc,to',tc,rfl,-,ht⟩:=hm;have HT:=ħ ht;unfold Zdj;have bx:=(Below.refl w.heap.size w).alloc (Nat.le_refl _) (.cells #[.slice bo m.b.length bc,.slice to' m.t.length tc,.int .i64 m.r] 44);have B1:=ħ bx;have X1:Hid (Zae (w.alloc (.cells #[.slice bo m.b.length bc,.slice to' m.t.length tc,.int .i64 m.r] 44)) w.heap.size 44 [.slice bo m.b.length bc,.slice to' m.t.length tc,.int .i64 m.r]):=ħ (heap_alloc_new w _);have H1:=ħ (HT.o.below bx);clear bx ht HT;generalize m.b.length=nb at *;generalize m.r=mr at *;generalize m.t=tl at *
 go_enter Tryz.func121,Tryz.ntmps121
 go_upto_region 1 with (fail)
 generalize w.alloc (.cells #[.slice bo nb bc,.slice to' tl.length tc,.int .i64 mr] 44)=w1 at *;have x1:=X1.o.cell 1 _ rfl;by_cases hlt:k<tl.length
 ·have kk:(k:Int)<(tl.length:Nat):=by omega
  obtain⟨g,off,hao,hg,hc⟩:=H1.o.at Zbp k tl[k] (List.getElem?_eq_getElem hlt);have c0:=hc 0 _ rfl;rw[Nat.mul_one,Nat.add_zero] at c0;have HV:Hid (tl.getD k 0=tl[k]):=ħ (by rw[List.getD_eq_getElem?_getD,List.getElem?_eq_getElem hlt];rfl);generalize tl[k]=tk at *;generalize tl.length=tn at *;clear hc hg;subst hao
  go_wp2_with fail
  go_ret;exact⟨Za0 HV.o.symm,B1.o⟩
 ·have kk:¬ (k:Int)<(tl.length:Nat):=by omega
  have HV:Hid (tl.getD k 0=0):=ħ (by rw[List.getD_eq_getElem?_getD,List.getElem?_eq_none (by omega)];rfl);generalize tl.length=tn at *
  go_wp2_with fail
  go_ret;exact⟨Za0 HV.o.symm,B1.o⟩
end
section
open Go.RowKit Go.Sort
def Zgz {α:Type} (f:α→Bool) (ks:List α):Int:=match ks.findIdx? f with
 | some i=>(i:Int)
 | none=>-1
theorem Zkm {α:Type} (f:α→Bool) (ks:List α):decide (0≤Zgz f ks)=ks.any f:=by
 unfold Zgz
 cases h:ks.findIdx? f with
 | none =>
  rw[List.findIdx?_eq_none_iff] at h
  have:ks.any f=false:=by rw[List.any_eq_false];intro x hx;simp[h x hx]
  rw[this];rfl
 | some i =>
  rw[List.findIdx?_eq_some_iff_getElem] at h;obtain⟨h1,h2,_⟩:=h;have:ks.any f=true:=List.any_eq_true.2 ⟨_,List.getElem_mem h1,h2⟩;rw[this];show decide (0≤(i:Int))=true;exact decide_eq_true (by omega)
structure memFn (C:World→Prop) (g:Nat) (cb:Array Value) (f:Mem→Bool) (S:Mem→Prop):Prop where
 enters:∀ args w,(callFunc g args).run Tryz.prog w = .ok (.enter g args) w
 step:∀ w w',C w→Below w.heap.size w w'→C w'
 calls:∀ q w cs,S q→Zwz w q cs→C w→Calls Tryz.prog g (#[.agg cs.toArray]++cb) w fun e w'=>e = .returned (.bool (f q))∧Below w.heap.size w w'
theorem Ztw (w:World) (ks:List Mem) (ao:Option Addr) (n cap:Nat) (hn:n=ks.length) (hbig:n≤1000000) (hk:Zip w ks ao)
  (C:World→Prop) (g:Nat) (cb:Array Value) (f:Mem→Bool) (S:Mem→Prop) (hf:memFn C g cb f S) (hS:∀ q∈ks,S q) (hC:C w) :
  Calls Tryz.prog 138 #[.slice ao n cap,.func (.func g) #[] cb] w fun e w'=>e = .returned (.int .i64 (Zgz f ks))∧Below w.heap.size w w':=by
 have HK:=ħ hk;have HN:=ħ hn;have HS:=ħ hS;have HST:=ħ hf.step;have HCA:=ħ hf.calls;have eg:=hf.enters;have HI:Hid (Zgz f ks=match ks.findIdx? f with | some i=>(i:Int) | none=>-1):=ħ rfl;obtain⟨V,hV⟩:∃ V,Zgz f ks=V:=⟨_,rfl⟩;rw[hV] at HI ⊢;have C0:=ħ hC;have B0:=ħ (Below.refl w.heap.size w);clear hk hn hS hC hf hV
 go_enter Tryz.func138,Tryz.ntmps138
 go_wp2_with fail
 go_loopw [8] (fun cc wr=>∃ (i:Nat),cc = .int .i64 i∧i≤n∧Hid (Below w.heap.size w wr)∧Hid (C wr)∧Hid (∀ j k,j<i→ks[j]?=some k→f k=false)) (fun c _=>(n-intOf c).toNat)
 case atStart=>exact⟨0,rfl,by omega,B0,C0,ħ (fun j k hj=>absurd hj (Nat.not_lt_zero j))⟩
 case round =>
  clear B0 C0;obtain⟨i,rfl,hi,hw,hc,hno⟩:=hrel;have e2:IntKind.i64.wrap ((i:Int)+1)=((i+1:Nat):Int):=IntWalk.i64_in _ (by omega);by_cases hlt:i<n
  ·have ii:(i:Int)<n:=by omega
   obtain⟨q,hq⟩:∃ q,ks[i]?=some q:=⟨_,List.getElem?_eq_getElem (by rw[← HN.o];exact hlt)⟩;have HQI:=ħ hq;obtain⟨gk,off,cs,hao,hgl,hmc,hrd⟩:=(HK.o.below hw.o).at i q hq;obtain⟨bo,bc,to',tc,rfl,hm1,hm2⟩:=hmc;have HMC:Hid (Zwz wr q [.slice bo q.b.length bc,.slice to' q.t.length tc,.int .i64 q.r]):=ħ ⟨bo,bc,to',tc,rfl,hm1,hm2⟩;clear hm1 hm2 hgl;have s0:=hrd 0 _ rfl;have s1:=hrd 1 _ rfl;have s2:=hrd 2 _ rfl;rw[Nat.add_zero] at s0;have HAO:=ħ hao;clear hrd hq;subst hao
   go_wp2_with fail
   refine (HCA.o q wr _ (HS.o q (List.mem_of_getElem? HQI.o)) HMC.o hc.o).mono ?_;rintro e w3 ⟨rfl,b3⟩;have hw3:=ħ (hw.o.trans (b3.mono hw.o.size));have hc3:=ħ (HST.o _ _ hc.o b3);clear b3 s0 s1 s2 hw hc
   cases hq:f q with
   | true =>
    have HX:Hid (V=(i:Int)):=ħ (by
     have hlt':i<ks.length:=by rw[← HN.o];exact hlt
     have:ks.findIdx? f=some i:=by
      rw[List.findIdx?_eq_some_iff_getElem];refine⟨hlt',?_,fun j hj=>?_⟩
      ·have:ks[i]=q:=by have:=HQI.o;rw[List.getElem?_eq_getElem hlt'] at this;exact Option.some.inj this
       rw[this];exact hq
      ·have:=hno.o j ks[j] hj (List.getElem?_eq_getElem (by omega))
       simp[this]
     rw[HI.o,this])
    clear hq
    go_wp2
    go_ret;exact⟨Za0 HX.o.symm,hw3.o⟩
   | false =>
    have HQ2:=ħ hq;clear hq
    go_wp2
    go_roundw
    case rel=>exact⟨i+1,by go_num,by omega,hw3,hc3,ħ (fun j k' hj hk'=>by
     rcases Nat.lt_or_ge j i with h | h
     ·exact hno.o j k' h hk'
     ·obtain rfl:j=i:=by omega
      rw[HQI.o] at hk';obtain rfl:=Option.some.inj hk'
      exact HQ2.o)⟩
    case measure=>simp only[intOf];omega
  ·have ii:¬ ((i:Int)<n):=by omega
   have HX:Hid (V = -1):=ħ (by
    have:ks.findIdx? f=none:=by
     rw[List.findIdx?_eq_none_iff];intro k hk;obtain⟨j,hj⟩:=List.mem_iff_getElem?.1 hk;have hjl:=(List.getElem?_eq_some_iff.1 hj).1;exact hno.o j k (by rw[← HN.o] at hjl;omega) hj
    rw[HI.o,this])
   go_wp2
   go_ret;exact⟨Za0 HX.o.symm,hw.o⟩
theorem Zqo (w:World) (ks:List Mem) (ao:Option Addr) (n cap:Nat) (hn:n=ks.length) (hbig:n≤1000000) (hk:Zip w ks ao)
  (C:World→Prop) (g:Nat) (cb:Array Value) (f:Mem→Bool) (S:Mem→Prop) (hf:memFn C g cb f S) (hS:∀ q∈ks,S q) (hC:C w) :
  Calls Tryz.prog 75 #[.slice ao n cap,.func (.func g) #[] cb] w fun e w'=>e = .returned (.bool (ks.any f))∧Below w.heap.size w w':=by
 have HC:=ħ (Ztw w ks ao n cap hn hbig hk C g cb f S hf hS hC);have HV:=ħ (Zkm f ks);generalize Zgz f ks=x at *;generalize ks.any f=V at *;clear hk hf hS hC hn
 go_enter Tryz.func75,Tryz.ntmps75
 go_wp2_with fail
 refine HC.o.mono ?_;rintro e w3 ⟨rfl,b3⟩;have B3:=ħ b3;clear b3
 go_wp2
 go_ret;exact⟨Zad (by rw[← HV.o]),B3.o⟩
structure useFn (C:World→Prop) (g:Nat) (cb:Array Value) (f:Use→Bool) (S:Use→Prop):Prop where
 enters:∀ args w,(callFunc g args).run Tryz.prog w = .ok (.enter g args) w
 step:∀ w w',C w→Below w.heap.size w w'→C w'
 calls:∀ q w cs,S q→cs=Zcp q→C w→Calls Tryz.prog g (#[.agg cs.toArray]++cb) w fun e w'=>e = .returned (.bool (f q))∧Below w.heap.size w w'
theorem Ztx (w:World) (ks:List Use) (ao:Option Addr) (n cap:Nat) (hn:n=ks.length) (hbig:n≤1000000) (hk:Zal Zcp w ao ks)
  (C:World→Prop) (g:Nat) (cb:Array Value) (f:Use→Bool) (S:Use→Prop) (hf:useFn C g cb f S) (hS:∀ q∈ks,S q) (hC:C w) :
  Calls Tryz.prog 140 #[.slice ao n cap,.func (.func g) #[] cb] w fun e w'=>e = .returned (.int .i64 (Zgz f ks))∧Below w.heap.size w w':=by
 have HK:=ħ hk;have HN:=ħ hn;have HS:=ħ hS;have HST:=ħ hf.step;have HCA:=ħ hf.calls;have eg:=hf.enters;have HI:Hid (Zgz f ks=match ks.findIdx? f with | some i=>(i:Int) | none=>-1):=ħ rfl;obtain⟨V,hV⟩:∃ V,Zgz f ks=V:=⟨_,rfl⟩;rw[hV] at HI ⊢;have C0:=ħ hC;have B0:=ħ (Below.refl w.heap.size w);clear hk hn hS hC hf hV
 go_enter Tryz.func140,Tryz.ntmps140
 go_wp2_with fail
 go_loopw [8] (fun cc wr=>∃ (i:Nat),cc = .int .i64 i∧i≤n∧Hid (Below w.heap.size w wr)∧Hid (C wr)∧Hid (∀ j k,j<i→ks[j]?=some k→f k=false)) (fun c _=>(n-intOf c).toNat)
 case atStart=>exact⟨0,rfl,by omega,B0,C0,ħ (fun j k hj=>absurd hj (Nat.not_lt_zero j))⟩
 case round =>
  clear B0 C0;obtain⟨i,rfl,hi,hw,hc,hno⟩:=hrel;have e2:IntKind.i64.wrap ((i:Int)+1)=((i+1:Nat):Int):=IntWalk.i64_in _ (by omega);by_cases hlt:i<n
  ·have ii:(i:Int)<n:=by omega
   obtain⟨q,hq⟩:∃ q,ks[i]?=some q:=⟨_,List.getElem?_eq_getElem (by rw[← HN.o];exact hlt)⟩;have HQI:=ħ hq;obtain⟨gk,off,hao,hgl,hcc⟩:=(HK.o.below hw.o).at Zbv i q hq
   have hrd:Zau wr gk (off+i*4) [.int .i64 q.q,.int .i64 q.w,.int .i64 q.f,.int .i64 q.h]:=fun j u hj=>hcc j u hj
   clear hcc hgl;have s0:=hrd 0 _ rfl;have s1:=hrd 1 _ rfl;have s2:=hrd 2 _ rfl;have s3:=hrd 3 _ rfl;rw[Nat.add_zero] at s0;have HAO:=ħ hao;clear hrd hq;subst hao
   go_wp2_with fail
   refine (HCA.o q wr _ (HS.o q (List.mem_of_getElem? HQI.o)) rfl hc.o).mono ?_;rintro e w3 ⟨rfl,b3⟩;have hw3:=ħ (hw.o.trans (b3.mono hw.o.size));have hc3:=ħ (HST.o _ _ hc.o b3);clear b3 s0 s1 s2 s3 hw hc
   cases hq:f q with
   | true =>
    have HX:Hid (V=(i:Int)):=ħ (by
     have hlt':i<ks.length:=by rw[← HN.o];exact hlt
     have:ks.findIdx? f=some i:=by
      rw[List.findIdx?_eq_some_iff_getElem];refine⟨hlt',?_,fun j hj=>?_⟩
      ·have:ks[i]=q:=by have:=HQI.o;rw[List.getElem?_eq_getElem hlt'] at this;exact Option.some.inj this
       rw[this];exact hq
      ·have:=hno.o j ks[j] hj (List.getElem?_eq_getElem (by omega))
       simp[this]
     rw[HI.o,this])
    clear hq
    go_wp2
    go_ret;exact⟨Za0 HX.o.symm,hw3.o⟩
   | false =>
    have HQ2:=ħ hq;clear hq
    go_wp2
    go_roundw
    case rel=>exact⟨i+1,by go_num,by omega,hw3,hc3,ħ (fun j k' hj hk'=>by
     rcases Nat.lt_or_ge j i with h | h
     ·exact hno.o j k' h hk'
     ·obtain rfl:j=i:=by omega
      rw[HQI.o] at hk';obtain rfl:=Option.some.inj hk'
      exact HQ2.o)⟩
    case measure=>simp only[intOf];omega
  ·have ii:¬ ((i:Int)<n):=by omega
   have HX:Hid (V = -1):=ħ (by
    have:ks.findIdx? f=none:=by
     rw[List.findIdx?_eq_none_iff];intro k hk;obtain⟨j,hj⟩:=List.mem_iff_getElem?.1 hk;have hjl:=(List.getElem?_eq_some_iff.1 hj).1;exact hno.o j k (by rw[← HN.o] at hjl;omega) hj
    rw[HI.o,this])
   go_wp2
   go_ret;exact⟨Za0 HX.o.symm,hw.o⟩
theorem Zqp (w:World) (ks:List Use) (ao:Option Addr) (n cap:Nat) (hn:n=ks.length) (hbig:n≤1000000) (hk:Zal Zcp w ao ks)
  (C:World→Prop) (g:Nat) (cb:Array Value) (f:Use→Bool) (S:Use→Prop) (hf:useFn C g cb f S) (hS:∀ q∈ks,S q) (hC:C w) :
  Calls Tryz.prog 78 #[.slice ao n cap,.func (.func g) #[] cb] w fun e w'=>e = .returned (.bool (ks.any f))∧Below w.heap.size w w':=by
 have HC:=ħ (Ztx w ks ao n cap hn hbig hk C g cb f S hf hS hC);have HV:=ħ (Zkm f ks);generalize Zgz f ks=x at *;generalize ks.any f=V at *;clear hk hf hS hC hn
 go_enter Tryz.func78,Tryz.ntmps78
 go_wp2_with fail
 refine HC.o.mono ?_;rintro e w3 ⟨rfl,b3⟩;have B3:=ħ b3;clear b3
 go_wp2
 go_ret;exact⟨Zad (by rw[← HV.o]),B3.o⟩
end
section
open Go.RowKit Go.Sort
def Zg0 (w:World) (ns:List (List Nat)) (r:Option (List Int)) (e:Ending) (w':World):Prop :=
 (match r with
  | none=>e = .returned (.tuple #[.slice none 0 0,.bool false])
  | some v=>∃ ro rc,e = .returned (.tuple #[.slice ro ns.length rc,.bool true])∧OwnK w' w.heap.size 2 ns.length rc ((Zww ns v).flatMap Zp1) ro)∧Below w.heap.size w w'
theorem Zg0.no {w w':World} {ns:List (List Nat)} {r:Option (List Int)} (h:r=none) (hb:Below w.heap.size w w'):Zg0 w ns r (.returned (.tuple #[.slice none 0 0,.bool false])) w':=by
 subst h;exact⟨rfl,hb⟩
theorem Zg0.yes {w w':World} {ns:List (List Nat)} {r:Option (List Int)} {v:List Int} {ro:Option Addr} {n rc:Nat} (h:r=some v) (hn:n=ns.length) (ho:OwnK w' w.heap.size 2 n rc ((Zww ns v).flatMap Zp1) ro) (hb:Below w.heap.size w w'):Zg0 w ns r (.returned (.tuple #[.slice ro n rc,.bool true])) w':=by
 subst h;subst hn;exact⟨⟨ro,rc,rfl,ho⟩,hb⟩
theorem Zfb.open {w w':World} {N:Nat} {r:Option (List Int)} {e:Ending} (h:Zfb w N r e w'):(r=none∧e = .returned (.tuple #[.slice none 0 0,.bool false])∧Below w.heap.size w w')∨(∃ v V,r=some v∧e = .returned (.tuple #[.slice (some ⟨V,0,none⟩) N N,.bool true])∧Zae w' V 3 (ivs v)∧w.heap.size≤V∧Below w.heap.size w w'):=by
 obtain⟨h1,h2⟩:=h
 cases r with
 | none=>exact .inl ⟨rfl,h1,h2⟩
 | some v=>obtain⟨V,h3,h4,h5⟩:=h1;exact .inr ⟨v,V,rfl,h3,h4,h5,h2⟩
end
section
open Go.RowKit Go.Sort Go.Maps
theorem Zsi (k:Ky) (hc:inC k.c=true) (w:World):Calls Tryz.prog 237 #[.agg (kyC k).toArray] w fun e w'=>e = .returned (.agg (kyC (Ztf k)).toArray)∧RowKit.Below w.heap.size w w':=by
 have h:=Zn5 k.l k.r k.c w;rw[Z53 k.c hc] at h;exact h
theorem Zpa (k:Ky) (hb:KyB k) (hc:inC k.c=true) (w:World):Calls Tryz.prog 201 #[.agg (kyC k).toArray] w fun e w'=>e = .returned (.tuple #[.agg (kyC (Zeh k).1).toArray,.bool (Zeh k).2])∧RowKit.Below w.heap.size w w':=by
 have HO:=ħ (fun W=>Zsi k hc W);have hl:=Zd3 k.r k.l hb.2 hb.1;have HV:Hid (Zeh k=if ltL k.r k.l=true then (Ztf k,false) else (k,true)):=ħ rfl;have HK:Hid (kyC k=[.string (Zac k.l),.string (Zac k.r),.int .i64 k.c]):=ħ rfl;have HK2:Hid (kyC (Ztf k)=[.string (Zac k.r),.string (Zac k.l),.int .i64 (-k.c-1)]):=ħ rfl;have bx:=((RowKit.Below.refl w.heap.size w).alloc (Nat.le_refl _) (.cells (kyC k).toArray 121)).alloc (by simp) (.cells #[.string ⟨#[]⟩,.string ⟨#[]⟩,.int .i64 0] 121);have B1:=ħ bx;have X1:Hid (Zae ((w.alloc (.cells (kyC k).toArray 121)).alloc (.cells #[.string ⟨#[]⟩,.string ⟨#[]⟩,.int .i64 0] 121)) w.heap.size 121 (kyC k)):=ħ (Za2 w _ _);have Z1:Hid (Zae ((w.alloc (.cells (kyC k).toArray 121)).alloc (.cells #[.string ⟨#[]⟩,.string ⟨#[]⟩,.int .i64 0] 121)) (w.heap.size+1) 121 [.string ⟨#[]⟩,.string ⟨#[]⟩,.int .i64 0]):=ħ (heap_alloc2_new w _ _);rw[HK.o] at B1 X1 Z1 HO;clear bx hc;have hl2:=Zd3 k.l k.r hb.1 hb.2;have hir:=Zd3 k.r k.r hb.2 hb.2;rw[Za3] at hir;obtain⟨b,hbv⟩:∃ b,ltL k.r k.l=b:=⟨_,rfl⟩
 have hcs:if b=true then Op.bytesLess (Zac k.l).toList (Zac k.r).toList=false∧((Zac k.l).toList==(Zac k.r).toList)=false else Op.bytesLess (Zac k.l).toList (Zac k.r).toList=true∨((Zac k.l).toList==(Zac k.r).toList)=true:=by
  cases b with
  | true =>
   rw[if_pos rfl];constructor
   ·rw[hl2]
    cases h3:ltL k.l k.r with
    | false=>rfl
    | true=>have:=Zdb _ _ _ hbv h3;rw[Za3] at this;cases this
   ·cases h3:((Zac k.l).toList==(Zac k.r).toList) with
    | false=>rfl
    | true=>have:=eq_of_beq h3;rw[hbv,this,hir] at hl;cases hl
  | false =>
   rw[if_neg (by simp)];rcases Zd1 k.l k.r with h | h | h
   ·exact .inl (hl2.trans h)
   ·refine .inr ?_;rw[h];exact beq_self_eq_true _
   ·rw[hbv] at h;cases h
 rw[hbv] at hl HV;clear hbv hl2 hir
 cases b with
 | true =>
  rw[if_pos rfl] at hcs;obtain⟨hc1,hc2⟩:=hcs;have HV2:Hid (Zeh k=(Ztf k,false)):=ħ HV.o;rw[HV2.o,HK.o];rw[HK2.o] at HO ⊢;clear HK HV HV2 HK2 hb;generalize Zac k.l=y1 at *;generalize Zac k.r=y2 at *;generalize -k.c-1=y4 at *;generalize k.c=y3 at *
  go_enter Tryz.func201,Tryz.ntmps201
  go_upto_region 1 with (fail)
  generalize (w.alloc (.cells #[.string y1,.string y2,.int .i64 y3] 121)).alloc (.cells #[.string ⟨#[]⟩,.string ⟨#[]⟩,.int .i64 0] 121)=w1 at *;have x0:=X1.o.cell 0 _ rfl;have x1:=X1.o.cell 1 _ rfl;have x2:=X1.o.cell 2 _ rfl
  go_wp2_with fail
  refine (HO.o w1).mono ?_;rintro e w2 ⟨rfl,b2⟩;have B2:=ħ (B1.o.trans (b2.mono B1.o.size));have Z2:=ħ (Z1.o.step b2);clear b2 x0 x1 x2
  go_wp2_with (refine Zao rfl 121 (.tmp 2) (.tmp 10) rfl (w.heap.size+1) #[.string y2,.string y1,.int .i64 y4] ?s1 ?s2 121 _ Z2.o (Zfr _ rfl) rfl (by simp[Value.oneCell']) ?_;(case s1=>rfl);(case s2=>rfl);intro w9 s9 u9;have S9:=ħ s9;have U9:=ħ u9;clear s9 u9)
  exact bodyPost_ret (Zdp (p:=2) (u:=3) (by kernel_rfl) _ _ (w.heap.size+1) 121 _ (0,0) _ rfl S9.o Tryz.underlying121 rfl (Zfr _ rfl)) rfl ⟨rfl,U9.o.below B2.o (Nat.le_succ _)⟩
 | false =>
  rw[if_neg (by simp)] at hcs;have HV2:Hid (Zeh k=(k,true)):=ħ HV.o;rw[HV2.o,HK.o];clear HK HV HV2 HK2 HO;generalize Zac k.l=y1 at *;generalize Zac k.r=y2 at *;generalize k.c=y3 at *;clear hb hl
  go_enter Tryz.func201,Tryz.ntmps201
  go_upto_region 1 with (fail)
  generalize (w.alloc (.cells #[.string y1,.string y2,.int .i64 y3] 121)).alloc (.cells #[.string ⟨#[]⟩,.string ⟨#[]⟩,.int .i64 0] 121)=w1 at *;have x0:=X1.o.cell 0 _ rfl;have x1:=X1.o.cell 1 _ rfl;have x2:=X1.o.cell 2 _ rfl;rcases hcs with hcs | hcs
  all_goals go_wp2_with (refine Zao rfl 121 (.tmp 2) (.tmp 11) rfl (w.heap.size+1) #[.string y1,.string y2,.int .i64 y3] ?s1 ?s2 121 _ Z1.o (Zfr _ rfl) rfl (by simp[Value.oneCell']) ?_;(case s1=>rfl);(case s2=>rfl);intro w9 s9 u9;have S9:=ħ s9;have U9:=ħ u9;clear s9 u9)
  all_goals exact bodyPost_ret (Zdp (p:=2) (u:=3) (by kernel_rfl) _ _ (w.heap.size+1) 121 _ (0,0) _ rfl S9.o Tryz.underlying121 rfl (Zfr _ rfl)) rfl ⟨rfl,U9.o.below B1.o (Nat.le_succ _)⟩
def Zm9 (w:World) (b:Nat) (S:List Ky):Prop :=
 ∃ D:DataW Unit,w.ownsMap Tryz.prog 121 (plainElem Tryz.prog 4) b S.length D∧(∀ l,has D l=true↔∃ k∈S,Zbt k=l)∧(∀ k∈S,∀ zd,D.atKey (Zbt k) zd = .lit (.bool true))∧Maps.size D=(S.foldl Zmp []).length
theorem Zm9.setK {w:World} {b:Nat} {S:List Ky} (h:Zm9 w b S):Zfg w b S:=by
 obtain⟨D,h1,h2,h3,-⟩:=h;exact⟨D,h1,h2,h3⟩
theorem Zm9.step {w w':World} {b:Nat} {S:List Ky} (h:Zm9 w b S) (hb:RowKit.Below w.heap.size w w'):Zm9 w' b S:=by
 obtain⟨D,h1,h2⟩:=h;exact⟨D,h1.kept (Zcf hb none) (by simp),h2⟩
theorem Zm9.nil (w:World):Zm9 (w.alloc (.map #[] 0)) w.heap.size []:=by
 refine⟨_,World.ownsMap_made w _ _ _,fun l=>?_,fun k hk=>absurd hk List.not_mem_nil,rfl⟩;constructor
 ·intro h;cases h
 ·rintro⟨k,hk,_⟩;exact absurd hk List.not_mem_nil
theorem Zsj (x:Ky):∀ l,Zpx l→(Zmp l x).length=if x∈l then l.length else l.length+1
 | [],_=>by simp[Zmp]
 | y::ys,h=>by
  have h0:=List.pairwise_cons.1 h;unfold Zmp;by_cases e:x=y
  ·subst e;rw[if_pos rfl,if_pos (by simp)]
  ·rw[if_neg e]
   by_cases h2:ltK x y=true
   ·rw[if_pos h2,if_neg]
    ·rfl
    ·intro hm
     rcases List.mem_cons.1 hm with e2 | hm
     ·exact e e2
     ·have:=Zfj _ _ _ h2 (h0.1 x hm)
      rw[Zdt] at this;cases this
   ·rw[if_neg h2,List.length_cons,Zsj x ys h0.2]
    by_cases hm:x∈ys
    ·rw[if_pos hm,if_pos (List.mem_cons_of_mem _ hm)];rfl
    ·rw[if_neg hm,if_neg (fun h3=>by rcases List.mem_cons.1 h3 with e2 | h3;exact e e2;exact hm h3)];rfl
theorem Zm9.put {w w':World} {b:Nat} {S:List Ky} {D:DataW Unit} (hS:∀ k∈S,KyOk k) (k:Ky) (hk:KyOk k) (h:w.ownsMap Tryz.prog 121 (plainElem Tryz.prog 4) b S.length D) (h1:∀ l,has D l=true↔∃ k∈S,Zbt k=l) (h2:∀ k∈S,∀ zd,D.atKey (Zbt k) zd = .lit (.bool true)) (h3:Maps.size D=(S.foldl Zmp []).length)
  (h':w'.ownsMap Tryz.prog 121 (plainElem Tryz.prog 4) b (S.length+1) (D.put (Zbt k) (.lit (.bool true)))):Zm9 w' b (S++[k]):=by
 obtain⟨D',g1,g2,g3⟩:=Zfg.put hS k hk h h1 h2 h';refine⟨D.put (Zbt k) (.lit (.bool true)),by rw[List.length_append];exact h',?_,?_,?_⟩
 ·intro l
  have:=(Zfg.put hS k hk h h1 h2 h');by_cases he:l=Zbt k
  ·subst he
   rw[has_put_same h.isMap (Zfq k hk)];exact⟨fun _=>⟨k,by simp,rfl⟩,fun _=>rfl⟩
  ·rw[has_put_other he,h1]
   constructor
   ·rintro⟨x,hx,hl⟩;exact⟨x,by simp[hx],hl⟩
   ·rintro⟨x,hx,hl⟩
    rcases List.mem_append.1 hx with hx | hx
    ·exact⟨x,hx,hl⟩
    ·rw[List.mem_singleton] at hx
     subst hx;exact absurd hl.symm he
 ·intro x hx zd
  by_cases he:Zbt x=Zbt k
  ·rw[he,atKey_put_same h.isMap (Zfq k hk)]
  ·rw[atKey_put_other he]
   rcases List.mem_append.1 hx with hx | hx
   ·exact h2 x hx zd
   ·rw[List.mem_singleton] at hx
    subst hx;exact absurd rfl he
 ·rw[size_put (h.tidy Zmx),List.foldl_append,List.foldl_cons,List.foldl_nil,Zsj k _ (Zgo S [] .nil),h3]
  have hm:has D (Zbt k)=true↔k∈S.foldl Zmp []:=by
   rw[h1,Zfk];constructor
   ·rintro⟨x,hx,hl⟩
    have:=Zgw x k (hS x hx) hk hl;subst this;exact .inr hx
   ·rintro (h4 | h4)
    ·cases h4
    ·exact⟨k,h4,rfl⟩
  by_cases hh:has D (Zbt k)=true
  ·rw[if_pos hh,if_pos (hm.1 hh)]
  ·rw[if_neg hh,if_neg (fun h4=>hh (hm.2 h4))]
end
section
open Go.RowKit Go.Sort Go.Maps
def Zg1 (k:Ky):Prop:=Zhn k.l=true∧Zhn k.r=true∧inC k.c=true
mutual
theorem Zpb:∀ p:Prd,Zcc p=true→∀ k∈Zcq p,Zg1 k
 | .mk k l r c ks,h=>by
  unfold Zcc at h;unfold Zcq;by_cases h0:k=0
  ·rw[if_pos h0] at h ⊢
   simp only[Bool.and_eq_true] at h
   have hk:ks=[]:=by simpa using h.1.1.1
   subst hk;intro x hx;rw[show Zb1 []=[] from rfl,List.append_nil,List.mem_singleton] at hx;subst hx;exact⟨h.1.1.2,h.1.2,h.2⟩
  ·rw[if_neg h0] at h ⊢
   simp only[Bool.and_eq_true] at h;intro x hx;rw[List.nil_append] at hx;exact Zl7 ks h.2 x hx
theorem Zl7:∀ ks:List Prd,Zil ks=true→∀ k∈Zb1 ks,Zg1 k
 | [],_=>by simp[Zb1]
 | p::ps,h=>by
  unfold Zil at h;rw[Bool.and_eq_true] at h;intro x hx;unfold Zb1 at hx;rcases List.mem_append.1 hx with hx | hx
  ·exact Zpb p h.1 x hx
  ·exact Zl7 ps h.2 x hx
end
theorem Zg1.ok {k:Ky} (h:Zg1 k):KyOk k:=Z3e h.1 h.2.1 h.2.2
theorem Zg1.nmb {k:Ky} (h:Zg1 k):NmB k.l∧NmB k.r:=by
 have h1:=Zho h.1;have h2:=Zho h.2.1;exact⟨⟨h1.1,by omega⟩,⟨h2.1,by omega⟩⟩
theorem Zg1.opp {k:Ky} (h:Zg1 k):KyOk (Ztf k):=by
 have h3:=h.2.2;unfold inC at h3;simp only[Bool.and_eq_true,decide_eq_true_eq] at h3;have h4:=h.ok;exact⟨h4.rb,h4.lb,h4.rl,h4.ll,by show _≤-k.c-1;omega,by show -k.c-1≤_;omega⟩
theorem Zg1.ori {k:Ky} (h:Zg1 k):KyOk (Zeh k).1:=by
 unfold Zeh;split
 ·exact h.opp
 ·exact h.ok
theorem Zet {p:Prd} (h:Zas p=true):∀ k∈Zam p,Zg1 k:=by
 unfold Zas at h;rw[Bool.and_eq_true] at h
 exact fun k hk=>Zpb p h.2 k ((Zb8 p k).1 hk)
theorem Zkn {p:Prd} (h:Zas p=true):(Zam p).length≤100:=by
 unfold Zas Ze8 at h;simp only[Bool.and_eq_true,decide_eq_true_eq] at h;have h1:(Zam p).length≤(Zcq p).length:=Zhj _ _ ((Zhh p).imp (fun {a b} hab e=>by subst e;rw[Zdt] at hab;cases hab)) (fun x hx=>(Zb8 p x).1 hx);have:=Zgn p;omega
def Zfh (ks:List Ky):List Ky:=(ks.map (fun k=>(Zeh k).1)).filter (fun k=>!Zzn k)
theorem Zsk (a b:List Ky):Zfh (a++b)=Zfh a++Zfh b:=by unfold Zfh;rw[List.map_append,List.filter_append]
theorem Z04 (k:Ky):Zfh [k]=if Zzn (Zeh k).1=true then [] else [(Zeh k).1]:=by
 unfold Zfh;cases h:Zzn (Zeh k).1<;>simp[h]
theorem Zw0 {ks:List Ky} {j:Nat} {k:Ky} (h:ks[j]?=some k):Zfh (ks.take (j+1))=Zfh (ks.take j)++Zfh [k]:=by
 obtain⟨hi,rfl⟩:=List.getElem?_eq_some_iff.1 h;rw[List.take_add_one,List.getElem?_eq_getElem hi,Zsk];rfl
theorem Zsl (ks:List Ky):(Zfh ks).length≤ks.length:=by
 unfold Zfh;exact Nat.le_trans (List.length_filter_le _ _) (by rw[List.length_map];exact Nat.le_refl _)
theorem Zw1 {ks:List Ky} (h:∀ k∈ks,Zg1 k):∀ k∈Zfh ks,KyOk k:=by
 intro k hk;unfold Zfh at hk;obtain⟨x,hx,rfl⟩:=List.mem_map.1 (List.mem_filter.1 hk).1;exact (h x hx).ori
theorem Zw2 (ps:List Prd):Za7 ps=(Zfh (ps.flatMap Zam)).foldl Zmp []:=rfl
theorem Zty (ps:List Prd):Zpx (Za7 ps):=Zgo _ _ .nil
theorem Zl8 (ps:List Prd) (x:Ky):x∈Za7 ps↔x∈Zfh (ps.flatMap Zam):=by rw[Zw2,Zfk];simp
def okQ (ns:List (List Nat)) (p:Prd):Bool:=Zas p&&(Zam p).all (fun k=>Zfs ns k.l&&Zfs ns k.r)
def Zec (ns:List (List Nat)) (most:Int) (ps:List Prd):Int:=if (ps.all (okQ ns)&&Zf8 ns most)=true then (if 8<(Za7 ps).length then 6 else 0) else 1
theorem Zw3 {ns:List (List Nat)} {most:Int} {ps:List Prd} {p:Prd} (hp:p∈ps) (h:okQ ns p=false):Zec ns most ps=1:=by
 unfold Zec;rw[if_neg];intro h2;rw[Bool.and_eq_true] at h2;have:=List.all_eq_true.1 h2.1 p hp;rw[h] at this;cases this
theorem Z05 {ns:List (List Nat)} {most:Int} {ps:List Prd} (h:Zf8 ns most=false):Zec ns most ps=1:=by
 unfold Zec;rw[h,Bool.and_false];rfl
theorem Zpc {ns:List (List Nat)} {most:Int} {ps:List Prd} (h:∀ p∈ps,okQ ns p=true) (hg:Zf8 ns most=true):Zec ns most ps=if 8<(Za7 ps).length then 6 else 0:=by
 unfold Zec;rw[if_pos];rw[hg,Bool.and_true];exact List.all_eq_true.2 h
theorem Zqq {ns:List (List Nat)} {p:Prd} (h:Zas p=false):okQ ns p=false:=by unfold okQ;rw[h];rfl
theorem Zqr {ns:List (List Nat)} {p:Prd} {k:Ky} (hk:k∈Zam p) (h:Zfs ns k.l=false∨Zfs ns k.r=false):okQ ns p=false:=by
 unfold okQ;rw[Bool.and_eq_false_iff]
 right
 rw[List.all_eq_false];refine⟨k,hk,?_⟩;rcases h with h | h<;>simp[h]
theorem Zpd {ns:List (List Nat)} {p:Prd} (hv:Zas p=true) (h:∀ k∈Zam p,Zfs ns k.l=true∧Zfs ns k.r=true):okQ ns p=true:=by
 unfold okQ;rw[hv,Bool.true_and,List.all_eq_true]
 exact fun k hk=>by rw[(h k hk).1,(h k hk).2];rfl
theorem Zw4 {ns:List (List Nat)} {most:Int} {ps:List Prd} (h:Zec ns most ps≠1):(∀ p∈ps,Zas p=true)∧Zp0 ns (ps.flatMap Zam)∧Zf8 ns most=true:=by
 unfold Zec at h;by_cases h2:(ps.all (okQ ns)&&Zf8 ns most)=true
 ·rw[Bool.and_eq_true,List.all_eq_true] at h2
  refine⟨fun p hp=>?_,fun k hk=>?_,h2.2⟩
  ·have:=h2.1 p hp
   unfold okQ at this;rw[Bool.and_eq_true] at this;exact this.1
  ·obtain⟨p,hp,hk⟩:=List.mem_flatMap.1 hk
   have:=h2.1 p hp;unfold okQ at this;rw[Bool.and_eq_true,List.all_eq_true] at this;have:=this.2 k hk;rw[Bool.and_eq_true] at this;exact this
 ·rw[if_neg h2] at h;exact absurd rfl h
def Z06 (w:World) (D:Nat) (ao:Option Addr) (n cp:Nat) (most:Int) (po:Option Addr) (pn pc:Nat) (ro:Option Addr) (rc:Nat) (m:Nat):Prop:=Zae w D 218 [.slice ao n cp,.int .i64 most,.slice po pn pc,.slice ro m rc]
def Zg2 (w:World) (c:Int) (cs:List Ky) (ao:Option Addr) (n cp:Nat) (most:Int) (po:Option Addr) (pn pc:Nat) (e:Ending) (w':World):Prop :=
 (if c=0 then ∃ D ro rc,e = .returned (.tuple #[.pointer (some ⟨D,0,none⟩),.int .i64 0])∧w.heap.size≤D∧Z06 w' D ao n cp most po pn pc ro rc cs.length∧OwnK w' w.heap.size 3 cs.length rc (cs.flatMap kyC) ro
  else e = .returned (.tuple #[.pointer none,.int .i64 c]))∧Below w.heap.size w w'
theorem Zg2.bad {w w':World} {c c':Int} {cs:List Ky} {ao:Option Addr} {n cp:Nat} {most:Int} {po:Option Addr} {pn pc:Nat} {e:Ending} (h:c'=c) (h0:c≠0) (he:e = .returned (.tuple #[.pointer none,.int .i64 c])) (hb:Below w.heap.size w w'):Zg2 w c' cs ao n cp most po pn pc e w':=by
 subst h;refine⟨?_,hb⟩;rw[if_neg h0];exact he
theorem Zg2.good {w w':World} {c':Int} {cs:List Ky} {ao:Option Addr} {n cp:Nat} {most:Int} {po:Option Addr} {pn pc:Nat} {D:Nat} {ro:Option Addr} {rc m:Nat} {e:Ending} (h:c'=0) (he:e = .returned (.tuple #[.pointer (some ⟨D,0,none⟩),.int .i64 0])) (hD:w.heap.size≤D) (hm:m=cs.length) (hp:Z06 w' D ao n cp most po pn pc ro rc m) (ho:OwnK w' w.heap.size 3 m rc (cs.flatMap kyC) ro) (hb:Below w.heap.size w w'):Zg2 w c' cs ao n cp most po pn pc e w':=by
 subst h;subst hm;refine⟨?_,hb⟩;rw[if_pos rfl];exact⟨D,ro,rc,he,hD,hp,ho⟩
end
section
open Go.RowKit Go.Sort Go.Maps
theorem Z07 (w:World) (P:Nat→Prop) (ps:List Prd) (po:Option Addr) (pn pc:Nat) (ao:Option Addr) (n cp:Nat) (most:Int) (ns:List (List Nat)) (B:Nat) (hT:Tab w B) (hps:Zcl w P ps po) (hpn:pn=ps.length) (hpb:∀ p∈ps,Zox p) (hpc:∀ p∈ps,Zcx p≤1000000) (hpl:pn≤1000)
  (hn:n=ns.length) (h:Zf3 w ao ns) (hb:∀ s∈ns,NmB s) (hasc:Zlx ns) (hbig:n≤1000) :
  Calls Tryz.prog 173 #[.slice ao n cp,.int .i64 most,.slice po pn pc] w fun e w'=>Zg2 w (Zec ns most ps) (Za7 ps) ao n cp most po pn pc e w':=by
 have HT:=ħ (fun W (hW:Below w.heap.size w W)=>Tab.keep hT (fun k hk=>hW.block k (Nat.lt_of_lt_of_le hk hT.size)) hW.size);have HGV:=ħ (fun W (hW:Below w.heap.size w W)=>Zwr ns most ao n cp W B (HT.o W hW) hn (h.below hW) hb (by omega));have HIX:=ħ (fun W (hW:Below w.heap.size w W) x (hx:NmB x)=>Zkk W ao n cp most ns x hn (h.below hW) hb hx hasc (by omega));have HVP:=ħ (fun p (hp:p∈ps) (vs:List Value) W (hW:Below w.heap.size w W) (hpv:Zan W P p vs)=>Zkg p W P vs B (hpc p hp) (hpb p hp) hpv (HT.o W hW));have HPS:=ħ (fun W (hW:Below w.heap.size w W)=>hps.below hW);have HPN:=ħ hpn;have HBAD:=ħ (fun p hp h=>Zw3 (ns:=ns) (most:=most) (ps:=ps) (p:=p) hp h);have HALL:=ħ (fun h hg=>Zpc (ns:=ns) (most:=most) (ps:=ps) h hg);have HNG:=ħ (fun h=>Z05 (ns:=ns) (most:=most) (ps:=ps) h);have HCQ:=ħ (fun x=>Zl8 ps x);have HCA:=ħ (Zty ps);have HCL:Hid (Za7 ps=(Zfh (ps.flatMap Zam)).foldl Zmp []):=ħ rfl;clear hps hpn hpb hpc hT hn h hb hasc;generalize hRR:Zec ns most ps=RR at *;clear hRR;generalize Za7 ps=CS at *;have bx:=((Below.refl w.heap.size w).alloc (Nat.le_refl _) (.cells #[.slice ao n cp,.int .i64 most,.slice po pn pc,.slice none 0 0] 218)).alloc (by simp) (.map #[] 0);have BX:=ħ bx;have ZX:Hid (Zae ((w.alloc (.cells #[.slice ao n cp,.int .i64 most,.slice po pn pc,.slice none 0 0] 218)).alloc (.map #[] 0)) w.heap.size 218 [.slice ao n cp,.int .i64 most,.slice po pn pc,.slice none 0 0]):=ħ (Za2 w _ _);have QX:Hid (Zm9 ((w.alloc (.cells #[.slice ao n cp,.int .i64 most,.slice po pn pc,.slice none 0 0] 218)).alloc (.map #[] 0)) (w.heap.size+1) []):=ħ (by have:=Zm9.nil (w.alloc (.cells #[.slice ao n cp,.int .i64 most,.slice po pn pc,.slice none 0 0] 218));rwa [World.size_alloc] at this);clear bx;have hmm:=@run_makeMap Tryz.prog
 go_enter Tryz.func173,Tryz.ntmps173
 go_upto_region 3 with (fail)
 clear hmm;generalize hwx:(w.alloc (.cells #[.slice ao n cp,.int .i64 most,.slice po pn pc,.slice none 0 0] 218)).alloc (.map #[] 0)=wx at *;clear hwx
 go_wp2_with fail
 have S0:Hid (Zm9 wx (w.heap.size+1) (Zfh ((ps.take 0).flatMap Zam))):=ħ QX.o;have O0:Hid (Only wx wx (· = w.heap.size+1)):=ħ (Only.refl _ _);have HXX:=ħ (fun (W:World) (hW:Only wx W (· = w.heap.size+1))=>Only.later (RowKit.Below.refl w.heap.size w) (Only.trans (Only.of_below (p:=fun g=>w.heap.size≤g) BX.o) (hW.mono (fun g _ hg=>by rw[hg];exact Nat.le_succ _))) (fun g hg=>hg));have HZZ:=ħ (fun (W:World) (hW:Only wx W (· = w.heap.size+1))=>ZX.o.only hW (by omega));clear QX ZX BX;obtain⟨b,hb⟩:∃ b,w.heap.size+1=b:=⟨_,rfl⟩;rw[hb] at S0 O0 HXX HZZ ⊢;have HBN:Hid (b=w.heap.size+1):=ħ hb.symm;clear hb
 go_loopw [25] (fun cc wr=>∃ (i:Nat),cc = .int .i64 i∧i≤pn∧Hid (Zm9 wr b (Zfh ((ps.take i).flatMap Zam)))∧Hid (Only wx wr (· = b))∧Hid (∀ j p,j<i→ps[j]?=some p→okQ ns p=true)) (fun c _=>(pn-intOf c).toNat)
 case atStart=>exact⟨0,rfl,by omega,S0,O0,ħ (fun j p hj=>absurd hj (Nat.not_lt_zero _))⟩
 case round =>
  clear S0 O0;obtain⟨i,rfl,hi,hq,ho,hok⟩:=hrel;have e2:IntKind.i64.wrap ((i:Int)+1)=((i+1:Nat):Int):=IntWalk.i64_in _ (by omega)
  have HLS:Hid ((Zfh ((ps.take i).flatMap Zam)).length≤100*i):=ħ (by
   refine Nat.le_trans (Zsl _) ?_
   have:∀ (l:List Prd),(∀ p∈l,Zas p=true)→(l.flatMap Zam).length≤100*l.length:=by
    intro l
    induction l with
    | nil=>intro _;simp
    | cons p l ih =>
     intro h;rw[List.flatMap_cons,List.length_append,List.length_cons];have h1:=Zkn (h p List.mem_cons_self);have h2:=ih (fun x hx=>h x (List.mem_cons_of_mem _ hx));omega
   have h3:=this (ps.take i) (fun p hp=>by
    obtain⟨j,hj⟩:=List.mem_iff_getElem?.1 hp;rw[List.getElem?_take] at hj;by_cases hji:j<i
    ·rw[if_pos hji] at hj
     have:=hok.o j p hji hj;unfold okQ at this;rw[Bool.and_eq_true] at this;exact this.1
    ·rw[if_neg hji] at hj;cases hj)
   rw[List.length_take] at h3;have:min i ps.length≤i:=Nat.min_le_left _ _
   omega)
  have HKO:Hid (∀ k∈Zfh ((ps.take i).flatMap Zam),KyOk k):=ħ (Zw1 (fun k hk=>by
   obtain⟨p,hp,hk⟩:=List.mem_flatMap.1 hk;obtain⟨j,hj⟩:=List.mem_iff_getElem?.1 hp;rw[List.getElem?_take] at hj;by_cases hji:j<i
   ·rw[if_pos hji] at hj
    have:=hok.o j p hji hj;unfold okQ at this;rw[Bool.and_eq_true] at this;exact Zet this.1 k hk
   ·rw[if_neg hji] at hj;cases hj))
  by_cases hlt:i<pn
  ·have ii:(i:Int)<pn:=by omega
   obtain⟨q,hqi⟩:∃ q,ps[i]?=some q:=⟨_,List.getElem?_eq_getElem (by rw[← HPN.o];exact hlt)⟩;have HQI:=ħ hqi;have HQM:=ħ (List.mem_of_getElem? hqi);have BR:=ħ (HXX.o wr ho.o);obtain⟨gk,off,vs,hao,hgl,hpc,hrd⟩:=(HPS.o wr BR.o).at i q hqi;obtain⟨xa,xn,xc,hvf,-⟩:=hpc.form;subst hvf;have HVQ:=ħ (HVP.o q HQM.o [.int .i64 q.k,.string (Zac q.l),.string (Zac q.r),.int .i64 q.c,.slice xa xn xc]);have PC:=ħ hpc;have s0:=hrd 0 _ rfl;have s1:=hrd 1 _ rfl;have s2:=hrd 2 _ rfl;have s3:=hrd 3 _ rfl;have s4:=hrd 4 _ rfl;rw[Nat.add_zero] at s0;have HAO:=ħ hao
   have HAT:=ħ (fun W (hv:Zas q=true) (hp:Zan W P q [.int .i64 q.k,.string (Zac q.l),.string (Zac q.r),.int .i64 q.c,.slice xa xn xc])=>Zj9 W P q _ hp (by unfold Zas at hv;rw[Bool.and_eq_true] at hv;exact hv.2) (by
    unfold Zas Ze8 at hv;simp only[Bool.and_eq_true,decide_eq_true_eq] at hv
    omega))
   have HTK:Hid (Zfh ((ps.take (i+1)).flatMap Zam)=Zfh ((ps.take i).flatMap Zam)++Zfh (Zam q)):=ħ (by
    obtain⟨hi',he⟩:=List.getElem?_eq_some_iff.1 hqi
    rw[List.take_add_one,hqi,List.flatMap_append,Zsk];simp)
   clear hrd hpc hqi;subst hao;generalize q.k=q0 at *;generalize Zac q.l=q1 at *;generalize Zac q.r=q2 at *;generalize q.c=q3 at *;obtain⟨S,hS⟩:∃ S,Zfh ((ps.take i).flatMap Zam)=S:=⟨_,rfl⟩;rw[hS] at HTK HLS HKO hq;clear hS;have bx:=(RowKit.Below.refl wr.heap.size wr).alloc (Nat.le_refl _) (.cells #[.int .i64 q0,.string q1,.string q2,.int .i64 q3,.slice xa xn xc] 54);have Y1:Hid (Zae (wr.alloc (.cells #[.int .i64 q0,.string q1,.string q2,.int .i64 q3,.slice xa xn xc] 54)) wr.heap.size 54 [.int .i64 q0,.string q1,.string q2,.int .i64 q3,.slice xa xn xc]):=ħ (heap_alloc_new _ _);have PX:=ħ (PC.o.below bx);have hq1:=ħ (hq.o.step bx);have ho1:=ħ (ho.o.step bx);have hbl:Hid (b<wr.heap.size):=ħ hq.o.setK.lt;clear bx PC hq ho BR
   go_upto_region 6 with (fail)
   clear s0 s1 s2 s3 s4;generalize wr.alloc (.cells #[.int .i64 q0,.string q1,.string q2,.int .i64 q3,.slice xa xn xc] 54)=wy at *
   go_wp2_with (refine wpList_load_row rfl 54 (.tmp 11) rfl wr.heap.size ?x1 54 #[.int .i64 q0,.string q1,.string q2,.int .i64 q3,.slice xa xn xc] (0,0) _ Y1.o Tryz.underlying54 rfl (Za1 _ rfl) ?_;(case x1=>rfl))
   refine (HVQ.o wy (HXX.o wy ho1.o) PX.o).mono ?_;rintro e w3 ⟨rfl,b3⟩;have hq3:=ħ (hq1.o.step b3);have ho3:=ħ (ho1.o.step b3);have Y3:=ħ (Y1.o.step b3);have P3:=ħ (PX.o.below b3);clear b3 hq1 ho1 Y1 PX HVQ;obtain⟨vb,hvb⟩:∃ v,Zas q=v:=⟨_,rfl⟩;have HVB:=ħ hvb;rw[hvb];clear hvb
   cases vb with
   | false =>
    have HR:=ħ (HBAD.o q HQM.o (Zqq HVB.o));have B3:=ħ (HXX.o w3 ho3.o)
    go_wp2
    go_ret2
    exact Zg2.bad HR.o (by decide) rfl B3.o
   | true =>
    have HAS:=ħ (Zet HVB.o)
    go_wp2_with (refine wpList_load_row rfl 54 (.tmp 11) rfl wr.heap.size ?x1 54 #[.int .i64 q0,.string q1,.string q2,.int .i64 q3,.slice xa xn xc] (0,0) _ Y3.o Tryz.underlying54 rfl (Za1 _ rfl) ?_;(case x1=>rfl))
    refine (HAT.o w3 HVB.o P3.o).mono ?_;rintro e w4 ⟨ak,ck,rfl,hok4,b4⟩;have hq4:=ħ (hq3.o.step b4);have ho4:=ħ (ho3.o.step b4);have K4:=ħ (hok4.keysR rfl);have KB4:Hid (∀ g,blk ak=some g→b<g):=ħ (fun g hg=>Nat.lt_of_lt_of_le (Nat.lt_of_lt_of_le hbl.o (Nat.le_of_lt Y3.o.lt)) (hok4.blk_lt hg).1);clear b4 hok4 HAT P3 hq3 ho3 Y3;have HUN:=ħ (fun k hk h=>HBAD.o q HQM.o (Zqr (ns:=ns) (k:=k) hk h));have HKN:=ħ (fun h=>Zpd (ns:=ns) HVB.o h);have HAL:=ħ (Zkn HVB.o);obtain⟨ks,hks⟩:∃ ks,Zam q=ks:=⟨_,rfl⟩;rw[hks] at HTK K4 HAS HUN HKN HAL ⊢;clear hks;obtain⟨m,hm⟩:∃ m,ks.length=m:=⟨_,rfl⟩;have HM:=ħ hm;rw[hm] at HAL ⊢;clear hm;have hlen:=HAL.o;have Z0:Hid (Zm9 w4 b (S++Zfh (ks.take 0))):=ħ (by have:=hq4.o;rwa [show Zfh (ks.take 0)=[] from rfl,List.append_nil]);have Z1:Hid (Only wx w4 (· = b)):=ho4;have Z2:Hid (Only w4 w4 (· = b)):=ħ (Only.refl _ _);clear hq4 ho4
    go_wp2_with fail
    go_loopw [35] (fun cc wr=>∃ (j:Nat),cc = .int .i64 j∧j≤m∧Hid (Zm9 wr b (S++Zfh (ks.take j)))∧Hid (Only wx wr (· = b))∧Hid (Only w4 wr (· = b))∧Hid (∀ j' k,j'<j→ks[j']?=some k→Zfs ns k.l=true∧Zfs ns k.r=true)) (fun c _=>(m-intOf c).toNat)
    case atStart=>exact⟨0,rfl,by omega,Z0,Z1,Z2,ħ (fun j p hj=>absurd hj (Nat.not_lt_zero _))⟩
    case round =>
     clear Z0 Z1 Z2;obtain⟨j,rfl,hj,hz,hx,hy,hkj⟩:=hrel;have e3:IntKind.i64.wrap ((j:Int)+1)=((j+1:Nat):Int):=IntWalk.i64_in _ (by omega);by_cases hjl:j<m
     ·have jj:(j:Int)<m:=by omega
      obtain⟨k,hki⟩:∃ k,ks[j]?=some k:=⟨_,List.getElem?_eq_getElem (by rw[HM.o];exact hjl)⟩;have HKI:=ħ hki;have HTJ:=ħ (Zw0 hki);have HKM:=ħ (List.mem_of_getElem? hki);have HGK:=ħ (HAS.o k HKM.o)
      have HKR:Hid (Zop wr ak ks):=ħ (by
       rcases K4.o with h | ⟨g,o,h1,h2,h3⟩
       ·exact .inl h
       ·have:=KB4.o g (by rw[h1];rfl)
        exact .inr ⟨g,o,h1,Nat.lt_of_lt_of_le h2 hy.o.size,h3.of_block (hy.o.block g h2 (by omega))⟩)
      obtain⟨g,o,hak,hg,s0,s1,s2⟩:=HKR.o.at j k hki;have HAK:=ħ hak
      have HSJ:Hid (∀ x∈S++Zfh (ks.take j),KyOk x):=ħ (fun x hx=>by
       rcases List.mem_append.1 hx with hx | hx
       ·exact HKO.o x hx
       ·exact Zw1 (fun y hy=>HAS.o y (List.mem_of_mem_take hy)) x hx)
      have HL1:Hid ((S++Zfh (ks.take j)).length<maxLen):=ħ (by
       rw[List.length_append];have h1:=Zsl (ks.take j);rw[List.length_take] at h1
       have:min j ks.length≤m:=by rw[HM.o];exact Nat.min_le_right _ _
       have:=HLS.o
       exact Nat.lt_of_le_of_lt (show _≤200000 by omega) (by decide))
      have HI1:=ħ (fun W hW=>HIX.o W hW k.l HGK.o.nmb.1);have HI2:=ħ (fun W hW=>HIX.o W hW k.r HGK.o.nmb.2);have HOR:=ħ (fun W=>Zpa k HGK.o.ok.bytes HGK.o.2.2 W);have HOO:=ħ HGK.o.ori;have HCK:=ħ (Zhf (Zeh k).1.l (Zeh k).1.r HOO.o.lb HOO.o.rb);have HCV:Hid (((Zeh k).1.l==(Zeh k).1.r)=Zzn (Zeh k).1):=ħ rfl;rw[HCV.o] at HCK;have HO1:=ħ (Z04 k);have HKY:=ħ (Ze2 (Zeh k).1 HOO.o);have HN1:=ħ (Zsg (ns:=ns) (s:=k.l));have HN2:=ħ (Zsg (ns:=ns) (s:=k.r));have HU1:=ħ (fun h=>HUN.o k HKM.o h);clear hki HKR hg HCV;subst hak;have HKC:Hid (kyC k=[.string (Zac k.l),.string (Zac k.r),.int .i64 k.c]):=ħ rfl;rw[HKC.o] at HOR;have HPC:Hid (kyC (Zeh k).1=[.string (Zac (Zeh k).1.l),.string (Zac (Zeh k).1.r),.int .i64 (Zeh k).1.c]):=ħ rfl;rw[HPC.o] at HOR HKY;clear HKC HPC;generalize Zll ns k.l=il at *;generalize Zll ns k.r=ir at *;generalize Zac k.l=y1 at *;generalize Zac k.r=y2 at *;generalize k.c=y3 at *;generalize Zac (Zeh k).1.l=o1 at *;generalize Zac (Zeh k).1.r=o2 at *;generalize (Zeh k).1.c=o3 at *;generalize (Zeh k).2=o4 at *;have bx:=(RowKit.Below.refl wr.heap.size wr).alloc (Nat.le_refl _) (.cells #[.string y1,.string y2,.int .i64 y3] 121);have Y1:Hid (Zae (wr.alloc (.cells #[.string y1,.string y2,.int .i64 y3] 121)) wr.heap.size 121 [.string y1,.string y2,.int .i64 y3]):=ħ (heap_alloc_new _ _);have hz1:=ħ (hz.o.step bx);have hx1:=ħ (hx.o.step bx);have hy1:=ħ (hy.o.step bx);have hbn:Hid (b<wr.heap.size):=ħ hz.o.setK.lt;clear bx hz hx hy
      go_upto_region 11 with (fail)
      clear s0 s1 s2;generalize wr.alloc (.cells #[.string y1,.string y2,.int .i64 y3] 121)=wk at *;have HWX:=ħ (HXX.o wk hx1.o);have HI1b:=ħ (fun W (hW:Below wk.heap.size wk W)=>HI1.o W (HWX.o.trans (hW.mono HWX.o.size)));have HI2b:=ħ (fun W (hW:Below wk.heap.size wk W)=>HI2.o W (HWX.o.trans (hW.mono HWX.o.size)));have ZD:=ħ (HZZ.o wk hx1.o);have d0:=ZD.o.cell 0 _ rfl;have d1:=ZD.o.cell 1 _ rfl;have c0:=Y1.o.cell 0 _ rfl;have c1:=Y1.o.cell 1 _ rfl;have r1:=Z5y wk (fun W hW=>HI1b.o W hW);have r2:=Z5y wk (fun W hW=>HI2b.o W hW);have d0':=cell_regrown d0;have d1':=cell_regrown d1;have c0':=cell_regrown c0;have c1':=cell_regrown c1;clear d0 d1 c0 c1 HI1 HI2;by_cases hil:il<0
      ·have HR:=ħ (HU1.o (.inl (HN1.o.1 hil)))
       refine wp_region_quiet_below (by kernel_rfl) (by kernel_rfl) ?_
       repeat (go_big_quiet_step (with_reducible (first | exact r1 _ _ | exact r2 _ _)))
       refine wpQuiet_nil ?_;intro _ hw';obtain⟨⟨dq,osq⟩,hw''⟩:=hw';subst hw'';have BB:=below_regrown wk dq osq;have B5:=ħ (HWX.o.trans (BB.mono HWX.o.size));clear r1 r2 d0' d1' c0' c1' BB ZD HI1b HI2b HWX hz1 hx1 hy1 Y1;generalize grow (redrawn wk dq) osq=wg at *
       go_wp2
       go_ret2
       exact Zg2.bad HR.o (by decide) rfl B5.o
      ·by_cases hir:ir<0
       ·have HR:=ħ (HU1.o (.inr (HN2.o.1 hir)))
        refine wp_region_quiet_below (by kernel_rfl) (by kernel_rfl) ?_
        repeat (go_big_quiet_step (with_reducible (first | exact r1 _ _ | exact r2 _ _)))
        refine wpQuiet_nil ?_;intro _ hw';obtain⟨⟨dq,osq⟩,hw''⟩:=hw';subst hw'';have BB:=below_regrown wk dq osq;have B5:=ħ (HWX.o.trans (BB.mono HWX.o.size));clear r1 r2 d0' d1' c0' c1' BB ZD HI1b HI2b HWX hz1 hx1 hy1 Y1;generalize grow (redrawn wk dq) osq=wg at *
        go_wp2
        go_ret2
        exact Zg2.bad HR.o (by decide) rfl B5.o
       ·have HKK:Hid (Zfs ns k.l=true∧Zfs ns k.r=true):=ħ (by
         constructor
         ·cases h:Zfs ns k.l with
          | true=>rfl
          | false=>exact absurd (HN1.o.2 h) hil
         ·cases h:Zfs ns k.r with
          | true=>rfl
          | false=>exact absurd (HN2.o.2 h) hir)
        have HKN2:Hid (∀ j' k,j'<j+1→ks[j']?=some k→Zfs ns k.l=true∧Zfs ns k.r=true):=ħ (fun j' k' hj' hk'=>by
         rcases Nat.lt_succ_iff_lt_or_eq.1 hj' with h1 | rfl
         ·exact hkj.o j' k' h1 hk'
         ·rw[HKI.o] at hk';cases hk';exact HKK.o)
        refine wp_region_quiet_below (by kernel_rfl) (by kernel_rfl) ?_
        repeat (go_big_quiet_step (with_reducible (first | exact r1 _ _ | exact r2 _ _)))
        refine wpQuiet_nil ?_;intro _ hw';obtain⟨⟨dq,osq⟩,hw''⟩:=hw';subst hw'';have BB:=below_regrown wk dq osq;have hz5:=ħ (hz1.o.step BB);have hx5:=ħ (hx1.o.step BB);have hy5:=ħ (hy1.o.step BB);have Y5:=ħ (Y1.o.step BB);clear r1 r2 d0' d1' c0' c1' BB ZD HI1b HI2b HWX hz1 hx1 hy1 Y1;generalize grow (redrawn wk dq) osq=wg at *
        go_upto_region 13 with (fail)
        go_wp2_with (refine wpList_load_row rfl 121 (.tmp 13) rfl wr.heap.size ?x1 121 #[.string y1,.string y2,.int .i64 y3] (0,0) _ Y5.o Tryz.underlying121 rfl (Zfr _ rfl) ?_;(case x1=>rfl))
        refine (HOR.o wg).mono ?_;rintro e w6 ⟨rfl,b6⟩;have hz6:=ħ (hz5.o.step b6);have hx6:=ħ (hx5.o.step b6);have hy6:=ħ (hy5.o.step b6);have bx:=(RowKit.Below.refl w6.heap.size w6).alloc (Nat.le_refl _) (.cells #[.string o1,.string o2,.int .i64 o3] 121);have Y7:Hid (Zae (w6.alloc (.cells #[.string o1,.string o2,.int .i64 o3] 121)) w6.heap.size 121 [.string o1,.string o2,.int .i64 o3]):=ħ (heap_alloc_new _ _);have hz7:=ħ (hz6.o.step bx);have hx7:=ħ (hx6.o.step bx);have hy7:=ħ (hy6.o.step bx);have hb7:Hid (b<w6.heap.size):=ħ hz6.o.setK.lt;clear b6 bx hz5 hx5 hy5 Y5 hz6 hx6 hy6 HOR
        go_upto_region 14 with (fail)
        generalize w6.alloc (.cells #[.string o1,.string o2,.int .i64 o3] 121)=w7 at *;have o0:=Y7.o.cell 0 _ rfl;have o1':=Y7.o.cell 1 _ rfl;have hck:=HCK.o
        cases hcb:Zzn (Zeh k).1 with
        | true =>
         rw[hcb] at hck;rw[hcb,if_pos rfl] at HO1;have hz8:Hid (Zm9 w7 b (S++Zfh (ks.take (j+1)))):=ħ (by rw[HTJ.o,HO1.o,List.append_nil];exact hz7.o);clear HCK hcb hz7 Y7
         go_wp2
         go_roundw
         case rel=>exact⟨j+1,by go_num,by omega,hz8,hx7,hy7,HKN2⟩
         case measure=>simp only[intOf];omega
        | false =>
         rw[hcb] at hck;rw[hcb,if_neg (by simp)] at HO1;clear HCK hcb;obtain⟨D,hown,hh,ha,hsz⟩:=hz7.o;have HO:=ħ hown;have HH:=ħ hh;have HA:=ħ ha;have HSZ:=ħ hsz;clear hown hh ha hsz
         go_wp2_with (first | (refine wpList_load_row rfl 121 (.tmp 14) rfl w6.heap.size ?x1 121 #[.string o1,.string o2,.int .i64 o3] (0,0) _ Y7.o Tryz.underlying121 rfl (Zfr _ rfl) ?_;(case x1=>rfl)) | (at_mapUpdate;refine wpList_mapUpdate_own _ rfl (.tmp 67) (.tmp 68) _ 166 rfl 121 4 Zmx Tryz.underlying166 (plainElem Tryz.prog 4) b (S++Zfh (ks.take j)).length D rfl HO.o HL1.o (.agg #[.string o1,.string o2,.int .i64 o3]) (.bool true) (Zbt (Zeh k).1) rfl rfl HKY.o (.lit (.bool true)) [] (plainElem_bool Tryz.underlying4 true) ?_;intro w8 hown8 hgrow8;have hz8:=ħ (Zm9.put HSJ.o (Zeh k).1 HOO.o HO.o HH.o HA.o HSZ.o hown8);have hx8:=ħ (hx7.o.trans (Za8 hgrow8));have hy8:=ħ (hy7.o.trans (Za8 hgrow8));clear hown8 hgrow8 HO HH HA HSZ hz7 hx7 hy7 Y7 o0 o1'))
         have hz9:Hid (Zm9 w8 b (S++Zfh (ks.take (j+1)))):=ħ (by rw[HTJ.o,HO1.o,← List.append_assoc];exact hz8.o);clear hz8;go_roundw
         case rel=>exact⟨j+1,by go_num,by omega,hz9,hx8,hy8,HKN2⟩
         case measure=>simp only[intOf];omega
     ·have jj:¬ ((j:Int)<m):=by omega
      obtain rfl:j=m:=by omega
      have HTJ:Hid (ks.take j=ks):=ħ (List.take_of_length_le (by rw[HM.o];exact Nat.le_refl _))
      have hz9:Hid (Zm9 wr b (Zfh ((ps.take (i+1)).flatMap Zam))):=ħ (by
       have:=hz.o;rw[HTJ.o] at this
       rwa [HTK.o])
      have hok9:Hid (∀ j p,j<i+1→ps[j]?=some p→okQ ns p=true):=ħ (fun j' p' hj' hp'=>by
       rcases Nat.lt_succ_iff_lt_or_eq.1 hj' with h1 | rfl
       ·exact hok.o j' p' h1 hp'
       ·rw[HQI.o] at hp'
        cases hp'
        exact HKN.o (fun k hk=>by
         obtain⟨l,hl⟩:=List.mem_iff_getElem?.1 hk
         exact hkj.o l k (by have:=(List.getElem?_eq_some_iff.1 hl).1;have:=HM.o;omega) hl))
      clear hz hkj hok hy HKN HUN HAS
      go_wp2
      go_roundw
      case rel=>exact⟨i+1,by go_num,by omega,hz9,hx,hok9⟩
      case measure=>simp only[intOf];omega
  ·have ii:¬ ((i:Int)<pn):=by omega
   obtain rfl:i=pn:=by omega
   have HTI:Hid (ps.take i=ps):=ħ (List.take_of_length_le (by rw[← HPN.o];exact Nat.le_refl _));rw[HTI.o] at hq HLS HKO
   have HOKA:Hid (∀ p∈ps,okQ ns p=true):=ħ (fun p hp=>by
    obtain⟨l,hl⟩:=List.mem_iff_getElem?.1 hp
    exact hok.o l p (by have:=(List.getElem?_eq_some_iff.1 hl).1;have:=HPN.o;omega) hl)
   have HGA:=ħ (fun hg=>HALL.o HOKA.o hg);have BR:=ħ (HXX.o wr ho.o);clear hok HALL HBAD;obtain⟨gb,hgb⟩:∃ g,Zf8 ns most=g:=⟨_,rfl⟩;rw[hgb] at HGV HNG HGA;clear hgb
   go_wp2_with fail
   refine (HGV.o wr BR.o).mono ?_;rintro e w3 ⟨rfl,b3⟩;have B3:=ħ (BR.o.trans (b3.mono BR.o.size));have hq3:=ħ (hq.o.step b3);have Z3:=ħ ((HZZ.o wr ho.o).step b3);clear b3 BR hq ho HGV
   cases gb with
   | false =>
    have HR:=ħ (HNG.o rfl)
    go_wp2
    go_ret2
    exact Zg2.bad HR.o (by decide) rfl B3.o
   | true =>
    have HR:=ħ (HGA.o rfl);obtain⟨D,hown,hh,ha,hsz⟩:=hq3.o;have HO:=ħ hown;have HSZ:Hid (Maps.size D=CS.length):=ħ (by rw[hsz,HCL.o]);clear hh ha hown hsz HGA HNG
    have HL8:=ħ (show IntKind.i64.wrap (CS.length:Int)=(CS.length:Int) from IntWalk.i64_in _ (by
     have h1:=HSZ.o;have h2:=HO.o.size_le;have h3:=HLS.o
     omega))
    by_cases h8:8<CS.length
    ·have HR6:Hid (RR=6):=ħ (by rw[HR.o,if_pos h8])
     have l8:(8:Int)<(CS.length:Int):=by omega
     clear HR
     go_wp2_with (at_len;refine wpList_len_own _ rfl _ 166 rfl 121 4 Tryz.underlying166 (plainElem Tryz.prog 4) b _ D rfl HO.o ?_;rw[HSZ.o])
     go_ret2
     exact Zg2.bad HR6.o (by decide) rfl B3.o
    ·have HR0:Hid (RR=0):=ħ (by rw[HR.o,if_neg h8])
     have l8:¬ (8:Int)<(CS.length:Int):=by omega
     have C3:Hid (Zfg w3 b (Zfh (ps.flatMap Zam))):=ħ hq3.o.setK;clear HR hq3;have A3:=(RowKit.Below.refl w3.heap.size w3).alloc (Nat.le_refl _) (.cells #[.map (some b)] 166);have S4:=ħ (C3.o.step A3);have B4:=ħ (B3.o.trans (A3.mono B3.o.size));have Z4:=ħ (Z3.o.step A3);have M4:Hid ((w3.alloc (.cells #[.map (some b)] 166)).cell? ⟨w3.heap.size,0,none⟩=some (.map (some b))):=ħ ((show Zae _ w3.heap.size 166 [.map (some b)] from heap_alloc_new w3 _).cell 0 _ rfl);have L4:Hid (w3.heap.size<(w3.alloc (.cells #[.map (some b)] 166)).heap.size):=ħ (by simp);have HKE:=ħ (callsIn_wide.1 (Zr1 Fence.wide 5 trivial rfl b w3));clear A3
     go_upto_region 22 with (at_len;refine wpList_len_own _ rfl _ 166 rfl 121 4 Tryz.underlying166 (plainElem Tryz.prog 4) b _ D rfl HO.o ?_;rw[HSZ.o])
     go_wp2_with fail
     refine HKE.o.mono ?_;rintro e w4 ⟨rfl,hw4⟩;subst hw4;have HSD:=ħ (Zj8 w3.heap.size b (Zfh (ps.flatMap Zam)) HKO.o (by have:=HLS.o;omega) _ L4.o M4.o S4.o);clear HO HSZ C3 S4 M4 L4 HKE B3 Z3;generalize w3.alloc (.cells #[.map (some b)] 166)=w4 at *
     go_wp2_with fail
     refine HSD.o.mono ?_;rintro e w5 ⟨ro,rc,ss,rfl,ha,hx,hos,hb5⟩;have HE:ss=CS:=Z2q ha HCA.o (fun x=>by rw[hx,HCQ.o]);subst HE;have B5:=ħ (B4.o.trans (hb5.mono B4.o.size));have Z5:=ħ (Z4.o.step hb5)
     have HBL:Hid (blk ro≠some w.heap.size):=ħ (fun e=>by
      have h1:=(hos.blk_lt e).1;have h2:=Z4.o.lt
      omega)
     have O5:=ħ (hos.lower (B':=w.heap.size) B4.o.size);have Z6:=ħ (Z5.o.set 3 (.slice ro ss.length rc));have U6:=ħ (Zc8 w5 ⟨w.heap.size,3,none⟩ (.slice ro ss.length rc));clear ha hx hos hb5 B4 Z4 HSD;have x0:=Z5.o.cell 0 _ rfl;have x1:=Z5.o.cell 1 _ rfl;have x2:=Z5.o.cell 2 _ rfl;have x3:=Z5.o.cell 3 _ rfl;have f3:=Z5.o.warm 3;clear Z5;have LN:Hid (RowKit.Below w.heap.size w (w5.setCell ⟨w.heap.size,3,none⟩ (.slice ro ss.length rc))):=ħ (U6.o.below B5.o (Nat.le_refl _));have O6:=ħ (O5.o.upd U6.o HBL.o)
     go_wp2
     go_ret2
     exact Zg2.good HR0.o rfl (Nat.le_refl _) rfl Z6.o O6.o LN.o
end
end Go.Proofs.YtbcgocpihobjnaaGreatDoor
