import Derived.Laws.CopyOwn
import Derived.Test.YtmkdfbelbcocpaaGreatDoorCD26
import Derived.Test.YtmkdfbelbcocpaaGreatDoorCD22
import Derived.Test.YtmkdfbelbcocpaaGreatDoorCD10
import Derived.BigQuiet
import Derived.Test.YtmkdfbelbcocpaaGreatDoorCD27
set_option linter.unusedVariables false
set_option linter.unusedSimpArgs false
set_option maxHeartbeats 16000000
set_option maxRecDepth 100000
namespace Go.Proofs.YtmkdfbelbcocpaaGreatDoor
section
open Go.RowKit Go.Sort
theorem Zog (x:Int) (n m k:Nat) (h:n+k≤n+m):splice (ivs (List.replicate n x++List.replicate m 0)) n (ivs (List.replicate k x))=ivs (List.replicate (n+k) x++List.replicate (m-k) 0):=by
 unfold splice ivs
 simp only[List.map_append,List.map_replicate]
 rw[List.take_left' (by simp),List.length_replicate,List.drop_append,List.length_replicate]
 rw[List.drop_of_length_le (by simp),List.nil_append,show n+k-n=k by omega,List.drop_replicate,← List.append_assoc,List.replicate_append_replicate]
theorem Zws (w:World) (x:Int) (g o c N:Nat) (hg:w.cell? ⟨g,o,none⟩=some (.int .i64 x)) (hgl:g<w.heap.size) (hN:1≤N) (hN2:N≤1000) :
  Calls Tryz.prog 117 #[.slice (some ⟨g,o,none⟩) 1 c,.int .i64 (N:Int)] w fun e w'=>(∃ L,e = .returned (.slice (some ⟨L,0,none⟩) N N)∧Zah w' L 3 (ivs (List.replicate N x))∧w.heap.size≤L)∧Below w.heap.size w w':=by
 have HM:=ħ (Tryz.bits_Mul 1 N (by omega) (by omega) w)
 have HG:=ħ hg
 have HGL:=ħ hgl
 have n0:¬ (N:Int)<0:=by omega
 have eq1:(((1*N/18446744073709551616:Nat)):Int)=0:=by omega
 have eq2:(((1*N%18446744073709551616:Nat)):Int)=(N:Int):=by omega
 rw[eq1,eq2] at HM
 have em:(N:Int)%18446744073709551616=(N:Int):=by omega
 have ew:IntKind.u64.wrap (N:Int)=(N:Int):=IntWalk.u64_in _ (by omega)
 have ew2:IntKind.i64.wrap (N:Int)=(N:Int):=IntWalk.i64_in _ (by omega)
 have eb:¬ (9223372036854775807:Int)<(N:Int):=by omega
 have hmk:=run_make_row' (P:=Tryz.prog) 60 3 (.int .i64 0) 8 Tryz.underlying60 Zd5 rfl .i64 .i64 N (by omega) (by omega)
 rw[Zmh] at hmk
 have B0:=ħ (Below.refl w.heap.size w)
 clear hg hgl eq1 eq2
 go_enter Tryz.func117,Tryz.ntmps117
 go_wp2_with fail
 refine HM.o.mono ?_
 rintro e w' ⟨rfl,hw'⟩
 subst w'
 clear HM
 go_upto_region 7 with (fail)
 clear hmk em ew ew2 eb n0
 obtain⟨C1,hC1⟩:∃ C,ivs (List.replicate 1 x)=C:=⟨_,rfl⟩
 have hl1:C1.length=1:=by rw[← hC1];rfl
 have HC1:=ħ hC1
 have bx:=(Below.refl w.heap.size w).alloc (Nat.le_refl _) (.cells (ivs (List.replicate N 0)).toArray 3)
 have V2:Hid (Zah (w.alloc (.cells (ivs (List.replicate N 0)).toArray 3)) w.heap.size 3 (ivs (List.replicate N 0))):=ħ (heap_alloc_new _ _)
 have B2:=ħ bx
 have G2:Hid ((w.alloc (.cells (ivs (List.replicate N 0)).toArray 3)).cell? ⟨g,o,none⟩=some (.int .i64 x)):=ħ (by rw[← HG.o];exact bx.cell (p:=⟨g,o,none⟩) HGL.o)
 clear bx hC1 B0
 generalize w.alloc (.cells (ivs (List.replicate N 0)).toArray 3)=w2 at *
 go_wp2_with (refine wpList_copy_splice rfl (.tmp 31) (.tmp 32) 60 60 rfl 3 Tryz.underlying60 (by kernel_rfl) (some ⟨w.heap.size,0,none⟩) (some ⟨g,o,none⟩) N N 1 c rfl rfl w.heap.size 0 (ivs (List.replicate N 0)) 3 V2.o C1 (by rw[hl1];exact (Nat.min_eq_left hN).symm) (fun _=>⟨rfl,_,rfl,fun j v hj=>by
  rw[← HC1.o] at hj
  match j,hj with
  | 0,hj=>cases hj;exact G2.o
  | j+1,hj=>simp[ivs] at hj⟩) (by rw[hl1];simp[ivs];omega) (by rw[← HC1.o];simp[ivs,Value.oneCell']) w.heap.size w B2.o (Nat.le_refl _) ?_;intro w3 hg3 hb3)
 have V3:Hid (Zah w3 w.heap.size 3 (ivs (List.replicate 1 x++List.replicate (N-1) 0))):=ħ (by
  have h1:=hg3.o
  rw[← HC1.o] at h1
  have h2:=Zog x 0 N 1 (by omega)
  simp only[List.replicate_zero,List.nil_append,Nat.zero_add] at h2
  rw[h2] at h1
  exact h1)
 have B3:=ħ hb3
 clear hg3 hb3 V2 B2 G2 hl1 HC1
 go_wp2_with fail
 go_loopw [8] (fun s wr=>∃ n:Nat,s = .int .i64 n∧1≤n∧n≤N∧Hid (Zah wr w.heap.size 3 (ivs (List.replicate n x++List.replicate (N-n) 0)))∧Hid (Below w.heap.size w wr)) (fun s _=>(N-intOf s).toNat)
 case atStart=>exact⟨1,rfl,Nat.le_refl _,hN,V3,B3⟩
 case round =>
  clear V3 B3
  obtain⟨n,rfl,hn1,hnN,hv,hw⟩:=hrel
  by_cases hlt:n<N
  ·have ii:(n:Int)<N:=by omega
   obtain⟨k,hk⟩:∃ k,Nat.min n (N-n)=k:=⟨_,rfl⟩
   have hk1:k≤n:=by rw[← hk];exact Nat.min_le_left _ _
   have hk2:k≤N-n:=by rw[← hk];exact Nat.min_le_right _ _
   have hk3:1≤k:=by rw[← hk];exact Nat.le_min.2 ⟨hn1,by omega⟩
   have HK:=ħ hk
   obtain⟨C1,hC1⟩:∃ C,ivs (List.replicate k x)=C:=⟨_,rfl⟩
   have hl1:C1.length=k:=by rw[← hC1];simp[ivs]
   have HC1:=ħ hC1
   have n1:¬ (n:Int)<0:=by omega
   have n2:¬ (N:Int)<n:=by omega
   have n3:¬ N<n:=by omega
   have n4:n≤N:=by omega
   have n5:¬ N=n:=by omega
   have ea:IntKind.i64.wrap ((n:Int)+k)=((n+k:Nat):Int):=IntWalk.i64_in _ (by omega)
   have Vd:=ħ (hv.o.step (Below.refl _ _).drew)
   have Bd:=ħ hw.o.drew
   clear hk hC1 hv hw
   go_upto_region 9 with (fail)
   go_region_law (refine step_copy_splice rfl (.tmp 41) (.tmp 44) 60 60 rfl 3 Tryz.underlying60 (by kernel_rfl) (some ⟨w.heap.size,n,none⟩) (some ⟨w.heap.size,0,none⟩) (N-n) (N-n) n N (by simp[Act.eval,Act.put]) (by simp[Act.eval,Act.put]) w.heap.size n (ivs (List.replicate n x++List.replicate (N-n) 0)) 3 Vd.o C1 (by rw[hl1];exact HK.o.symm) (fun _=>⟨rfl,_,rfl,fun j v hj=>by
    rw[← HC1.o] at hj
    have hjk:j<k:=by have:=(List.getElem?_eq_some_iff.1 hj).1;simpa [ivs] using this
    have h1:=Vd.o.cell j (.int .i64 x) (by unfold ivs;rw[List.getElem?_map,List.getElem?_append_left (by simp;omega),List.getElem?_replicate,if_pos (by omega)];rfl)
    have h2:v = .int .i64 x:=by
     unfold ivs at hj
     rw[List.getElem?_map,List.getElem?_replicate,if_pos hjk] at hj
     cases hj;rfl
    rw[h2]
    cases j with
    | zero=>simpa [Addr.add] using h1
    | succ j=>simpa [Addr.add] using h1⟩) (by rw[hl1];simp[ivs];omega) (by rw[← HC1.o];simp[ivs,Value.oneCell']) w.heap.size w Bd.o (Nat.le_refl _) ?_;intro w4 hg4 hb4)
   have V4:Hid (Zah w4 w.heap.size 3 (ivs (List.replicate (n+k) x++List.replicate (N-(n+k)) 0))):=ħ (by
    have h1:=hg4.o
    rw[← HC1.o,Zog x n (N-n) k (by omega),show N-n-k=N-(n+k) by omega] at h1
    exact h1)
   have B4:=ħ hb4
   clear hg4 hb4 Vd Bd HC1
   go_wp2_with fail
   go_roundw
   case rel=>exact⟨n+k,by go_num,by omega,by omega,V4⟩
   case measure=>simp only[intOf];omega
  ·obtain rfl:n=N:=by omega
   have ii:¬ ((n:Int)<(n:Int)):=by omega
   go_wp2
   go_ret
   exact⟨⟨_,rfl,by have:=hv.o;simpa using this,Nat.le_refl _⟩,hw.o⟩
end
section
open Go.RowKit Go.Sort
theorem Z5v (t:Array Value) (h:t.size=118):∃ f:Nat→Value,t=#[f 0,f 1,f 2,f 3,f 4,f 5,f 6,f 7,f 8,f 9,f 10,f 11,f 12,f 13,f 14,f 15,f 16,f 17,f 18,f 19,f 20,f 21,f 22,f 23,f 24,f 25,f 26,f 27,f 28,f 29,f 30,f 31,f 32,f 33,f 34,f 35,f 36,f 37,f 38,f 39,f 40,f 41,f 42,f 43,f 44,f 45,f 46,f 47,f 48,f 49,f 50,f 51,f 52,f 53,f 54,f 55,f 56,f 57,f 58,f 59,f 60,f 61,f 62,f 63,f 64,f 65,f 66,f 67,f 68,f 69,f 70,f 71,f 72,f 73,f 74,f 75,f 76,f 77,f 78,f 79,f 80,f 81,f 82,f 83,f 84,f 85,f 86,f 87,f 88,f 89,f 90,f 91,f 92,f 93,f 94,f 95,f 96,f 97,f 98,f 99,f 100,f 101,f 102,f 103,f 104,f 105,f 106,f 107,f 108,f 109,f 110,f 111,f 112,f 113,f 114,f 115,f 116,f 117]:=by
 obtain⟨l⟩:=t
 have hl:l.length=118:=h
 have e:l=(List.range 118).map (fun i=>l.getD i undef):=by
  apply List.ext_getElem
  ·simp[hl]
  ·intro i h1 h2
   simp[List.getD,h1]
 exact⟨fun i=>l.getD i undef,congrArg List.toArray e⟩
theorem Z0b {n:Nat} {CS:List Con} (hI:InC (n+1) CS) {d l:List Int} {a:Int} (hc:Zcm CS (n+2) (List.replicate (n+1) 0) (List.replicate (n+1) (-1)) (-1)=some (d,l,a)) :
  ∃ x p:Nat,a=(x:Int)∧x<n+1∧l.length=n+1∧1≤p∧p≤n+1∧(∀ j,itC CS l x j<n+1∧Zt1 CS l (itC CS l x j))∧itC CS l (itC CS l x (n+1)) p=itC CS l x (n+1) ∧
   (∀ j,0<j→j<p→itC CS l (itC CS l x (n+1)) j≠itC CS l x (n+1))∧Znt n CS=some (Zr6 CS l (itC CS l x (n+1)) p):=by
 have hl:=Zxq n CS hI
 rw[hc] at hl
 obtain⟨x,p,rfl,hx,hll,hp1,hp2,hat,hper,hmin,hneg⟩:=hl
 obtain⟨q,hq,hq1,hq2⟩:=Z2d (fun j=>itC CS l (itC CS l x (n+1)) j) (n+1) ⟨p,hp1,hp2,by rw[← Zgw];exact hper⟩
 have hq':(List.range (n+1)).find? (fun j=>itC CS l (itC CS l x (n+1)) (j+1)==itC CS l x (n+1))=some q:=hq
 have hpq:q+1=p:=by
  rcases Nat.lt_trichotomy (q+1) p with h1 | h1 | h1
  ·exact absurd (by rw[Zgw];exact hq1) (hmin (q+1) (by omega) h1)
  ·exact h1
  ·exact absurd (by rw[Zgw] at hper;exact hper) (hq2 p (by omega) h1)
 refine⟨x,p,rfl,hx,hll,hp1,hp2,hat,by rw[← Zgw];exact hper,fun j h1 h2=>by rw[← Zgw];exact hmin j h1 h2,?_⟩
 unfold Znt
 rw[hc]
 simp only[Int.toNat_natCast]
 rw[hq']
 show some (Zr6 CS l (itC CS l x (n+1)) (q+1))=_
 rw[hpq]
theorem Z0c {n:Nat} {CS:List Con} (hc:Zcm CS (n+2) (List.replicate (n+1) 0) (List.replicate (n+1) (-1)) (-1)=none):Znt n CS=none:=by
 unfold Znt;rw[hc]
def cyF (N B:Nat) (i:Nat) (W:World) (v:Value):Prop:=match i with
 | 0=>v = .int .i64 (N:Int)
 | 1=>∃ V,v = .slice (some ⟨V,0,none⟩) N N∧Zah W V 3 (ivs (List.replicate N 0))∧B≤V
 | 2=>∃ V,v = .slice (some ⟨V,0,none⟩) 1 1∧Zah W V 3 [.int .i64 (-1)]
 | 3=>v = .int .i64 (N:Int)
 | 4=>∃ V,v = .slice (some ⟨V,0,none⟩) N N∧Zah W V 3 (ivs (List.replicate N (-1)))∧B≤V
 | 5=>∃ V,v = .slice (some ⟨V,0,none⟩) N N∧Zah W V 3 (ivs (List.replicate N 0))∧B≤V
 | 6=>∃ V,v = .slice (some ⟨V,0,none⟩) N N∧Zah W V 3 (ivs (List.replicate N (-1)))∧B≤V
 | _=>True
theorem Z30 (N B:Nat):∀ i w w' v,cyF N B i w v→Below w.heap.size w w'→cyF N B i w' v:=by
 intro i w w' v h hb
 match i with
 | 0=>exact h
 | 1=>obtain⟨V,h1,h2,h3⟩:=h;exact⟨V,h1,h2.step hb,h3⟩
 | 2=>obtain⟨V,h1,h2⟩:=h;exact⟨V,h1,h2.step hb⟩
 | 3=>exact h
 | 4=>obtain⟨V,h1,h2,h3⟩:=h;exact⟨V,h1,h2.step hb,h3⟩
 | 5=>obtain⟨V,h1,h2,h3⟩:=h;exact⟨V,h1,h2.step hb,h3⟩
 | 6=>obtain⟨V,h1,h2,h3⟩:=h;exact⟨V,h1,h2.step hb,h3⟩
 | k+7=>trivial
end
section
open Go.RowKit Go.Sort
def Zi4 (ns:List (List Nat)) (most:Int) (ps:List Prd):Option (List Int):=(Zh5 ns most ps).bind (Znt ns.length)
def Znk (w:World) (r:Option (List Int)) (e:Ending) (w':World):Prop :=
 (match r with
  | none=>e = .returned (.tuple #[.slice none 0 0,.bool false])
  | some l=>∃ ro rc,e = .returned (.tuple #[.slice ro l.length rc,.bool true])∧OwnK w' w.heap.size 1 l.length rc (l.flatMap Zcc) ro)∧Below w.heap.size w w'
theorem Znk.no {w w':World} {r:Option (List Int)} (h:r=none) (hb:Below w.heap.size w w'):Znk w r (.returned (.tuple #[.slice none 0 0,.bool false])) w':=by
 subst h;exact⟨rfl,hb⟩
theorem Znk.yes {w w':World} {r:Option (List Int)} {l:List Int} {ro:Option Addr} {n rc:Nat} (h:r=some l) (hn:n=l.length) (ho:OwnK w' w.heap.size 1 n rc (l.flatMap Zcc) ro) (hb:Below w.heap.size w w'):Znk w r (.returned (.tuple #[.slice ro n rc,.bool true])) w':=by
 subst h;subst hn;exact⟨⟨ro,rc,rfl,ho⟩,hb⟩
def Z83:Value→Nat
 | .slice _ n _=>n
 | _=>0
theorem Zwt {cs:List Con} {f:Nat} {d l:List Int} {a:Int} (h:(Zc3 cs 0 d l (-1)).2.2<0):Zcm cs (f+1) d l a=none:=by
 unfold Zcm;rw[if_pos h]
theorem Z0d {cs:List Con} {f:Nat} {d l:List Int} {a:Int} {d' l':List Int} {a':Int} (he:Zc3 cs 0 d l (-1)=(d',l',a')) (h:¬ a'<0):Zcm cs (f+1) d l a=Zcm cs f d' l' a':=by
 conv=>lhs;unfold Zcm
 rw[he,if_neg h]
theorem Zwu {c:Con} {cs:List Con} {i:Nat} {d l:List Int} {a:Int} (h:¬ gv d c.r+c.c<gv d c.l):Zc3 (c::cs) i d l a=Zc3 cs (i+1) d l a:=by
 conv=>lhs;unfold Zc3
 rw[if_neg h]
theorem Z31 {c:Con} {cs:List Con} {i:Nat} {d l:List Int} {a:Int} (h:gv d c.r+c.c<gv d c.l):Zc3 (c::cs) i d l a=Zc3 cs (i+1) (d.set c.l (gv d c.r+c.c)) (l.set c.l (i:Int)) (c.l:Int):=by
 conv=>lhs;unfold Zc3
 rw[if_pos h]
theorem Z0e (CS:List Con) (l:List Int) (y j:Nat):Zr6 CS l y (j+1)=Zr6 CS l y j++[gv l (itC CS l y j)]:=by
 unfold Zr6;rw[List.range_succ,List.map_append];rfl
theorem Z32 (CS:List Con) (l:List Int) (y j:Nat):(Zr6 CS l y j).length=j:=by unfold Zr6;simp
theorem Zro {CS:List Con} {l:List Int} {x:Nat} (h:Zt1 CS l x):∃ (i:Nat) (c:Con),CS[i]?=some c∧gv l x=(i:Int)∧nxC CS l x=c.r:=by
 obtain⟨i,c,h1,h2,h3⟩:=h
 refine⟨i,c,h1,h2,?_⟩
 unfold nxC Z2c
 rw[h2,Int.toNat_natCast,List.getD_eq_getElem?_getD,h1];rfl
theorem Zrp (w:World) (P:Nat→Prop) (ps:List Prd) (po:Option Addr) (pn pc:Nat) (ao:Option Addr) (n cp:Nat) (most:Int) (ns:List (List Nat)) (B:Nat) (hT:Tab w B) (hps:Zbj w P ps po) (hpn:pn=ps.length) (hpb:∀ p∈ps,Zib p) (hpl:pn≤1000)
  (hn:n=ns.length) (h:Zcr w ao ns) (hb:∀ s∈ns,NmB s) (hbig:n≤100) :
  Calls Tryz.prog 51 #[.slice po pn pc,.slice ao n cp,.int .i64 most] w fun e w'=>Znk w (Zi4 ns most ps) e w':=by
 have HRD:=ħ (Zu5 w P ps po pn pc ao n cp most ns B hT hps hpn hpb (by omega) hn h hb (by omega))
 have HNN:=ħ hn
 obtain⟨LL,hLL⟩:∃ L,Zi4 ns most ps=L:=⟨_,rfl⟩
 rw[hLL]
 have HLL:=ħ hLL
 have HLEN:Hid (∀ cs,Zh5 ns most ps=some cs→InC (n+1) cs∧Z76 cs∧cs.length≤2000):=ħ (fun cs hcs=>by
  obtain⟨h1,-,-,-,h5,h6,h7⟩:=Zu6 hcs
  have:=(Zf6 h1).2.1
  rw[hn]
  exact⟨h5,h6,by omega⟩)
 obtain⟨N,hN⟩:∃ N,n+1=N:=⟨_,rfl⟩
 have HN:=ħ hN
 have hN1:1≤N:=by omega
 have hN2:N≤1000:=by omega
 have eN:IntKind.i64.wrap ((n:Int)+1)=(N:Int):=by rw[IntWalk.i64_in _ (by omega)];omega
 have eN2:IntKind.i64.wrap ((N:Int)+1)=((N+1:Nat):Int):=by rw[IntWalk.i64_in _ (by omega)];omega
 have hmk:=run_make_row' (P:=Tryz.prog) 60 3 (.int .i64 0) 8 Tryz.underlying60 Zd5 rfl .i64 .i64 N (by omega) (by omega)
 rw[Zmh] at hmk
 clear h hb hn hT hps hpn hpb hLL hN
 go_enter Tryz.func51,Tryz.ntmps51
 go_wp2_with fail
 refine HRD.o.mono ?_
 intro e w2 hq
 rcases hq.open with ⟨hr,rfl,b2⟩ | ⟨cs,ro,rc,hr,rfl,ho,b2⟩
 ·have HNO:Hid (LL=none):=ħ (by rw[← HLL.o];unfold Zi4;rw[hr];rfl)
  have B2:=ħ b2
  clear hq hr b2
  have bx:=(Below.refl w2.heap.size w2).alloc (Nat.le_refl _) (.cells #[.slice ao n cp,.int .i64 most] 139)
  have B3:=ħ (B2.o.trans (bx.mono B2.o.size))
  clear bx
  go_wp2
  go_ret2
  exact Znk.no HNO.o B3.o
 ·have HCY:Hid (LL=Znt n cs):=ħ (by rw[← HLL.o];unfold Zi4;rw[hr,← HNN.o];rfl)
  obtain⟨hI,hbc,hl⟩:=HLEN.o cs hr
  have HCV:=ħ (fun d l a hc=>Z0b hI (d:=d) (l:=l) (a:=a) hc)
  have HCN:=ħ (fun hc=>Z0c (n:=n) (CS:=cs) hc)
  rw[HN.o,show n+2=N+1 by have:=HN.o;omega] at HCV HCN
  have HI:Hid (InC N cs):=ħ (by rw[← HN.o];exact hI)
  have HBC:=ħ hbc
  have B2:=ħ b2
  have O2:=ħ ho
  have bx:=(Below.refl w2.heap.size w2).alloc (Nat.le_refl _) (.cells #[.slice ao n cp,.int .i64 most] 139)
  have B3:=ħ (B2.o.trans (bx.mono B2.o.size))
  have X3:Hid (Zah (w2.alloc (.cells #[.slice ao n cp,.int .i64 most] 139)) w2.heap.size 139 [.slice ao n cp,.int .i64 most]):=ħ (heap_alloc_new _ _)
  have O3:=ħ (O2.o.below bx)
  clear hq hr b2 ho bx B2 O2 hI hbc HLEN HLL HRD
  go_upto_region 2 with (fail)
  generalize w2.alloc (.cells #[.slice ao n cp,.int .i64 most] 139)=w3 at *
  generalize w2.heap.size=A at *
  obtain⟨nl,hnl⟩:∃ m,cs.length=m:=⟨_,rfl⟩
  rw[hnl] at O3 hl
  rw[hnl]
  have HNL:=ħ hnl.symm
  clear hnl
  have HC:Hid (Za7 Zjv w3 ro cs):=ħ (O3.o.flatR Zc9 HNL.o)
  have x0:=X3.o.cell 0 _ rfl
  go_upto_region 5 with (fail)
  clear x0
  refine Zoz (cyF N w3.heap.size) (by kernel_rfl) (Z30 N w3.heap.size) (Ze0 (by kernel_rfl)) (Zt2 (by kernel_rfl)) (Zo0 (by kernel_rfl)) ?hs ?he
  case hs =>
   intro i o hi listed a' w' H hl2
   have hl3:=Za9 hl2
   have hb:=ħ H.below
   have s11:=H.same 11 (Zap (by kernel_rfl))
   have hdn:=H.done
   have hdf:=H.defers
   have hts:=H.tsize
   clear hl2 H
   obtain⟨t',df⟩:=a'
   obtain⟨f',rfl⟩:=Z5v t' hts
   have hdf':df=[]:=hdf
   subst hdf'
   have g11:f' 11 = .int .i64 (N:Int):=s11
   clear s11 hdf hts
   rw[g11] at hdn ⊢
   match i,hi with
   | 0,hi =>
    obtain rfl:=Option.some.inj hi
    clear hdn hl3
    refine Zac rfl ?_
    go_wp2_with fail
    exact Zaa ⟨_,rfl,Below.refl _ _,rfl⟩
   | 1,hi =>
    obtain rfl:=Option.some.inj hi
    have y0:f' 34 = .int .i64 (N:Int):=hdn 0 _ 34 rfl (hl3 0 (by rfl)) rfl
    clear hdn hl3
    rw[y0]
    clear y0
    refine Zac rfl ?_
    go_wp2_with fail
    exact Zaa ⟨_,rfl,(Below.refl w'.heap.size w').alloc (Nat.le_refl _) _,w'.heap.size,rfl,heap_alloc_new _ _,hb.o.size⟩
   | 2,hi =>
    obtain rfl:=Option.some.inj hi
    clear hdn hl3
    refine Zac rfl ?_
    go_wp2_with fail
    exact Zaa ⟨_,rfl,(Below.refl w'.heap.size w').alloc (Nat.le_refl _) _,w'.heap.size,rfl,heap_alloc_new _ _⟩
   | 3,hi =>
    obtain rfl:=Option.some.inj hi
    clear hdn hl3
    refine Zac rfl ?_
    go_wp2_with fail
    exact Zaa ⟨_,rfl,Below.refl _ _,rfl⟩
   | 4,hi =>
    obtain rfl:=Option.some.inj hi
    have y2:cyF N w3.heap.size 2 w' (f' 36):=hdn 2 _ 36 rfl (hl3 2 (by rfl)) rfl
    have y3:f' 37 = .int .i64 (N:Int):=hdn 3 _ 37 rfl (hl3 3 (by rfl)) rfl
    clear hdn hl3
    obtain⟨V,y2,hv⟩:=y2
    rw[y2,y3]
    clear y2 y3
    have HRP:=ħ (Zws w' (-1) V 0 1 N (hv.cell 0 _ rfl) hv.lt hN1 hN2)
    clear hv
    refine Zac rfl ?_
    go_wp2_with fail
    refine HRP.o.mono ?_
    rintro e w4 ⟨⟨L,rfl,hv4,hL⟩,b4⟩
    have HB4:=ħ b4
    have HV4:=ħ hv4
    clear b4 hv4
    go_wp2_with fail
    exact Zaa ⟨_,rfl,HB4.o,L,rfl,HV4.o,Nat.le_trans hb.o.size hL⟩
   | 5,hi =>
    obtain rfl:=Option.some.inj hi
    have y1:cyF N w3.heap.size 1 w' (f' 35):=hdn 1 _ 35 rfl (hl3 1 (by rfl)) rfl
    clear hdn hl3
    obtain⟨V,y1,hv,hV⟩:=y1
    rw[y1]
    clear y1
    have HV:=ħ hv
    clear hv
    refine Zac rfl ?_
    go_wp2_with fail
    exact Zaa ⟨_,rfl,Below.refl _ _,V,rfl,HV.o,hV⟩
   | 6,hi =>
    obtain rfl:=Option.some.inj hi
    have y1:cyF N w3.heap.size 4 w' (f' 38):=hdn 4 _ 38 rfl (hl3 4 (by rfl)) rfl
    clear hdn hl3
    obtain⟨V,y1,hv,hV⟩:=y1
    rw[y1]
    clear y1
    have HV:=ħ hv
    clear hv
    refine Zac rfl ?_
    go_wp2_with fail
    exact Zaa ⟨_,rfl,Below.refl _ _,V,rfl,HV.o,hV⟩
   | k+7,hi=>simp at hi
  case he =>
   intro listed a' w4 H hall
   have hd5:cyF N w3.heap.size 5 w4 (a'.tmps.getD 12 undef):=H.done 5 _ 12 rfl (hall 5 (by decide)) rfl
   have hd6:cyF N w3.heap.size 6 w4 (a'.tmps.getD 13 undef):=H.done 6 _ 13 rfl (hall 6 (by decide)) rfl
   have hb:=ħ H.below
   have s9:=H.same 9 (Zap (by kernel_rfl))
   have s11:=H.same 11 (Zap (by kernel_rfl))
   have hdf:=H.defers
   have hts:=H.tsize
   clear H hall
   obtain⟨t',df⟩:=a'
   obtain⟨f',rfl⟩:=Z5v t' hts
   have hdf':df=[]:=hdf
   subst hdf'
   have g9:f' 9 = .slice ro nl rc:=s9
   have g11:f' 11 = .int .i64 (N:Int):=s11
   obtain⟨V,g12,hv,hV⟩:=hd5
   obtain⟨L,g13,hlv,hL⟩:=hd6
   have g12':f' 12 = .slice (some ⟨V,0,none⟩) N N:=g12
   have g13':f' 13 = .slice (some ⟨L,0,none⟩) N N:=g13
   rw[g9,g11,g12',g13']
   have HVL:Hid (V≠L):=ħ (fun e=>by
    subst e
    have h1:=hv.cell 0 (.int .i64 0) (by unfold ivs;rw[List.getElem?_map,List.getElem?_replicate,if_pos (by omega)];rfl)
    have h2:=hlv.cell 0 (.int .i64 (-1)) (by unfold ivs;rw[List.getElem?_map,List.getElem?_replicate,if_pos (by omega)];rfl)
    rw[h1] at h2
    cases h2)
   have D4:=ħ hv
   have L4:=ħ hlv
   have BB:=ħ (B3.o.trans (hb.o.mono B3.o.size))
   have HC4:=ħ (HC.o.below hb.o)
   have HVW:Hid (w.heap.size≤V):=ħ (Nat.le_trans B3.o.size hV)
   have HLW:Hid (w.heap.size≤L):=ħ (Nat.le_trans B3.o.size hL)
   have HRO:Hid (∀ g,blk ro=some g→g<w3.heap.size):=ħ (fun g hg=>(O3.o.blk_lt hg).2)
   have HV3:Hid (w3.heap.size≤V):=ħ hV
   have HL3:Hid (w3.heap.size≤L):=ħ hL
   clear s9 s11 g9 g11 g12 g13 g12' g13' hdf hts hv hlv hb hmk eN X3 O3 B3
   have HAL:Hid (¬ (V=L)∧¬ (L=V)):=ħ ⟨HVL.o,fun e=>HVL.o e.symm⟩
   obtain⟨RC,hRC⟩:∃ r,Zcm cs (N+1) (List.replicate N 0) (List.replicate N (-1)) (-1)=r:=⟨_,rfl⟩
   have HRC:Hid (RC=Zcm cs (N+1) (List.replicate N 0) (List.replicate N (-1)) (-1)):=ħ hRC.symm
   rw[hRC] at HCN HCV
   clear hRC
   go_wp2_with fail
   generalize f' 0=f0 at *
   go_loopw [14,41] (fun av cc wr=>∃ (i f:Nat) (d l:List Int) (a:Int),cc = .int .i64 i∧i+f=N+1∧av = .int .i64 a∧Hid (RC=Zcm cs f d l a)∧Hid (d.length=N)∧Hid (l.length=N)∧Hid (∀ k,-(((i*nl:Nat):Int)*1099511627776)≤gv d k∧gv d k≤0)∧Hid (Zah wr V 3 (ivs d))∧Hid (Zah wr L 3 (ivs l))∧Hid (Below w.heap.size w wr)∧Hid (Za7 Zjv wr ro cs)) (fun _ c _=>(N+1-intOf c).toNat)
   case atStart=>exact⟨0,N+1,List.replicate N 0,List.replicate N (-1),-1,rfl,by omega,rfl,HRC,ħ List.length_replicate,ħ List.length_replicate,ħ (fun k=>by rw[Zgv];simp),D4,L4,BB,HC4⟩
   case round =>
    clear D4 L4 BB HC4 HRC eN2
    obtain⟨i,f,d0,l0,a0,rfl,hif,rfl,hrc,hdl,hll,hdb,hd,hlw,hw,hcw⟩:=hrel
    have e2:IntKind.i64.wrap ((i:Int)+1)=((i+1:Nat):Int):=IntWalk.i64_in _ (by omega)
    by_cases hlt:i<N+1
    ·have ii:(i:Int)<((N+1:Nat):Int):=by omega
     obtain⟨f2,rfl⟩:∃ f2,f=f2+1:=⟨f-1,by omega⟩
     have HIN:Hid (i*nl≤1001*2000):=ħ (Nat.mul_le_mul (by omega) hl)
     obtain⟨PC,hPC⟩:∃ r,Zc3 cs 0 d0 l0 (-1)=r:=⟨_,rfl⟩
     have HPC:Hid (PC=Zc3 (cs.drop 0) 0 d0 l0 (-1)):=ħ hPC.symm
     have HPQ:=ħ hPC
     clear hPC
     go_wp2_with fail
     generalize wr=wo at *
     go_loopw [14,45] (fun av cc wr=>∃ (j:Nat) (d l:List Int) (a:Int),cc = .int .i64 j∧av = .int .i64 a∧j≤nl∧Hid (PC=Zc3 (cs.drop j) j d l a)∧Hid (d.length=N)∧Hid (l.length=N)∧Hid (∀ k,-(((i*nl+j:Nat):Int)*1099511627776)≤gv d k∧gv d k≤0)∧Hid (Zah wr V 3 (ivs d))∧Hid (Zah wr L 3 (ivs l))∧Hid (Below w.heap.size w wr)∧Hid (Za7 Zjv wr ro cs)) (fun _ c _=>(nl-intOf c).toNat)
     case atStart=>exact⟨0,d0,l0,-1,rfl,rfl,by omega,HPC,hdl,hll,hdb,hd,hlw,hw,hcw⟩
     case round =>
      clear HPC hd hlw hw hcw hdl hll hdb
      obtain⟨j,d,l,a,rfl,rfl,hj,hpc,hdl,hll,hdb,hd,hlw,hw,hcw⟩:=hrel
      have e3:IntKind.i64.wrap ((j:Int)+1)=((j+1:Nat):Int):=IntWalk.i64_in _ (by omega)
      by_cases hjl:j<nl
      ·have jj:(j:Int)<nl:=by omega
       obtain⟨c,hcj⟩:∃ c,cs[j]?=some c:=⟨_,List.getElem?_eq_getElem (by rw[← HNL.o];exact hjl)⟩
       have hcm:=List.mem_of_getElem? hcj
       obtain⟨g,off,hao,hg,hcc⟩:=hcw.o.at (k:=3) Zc9 j c hcj
       have HAO:=ħ hao
       have HGV:Hid (g<w3.heap.size):=ħ (HRO.o g (by rw[hao];rfl))
       subst hao
       have s0:=hcc 0 _ rfl
       have s1:=hcc 1 _ rfl
       have s2:=hcc 2 _ rfl
       rw[Nat.add_zero] at s0
       obtain⟨hin1,hin2⟩:=HI.o c hcm
       obtain⟨hb1,hb2⟩:=HBC.o c hcm
       have HDR:Hid (cs.drop j=c::cs.drop (j+1)):=ħ (Zb5 cs j c hcj)
       have HCK:=ħ (fun (h:¬ gv d c.r+c.c<gv d c.l)=>Zwu (cs:=cs.drop (j+1)) (i:=j) (l:=l) (a:=a) h)
       have HCU:=ħ (fun (h:gv d c.r+c.c<gv d c.l)=>Z31 (cs:=cs.drop (j+1)) (i:=j) (l:=l) (a:=a) h)
       rw[HDR.o] at hpc
       have q1:=Zh4 (l:=d) (i:=c.l) (by rw[hdl.o];exact hin1)
       have q2:=Zh4 (l:=d) (i:=c.r) (by rw[hdl.o];exact hin2)
       have q3:=Zh4 (l:=l) (i:=c.l) (by rw[hll.o];exact hin1)
       have hv1:=hdb.o c.l
       have hv2:=hdb.o c.r
       clear hcj hcm hcc hg HDR
       generalize hx1:gv d c.l=x1 at *
       generalize hx2:gv d c.r=x2 at *
       generalize gv l c.l=x3 at *
       generalize Zc3 (c::cs.drop (j+1)) j d l a=PX at *
       generalize c.l=cl' at *
       generalize c.r=cr at *
       generalize c.c=cc' at *
       clear hx1 hx2
       have i1:(cl':Int)<(N:Int):=by omega
       have i2:(cr:Int)<(N:Int):=by omega
       have HPW:Hid (((i*nl+j:Nat):Int)*1099511627776≤4398046511104*1099511627776/1000000):=ħ (by have:=HIN.o;omega)
       have ex:IntKind.i64.wrap (x2+cc')=x2+cc':=IntWalk.i64_in _ (by have:=HPW.o;omega)
       have bx:=(Below.refl wr.heap.size wr).alloc (Nat.le_refl _) (.cells #[.int .i64 (cl':Int),.int .i64 (cr:Int),.int .i64 cc'] 147)
       have K2:Hid (Zah (wr.alloc (.cells #[.int .i64 (cl':Int),.int .i64 (cr:Int),.int .i64 cc'] 147)) wr.heap.size 147 [.int .i64 (cl':Int),.int .i64 (cr:Int),.int .i64 cc']):=ħ (heap_alloc_new _ _)
       have V3:=ħ (hd.o.step bx)
       have L3:=ħ (hlw.o.step bx)
       have B3:=ħ (hw.o.trans (bx.mono hw.o.size))
       have C3:=ħ (hcw.o.below bx)
       have KV:Hid (wr.heap.size≠V∧wr.heap.size≠L):=ħ ⟨by have:=hd.o.lt;omega,by have:=hlw.o.lt;omega⟩
       go_upto_region 13 with (fail)
       clear bx hd hlw hw hcw s0 s1 s2
       generalize wr.alloc (.cells #[.int .i64 (cl':Int),.int .i64 (cr:Int),.int .i64 cc'] 147)=w5 at *
       generalize wr.heap.size=KA at *
       have k0:=K2.o.cell 0 _ rfl
       have k1:=K2.o.cell 1 _ rfl
       have k2:=K2.o.cell 2 _ rfl
       have y1:=V3.o.cell cl' _ q1
       have y2:=V3.o.cell cr _ q2
       by_cases hrel2:x2+cc'<x1
       ·have HUP:Hid (PC=Zc3 (cs.drop (j+1)) (j+1) (d.set cl' (x2+cc')) (l.set cl' (j:Int)) (cl':Int)):=ħ (by rw[hpc.o];exact HCU.o hrel2)
        clear HCK HCU hpc
        go_region
        go_upto_region 15 with (fail)
        have Bd:=ħ (B3.o.drew)
        have Vd:=ħ (V3.o.step (Below.refl _ _).drew)
        have Ld:=ħ (L3.o.step (Below.refl _ _).drew)
        have Cd:=ħ (C3.o.below (Below.refl _ _).drew)
        have Kd:=ħ (K2.o.step (Below.refl _ _).drew)
        clear k0 k1 k2 y1 y2 B3 V3 L3 C3 K2
        generalize w5.drew=w6 at *
        have k0:=Kd.o.cell 0 _ rfl
        have y1:=Vd.o.cell cl' _ q1
        have y3:=Ld.o.cell cl' _ q3
        have z1:=Vd.o.warm cl'
        have z3:=Ld.o.warm cl'
        have a1:=HAL.o.1
        have a2:=HAL.o.2
        have a3:¬ KA=V:=KV.o.1
        have a4:¬ KA=L:=KV.o.2
        have a5:¬ V=KA:=fun e=>KV.o.1 e.symm
        have a6:¬ L=KA:=fun e=>KV.o.2 e.symm
        go_region
        have V4:Hid (Zah (((w6.setCell ⟨V,cl',none⟩ (.int .i64 (x2+cc'))).setCell ⟨L,cl',none⟩ (.int .i64 (j:Int))).drew) V 3 (ivs (d.set cl' (x2+cc')))):=ħ (by
         rw[← Zs6]
         exact ((Vd.o.set cl' _).upd (Zaj _ ⟨L,cl',none⟩ _) HVL.o).step (Below.refl _ _).drew)
        have L4:Hid (Zah (((w6.setCell ⟨V,cl',none⟩ (.int .i64 (x2+cc'))).setCell ⟨L,cl',none⟩ (.int .i64 (j:Int))).drew) L 3 (ivs (l.set cl' (j:Int)))):=ħ (by
         rw[← Zs6]
         exact ((Ld.o.upd (Zaj _ ⟨V,cl',none⟩ _) (fun e=>HVL.o e.symm)).set cl' _).step (Below.refl _ _).drew)
        have B4:=ħ (((Bd.o.cellAt V cl' HVW.o (.int .i64 (x2+cc'))).cellAt L cl' HLW.o (.int .i64 (j:Int))).drew)
        have C4:Hid (Za7 Zjv (((w6.setCell ⟨V,cl',none⟩ (.int .i64 (x2+cc'))).setCell ⟨L,cl',none⟩ (.int .i64 (j:Int))).drew) (some ⟨g,off,none⟩) cs):=ħ (by
         rcases Cd.o with h | ⟨g',off',h1,h2,h3⟩
         ·exact .inl h
         ·cases h1
          have hgl:g<w6.heap.size:=h2
          have hv1:g≠V:=by have:=HGV.o;have:=HV3.o;omega
          have hl1:g≠L:=by have:=HGV.o;have:=HL3.o;omega
          refine .inr ⟨g,off,rfl,by show g<((w6.setCell ⟨V,cl',none⟩ (.int .i64 (x2+cc'))).setCell ⟨L,cl',none⟩ (.int .i64 (j:Int))).heap.size;rw[World.size_setCell,World.size_setCell];exact hgl,h3.of_block ?_⟩
          show ((w6.setCell ⟨V,cl',none⟩ (.int .i64 (x2+cc'))).setCell ⟨L,cl',none⟩ (.int .i64 (j:Int))).heap[g]?=_
          rw[(Zaj _ ⟨L,cl',none⟩ _).block g hl1,(Zaj _ ⟨V,cl',none⟩ _).block g hv1])
        have DL:Hid ((d.set cl' (x2+cc')).length=N):=ħ (by rw[List.length_set];exact hdl.o)
        have LL2:Hid ((l.set cl' (j:Int)).length=N):=ħ (by rw[List.length_set];exact hll.o)
        have VB:Hid (∀ k,-(((i*nl+(j+1):Nat):Int)*1099511627776)≤gv (d.set cl' (x2+cc')) k∧gv (d.set cl' (x2+cc')) k≤0):=ħ (fun k=>by
         rw[Zgn _ _ _ _ (by rw[hdl.o];exact hin1)]
         have:=hdb.o k
         by_cases e:cl'=k
         ·rw[if_pos e];omega
         ·rw[if_neg e];omega)
        clear k0 y1 y3 z1 z3 a1 a2 a3 a4 a5 a6
        go_wp2_with fail
        go_roundw
        case rel=>exact⟨j+1,_,_,(cl':Int),by go_num,rfl,by omega,HUP,DL,LL2,VB,V4,L4,B4,C4⟩
        case measure=>simp only[intOf];omega
       ·have HUP:Hid (PC=Zc3 (cs.drop (j+1)) (j+1) d l a):=ħ (by rw[hpc.o];exact HCK.o hrel2)
        clear HCK HCU
        go_region
        go_wp2_with fail
        have V4:=ħ (V3.o.step (Below.refl _ _).drew)
        have L4:=ħ (L3.o.step (Below.refl _ _).drew)
        have B4:=ħ (B3.o.drew)
        have C4:=ħ (C3.o.below (Below.refl _ _).drew)
        have VB:Hid (∀ k,-(((i*nl+(j+1):Nat):Int)*1099511627776)≤gv d k∧gv d k≤0):=ħ (fun k=>by have:=hdb.o k;omega)
        go_roundw
        case rel=>exact⟨j+1,d,l,a,by go_num,rfl,by omega,HUP,hdl,hll,VB,V4,L4,B4,C4⟩
        case measure=>simp only[intOf];omega
      ·obtain rfl:j=nl:=by omega
       have jj:¬ ((j:Int)<(j:Int)):=by omega
       have HEND:Hid (Zc3 cs 0 d0 l0 (-1)=(d,l,a)):=ħ (by
        rw[HPQ.o,hpc.o,List.drop_eq_nil_of_le (by rw[← HNL.o];exact Nat.le_refl _)]
        rfl)
       by_cases ha:a<0
       ·have HNO:Hid (LL=none):=ħ (by
         rw[HCY.o]
         exact HCN.o (by rw[hrc.o];exact Zwt (by rw[HEND.o];exact ha)))
        go_wp2
        go_ret2
        exact Znk.no HNO.o hw.o
       ·have HGO:Hid (RC=Zcm cs f2 d l a):=ħ (by rw[hrc.o];exact Z0d HEND.o ha)
        have VB:Hid (∀ k,-((((i+1)*j:Nat):Int)*1099511627776)≤gv d k∧gv d k≤0):=ħ (fun k=>by have:=hdb.o k;rw[Nat.add_mul,Nat.one_mul];exact this)
        go_wp2_with fail
        go_roundw
        case rel=>exact⟨i+1,f2,d,l,a,by go_num,by omega,rfl,HGO,hdl,hll,VB,hd,hlw,hw,hcw⟩
        case measure=>simp only[intOf];omega
    ·obtain rfl:i=N+1:=by omega
     have ii:¬ (((N+1:Nat):Int)<((N+1:Nat):Int)):=by omega
     obtain rfl:f=0:=by omega
     obtain⟨x,p,ha0,hx,-,hp1,hp2,hat,hper,hmin,hcy⟩:=HCV.o d0 l0 a0 hrc.o
     subst ha0
     have HYE:Hid (LL=some (Zr6 cs l0 (itC cs l0 x N) p)):=ħ (HCY.o.trans hcy)
     have HAT:=ħ hat
     have HPER:=ħ hper
     have HMIN:=ħ hmin
     have HXX:Hid (itC cs l0 x 0=x):=ħ rfl
     clear hat hper hmin hcy hrc hd hdl hdb HCV HCN HCY
     go_wp2_with fail
     generalize wr=wo at *
     go_loopw [14,82] (fun av cc wr=>∃ (k:Nat),cc = .int .i64 k∧av = .int .i64 (itC cs l0 x k:Nat)∧k≤N∧wo=wr) (fun _ c _=>(N-intOf c).toNat)
     case atStart=>exact⟨0,rfl,rfl,by omega,rfl⟩
     case round =>
      obtain⟨k,rfl,rfl,hk,rfl⟩:=hrel
      have e3:IntKind.i64.wrap ((k:Int)+1)=((k+1:Nat):Int):=IntWalk.i64_in _ (by omega)
      by_cases hkl:k<N
      ·have kk:(k:Int)<N:=by omega
       obtain⟨hxk,hed⟩:=HAT.o k
       obtain⟨ei,ec,he1,he2,he3⟩:=Zro hed
       have hein:=(List.getElem?_eq_some_iff.1 he1).1
       rw[← HNL.o] at hein
       obtain⟨g,off,hao,hg,hcc⟩:=hcw.o.at (k:=3) Zc9 ei ec he1
       have HAO:=ħ hao
       subst hao
       have s1:=hcc 1 _ rfl
       have q3:=hlw.o.cell _ _ (Zh4 (l:=l0) (i:=itC cs l0 x k) (by rw[hll.o];exact hxk))
       rw[he2] at q3
       have HNX:Hid (itC cs l0 x (k+1)=ec.r):=ħ he3
       have ix:((itC cs l0 x k:Nat):Int)<N:=by omega
       have ie:(ei:Int)<nl:=by omega
       clear he1 he2 he3 hcc hg hed
       generalize itC cs l0 x k=X at *
       generalize ec.r=Y at *
       go_wp2_with fail
       go_roundw
       case rel=>exact⟨k+1,by go_num,by rw[HNX.o],by omega,by trivial⟩
       case measure=>simp only[intOf];omega
      ·obtain rfl:k=N:=by omega
       have kk:¬ ((k:Int)<(k:Int)):=by omega
       obtain⟨y,hy⟩:∃ y,itC cs l0 x k=y:=⟨_,rfl⟩
       rw[hy] at HYE HPER HMIN ⊢
       have HAY:Hid (∀ j,itC cs l0 y j<k∧Zt1 cs l0 (itC cs l0 y j)):=ħ (fun j=>by rw[← hy,← Zgw];exact HAT.o _)
       clear hy HAT
       go_wp2_with fail
       go_loopw [18,19] (fun ov xv wr=>∃ (j:Nat) (ro2:Option Addr) (rc2:Nat),ov = .slice ro2 j rc2∧xv = .int .i64 (itC cs l0 y j:Nat)∧j≤p∧Hid (OwnK wr wo.heap.size 1 j rc2 ((Zr6 cs l0 y j).flatMap Zcc) ro2)∧Hid (Below wo.heap.size wo wr)) (fun ov _ _=>p-Z83 ov)
       case atStart=>exact⟨0,none,0,rfl,rfl,by omega,ħ (.nil (by simp[Zr6]) rfl rfl),ħ (Below.refl _ _)⟩
       case round =>
        obtain⟨j,ro2,rc2,rfl,rfl,hj,ho,hb⟩:=hrel
        by_cases hjp:j<p
        ·obtain⟨hxk,hed⟩:=HAY.o j
         obtain⟨ei,ec,he1,he2,he3⟩:=Zro hed
         have hein:=(List.getElem?_eq_some_iff.1 he1).1
         rw[← HNL.o] at hein
         obtain⟨g,off,hao,hg,hcc⟩:=(hcw.o.below hb.o).at (k:=3) Zc9 ei ec he1
         have HAO:=ħ hao
         have HE1:=ħ he1
         subst hao
         have Q3:=ħ (Zh4 (l:=l0) (i:=itC cs l0 y j) (by rw[hll.o];exact hxk))
         have q3:=(hlw.o.step hb.o).cell _ _ Q3.o
         have HEV:=ħ he2
         rw[he2] at q3
         have HNX:Hid (itC cs l0 y (j+1)=ec.r):=ħ he3
         have HTK:Hid ((Zr6 cs l0 y j).flatMap Zcc++[.int .i64 (ei:Int)]=(Zr6 cs l0 y (j+1)).flatMap Zcc):=ħ (by rw[Z0e,he2,← Zg5];rfl)
         have HXY:Hid (0<j→itC cs l0 y j≠y):=ħ (fun h0=>HMIN.o j h0 hjp)
         have HY0:Hid (itC cs l0 y 0=y):=ħ rfl
         have ix:((itC cs l0 y j:Nat):Int)<k:=by omega
         have ie:(ei:Int)<nl:=by omega
         clear he1 he2 he3 hcc hg hed
         by_cases hj0:j=0
         ·subst hj0
          rw[HY0.o] at q3 ix Q3 HEV ⊢
          go_upto_region 27 with (at_builtin;refine Zfa 60 3 (.int .i64 0) 1 8 Tryz.underlying60 Zd5 rfl (by omega) (by omega) wr wo.heap.size rfl (.tmp 110) (.tmp 115) rfl ro2 rc2 0 ((Zr6 cs l0 y 0).flatMap Zcc) ?q1 ho.o hb.o.size 1 1 #[.int .i64 (ei:Int)] 3 ?q2 rfl (by omega) ?q3 ?q4 ?_;(case q1=>rfl);(case q2=>rfl);(case q3=>simp[Value.oneCell']);(case q4=>omega);intro g5 off5 c5 wa o8 gr8 b8 or8;have O8:=ħ o8;have B8:=ħ b8;clear o8 gr8 b8 or8)
          have HB9:=ħ (hb.o.trans B8.o)
          obtain⟨g2,off2,hao2,hg2,hcc2⟩:=(hcw.o.below HB9.o).at (k:=3) Zc9 ei ec HE1.o
          cases hao2
          have s1:=hcc2 1 _ rfl
          have q3:=(hlw.o.step HB9.o).cell _ _ Q3.o
          rw[HEV.o] at q3
          clear hcc2 hg2 ho hb B8
          go_wp2_with fail
          go_roundw
          case rel=>exact⟨0+1,some ⟨g5,off5,none⟩,c5,rfl,by rw[HNX.o],by omega,ħ (by rw[← HTK.o];exact O8.o),HB9⟩
          case measure=>simp only[Z83];omega
         ·have hj1:¬ ((j:Int)=0):=by omega
          have hj2:((j:Int)==0)=false:=beq_eq_false_iff_ne.mpr hj1
          have hxy:=HXY.o (by omega)
          generalize hX:itC cs l0 y j=X at *
          have t1:¬ ((X:Int)=(y:Int)):=by omega
          have t2:((X:Int)==(y:Int))=false:=beq_eq_false_iff_ne.mpr t1
          have t3:((X:Int) != (y:Int))=true:=bne_iff_ne.mpr t1
          have t4:¬ X=y:=hxy
          have t5:(X==y)=false:=beq_eq_false_iff_ne.mpr hxy
          have t6:(X != y)=true:=bne_iff_ne.mpr hxy
          have HX:=ħ hX
          clear hxy hX
          go_upto_region 27 with (at_builtin;refine Zfa 60 3 (.int .i64 0) 1 8 Tryz.underlying60 Zd5 rfl (by omega) (by omega) wr wo.heap.size rfl (.tmp 110) (.tmp 115) rfl ro2 rc2 j ((Zr6 cs l0 y j).flatMap Zcc) ?q1 ho.o hb.o.size 1 1 #[.int .i64 (ei:Int)] 3 ?q2 rfl (by omega) ?q3 ?q4 ?_;(case q1=>rfl);(case q2=>rfl);(case q3=>simp[Value.oneCell']);(case q4=>omega);intro g5 off5 c5 wa o8 gr8 b8 or8;have O8:=ħ o8;have B8:=ħ b8;clear o8 gr8 b8 or8)
          have HB9:=ħ (hb.o.trans B8.o)
          obtain⟨g2,off2,hao2,hg2,hcc2⟩:=(hcw.o.below HB9.o).at (k:=3) Zc9 ei ec HE1.o
          cases hao2
          have s1:=hcc2 1 _ rfl
          have q3:=(hlw.o.step HB9.o).cell _ _ Q3.o
          rw[HEV.o] at q3
          clear hcc2 hg2 ho hb B8
          go_wp2_with fail
          go_roundw
          case rel=>exact⟨j+1,some ⟨g5,off5,none⟩,c5,rfl,by rw[HNX.o],by omega,ħ (by rw[← HTK.o];exact O8.o),HB9⟩
          case measure=>simp only[Z83];omega
        ·obtain rfl:j=p:=by omega
         have hj1:¬ ((j:Int)=0):=by omega
         have hj2:((j:Int)==0)=false:=beq_eq_false_iff_ne.mpr hj1
         rw[HPER.o]
         have HB9:=ħ (hw.o.trans (hb.o.mono hw.o.size))
         have HO9:=ħ (ho.o.lower hw.o.size)
         have HLE:Hid (j=(Zr6 cs l0 y j).length):=ħ (Z32 _ _ _ _).symm
         go_wp2
         go_ret2
         exact Znk.yes HYE.o HLE.o HO9.o HB9.o
end
section
open Go.RowKit Go.Sort
def Zpl (ns:List (List Nat)) (most:Int) (ps:List Prd) (list:List Int):Bool:=match Zh5 ns most ps with
 | none=>false
 | some cs=>Zii cs list
def Z33 (m:Int) (x:Int):Bool:=decide (x<0)||decide (m≤x)
theorem Z34 (w:World) (X:Nat) (ro:Option Addr) (m rc:Nat) (x:Int) (hx:Zah w X 140 [.slice ro m rc]) :
  Calls Tryz.prog 119 #[.int .i64 x,.pointer (some ⟨X,0,none⟩)] w fun e w'=>e = .returned (.bool (Z33 m x))∧Below w.heap.size w w':=by
 have x0:=hx.cell 0 _ rfl
 have HO:Hid (Z33 m x=(decide (x<0)||decide ((m:Int)≤x))):=ħ rfl
 rw[HO.o]
 clear hx HO
 go_enter Tryz.func119,Tryz.ntmps119
 by_cases h0:x<0
 ·rw[decide_eq_true h0]
  go_wp2
  go_ret
  exact⟨rfl,Below.refl _ _⟩
 ·rw[decide_eq_false h0]
  go_wp2
  go_ret
  exact⟨rfl,Below.refl _ _⟩
def Z5w (cs:List Con) (list:List Int) (i:Nat):Int:=((list.take i).map (fun k=>(cs.getD k.toNat default).c)).sum
theorem Z0f {cs:List Con} {list:List Int} {i:Nat} {k:Int} (h:list[i]?=some k):Z5w cs list (i+1)=Z5w cs list i+(cs.getD k.toNat default).c:=by
 unfold Z5w
 rw[List.take_add_one,h,List.map_append,List.sum_append]
 simp
theorem Z35 {cs:List Con} {list:List Int}:Z5w cs list list.length=(list.map (fun k=>(cs.getD k.toNat default).c)).sum:=by
 unfold Z5w
 rw[List.take_length]
def Z62 (cs:List Con) (list:List Int) (i:Nat):Bool:=(cs.getD (list.getD i 0).toNat default).r==(cs.getD (list.getD ((i+1)%list.length) 0).toNat default).l
theorem Zrq {cs:List Con} {list:List Int} {i:Nat} (hi:i<list.length) (h:Z62 cs list i=false):Zii cs list=false:=by
 unfold Zii
 have:(List.range list.length).all (fun i=>(cs.getD (list.getD i 0).toNat default).r==(cs.getD (list.getD ((i+1)%list.length) 0).toNat default).l)=false:=by
  rw[List.all_eq_false]
  exact⟨i,List.mem_range.2 hi,by show ¬ Z62 cs list i=true;rw[h];simp⟩
 rw[this]
 simp
theorem Z0g {cs:List Con} {list:List Int} (h:list.any (Z33 cs.length)=true):Zii cs list=false:=by
 unfold Zii
 have:list.all (fun i=>decide (0≤i)&&decide (i<(cs.length:Int)))=false:=by
  rw[List.any_eq_true] at h
  obtain⟨x,hx,h2⟩:=h
  rw[List.all_eq_false]
  refine⟨x,hx,?_⟩
  unfold Z33 at h2
  simp only[Bool.or_eq_true,decide_eq_true_eq] at h2
  simp only[Bool.and_eq_true,decide_eq_true_eq]
  omega
 rw[this]
 simp
theorem Z0h {cs:List Con} {list:List Int} (h0:list≠[]) (h1:list.any (Z33 cs.length)=false) (h2:∀ i,i<list.length→Z62 cs list i=true):Zii cs list=decide (Z5w cs list list.length<0):=by
 unfold Zii
 have e0:(!list.isEmpty)=true:=by cases list with
  | nil=>exact absurd rfl h0
  | cons x xs=>rfl
 have e1:list.all (fun i=>decide (0≤i)&&decide (i<(cs.length:Int)))=true:=by
  rw[List.all_eq_true]
  intro x hx
  rw[List.any_eq_false] at h1
  have:=h1 x hx
  unfold Z33 at this
  simp only[Bool.or_eq_true,decide_eq_true_eq,not_or] at this
  simp only[Bool.and_eq_true,decide_eq_true_eq]
  omega
 have e2:(List.range list.length).all (fun i=>(cs.getD (list.getD i 0).toNat default).r==(cs.getD (list.getD ((i+1)%list.length) 0).toNat default).l)=true:=by
  rw[List.all_eq_true]
  exact fun i hi=>h2 i (List.mem_range.1 hi)
 rw[e0,e1,e2,Z35]
 rfl
theorem Z0i (w:World) (P:Nat→Prop) (ps:List Prd) (po:Option Addr) (pn pc:Nat) (ao:Option Addr) (n cp:Nat) (most:Int) (ns:List (List Nat)) (B:Nat) (list:List Int) (lo:Option Addr) (ln lc:Nat) (hT:Tab w B) (hps:Zbj w P ps po) (hpn:pn=ps.length) (hpb:∀ p∈ps,Zib p) (hpl:pn≤1000)
  (hn:n=ns.length) (h:Zcr w ao ns) (hb:∀ s∈ns,NmB s) (hbig:n≤1000) (hl:Za7 Zcc w lo list) (hln:ln=list.length) (hlb:ln≤1000) :
  Calls Tryz.prog 52 #[.slice po pn pc,.slice ao n cp,.int .i64 most,.slice lo ln lc] w fun e w'=>e = .returned (.bool (Zpl ns most ps list))∧Below w.heap.size w w':=by
 have HRD:=ħ (Zu5 w P ps po pn pc ao n cp most ns B hT hps hpn hpb (by omega) hn h hb hbig)
 have HL:=ħ hl
 have HLN:=ħ hln
 obtain⟨V,hV⟩:∃ V,Zpl ns most ps list=V:=⟨_,rfl⟩
 rw[hV]
 have HV:Hid ((match Zh5 ns most ps with | none=>false | some cs=>Zii cs list)=V):=ħ hV
 have HLEN:Hid (∀ cs,Zh5 ns most ps=some cs→Z76 cs∧cs.length≤3000):=ħ (fun cs hcs=>by
  obtain⟨h1,-,-,-,h5,h6,h7⟩:=Zu6 hcs
  have:=(Zf6 h1).2.1
  exact⟨h6,by omega⟩)
 clear h hb hn hT hps hpn hpb hl hln hV
 go_enter Tryz.func52,Tryz.ntmps52
 go_wp2_with fail
 refine HRD.o.mono ?_
 intro e w2 hq
 rcases hq.open with ⟨hr,rfl,b2⟩ | ⟨cs,ro,rc,hr,rfl,ho,b2⟩
 ·have HNO:Hid (V=false):=ħ (by rw[← HV.o,hr])
  have B2:=ħ b2
  clear hq hr b2
  have bx:=((Below.refl w2.heap.size w2).alloc (Nat.le_refl _) (.cells #[.slice ao n cp,.int .i64 most] 139)).alloc (by simp) (.cells #[.slice none 0 0] 140)
  have B3:=ħ (B2.o.trans (bx.mono B2.o.size))
  clear bx
  go_wp2
  go_ret
  exact⟨Zag HNO.o.symm,B3.o⟩
 ·have HB:=ħ (HLEN.o cs hr)
  obtain⟨m,hm⟩:∃ m,cs.length=m:=⟨_,rfl⟩
  have HM:=ħ hm
  have HC:Hid (Zii cs list=V):=ħ (by rw[← HV.o,hr])
  rw[hm] at ho ⊢
  have bx:=((Below.refl w2.heap.size w2).alloc (Nat.le_refl _) (.cells #[.slice ao n cp,.int .i64 most] 139)).alloc (by simp) (.cells #[.slice ro m rc] 140)
  have B3:=ħ (b2.trans (bx.mono b2.size))
  have X3:Hid (Zah ((w2.alloc (.cells #[.slice ao n cp,.int .i64 most] 139)).alloc (.cells #[.slice ro m rc] 140)) (w2.heap.size+1) 140 [.slice ro m rc]):=ħ (heap_alloc2_new _ _ _)
  have C3:=ħ ((ho.flatR Zc9 hm.symm).below bx)
  have L3:=ħ (HL.o.below B3.o)
  have hm3:m≤3000:=by rw[← hm];exact HB.o.2
  clear hq hr b2 ho bx hm HV HLEN HRD HL
  by_cases h0:ln=0
  ·have z:((ln:Int)==0)=true:=by rw[h0];rfl
   have HNO:Hid (V=false):=ħ (by
    rw[← HC.o]
    have:list=[]:=List.eq_nil_of_length_eq_zero (by rw[← HLN.o];exact h0)
    rw[this];rfl)
   clear h0
   go_wp2
   go_ret
   exact⟨Zag HNO.o.symm,B3.o⟩
  ·have z:((ln:Int)==0)=false:=by rw[beq_eq_false_iff_ne];omega
   have HNE:Hid (list≠[]):=ħ (fun e=>h0 (by rw[HLN.o,e];rfl))
   have hl0:0<ln:=by omega
   go_upto_region 2 with (fail)
   generalize (w2.alloc (.cells #[.slice ao n cp,.int .i64 most] 139)).alloc (.cells #[.slice ro m rc] 140)=w3 at *
   generalize w2.heap.size+1=X at *
   have eg:∀ args w,(callFunc 119 args).run Tryz.prog w = .ok (.enter 119 args) w:=enters_of Tryz.func119 (by kernel_rfl) rfl
   have HCT:=ħ (Zzr w3 list lo ln lc HLN.o (by omega) L3.o 119 #[.pointer (some ⟨X,0,none⟩)] (Z33 m) eg (fun W x _ hW=>Z34 W X ro m rc x (X3.o.step hW)))
   clear h0
   obtain⟨av,hav⟩:∃ v,list.any (Z33 m)=v:=⟨_,rfl⟩
   rw[hav] at HCT
   have HAV:=ħ hav
   clear hav
   go_wp2_with fail
   refine HCT.o.mono ?_
   rintro e w4 ⟨rfl,b4⟩
   have B4:=ħ (B3.o.trans (b4.mono B3.o.size))
   have X4:=ħ (X3.o.step b4)
   have C4:=ħ (C3.o.below b4)
   have L4:=ħ (L3.o.below b4)
   clear b4 HCT B3 X3 C3 L3
   cases av with
   | true =>
    have HNO:Hid (V=false):=ħ (by
     rw[← HC.o]
     exact Z0g (by rw[HM.o];exact HAV.o))
    go_wp2
    go_ret
    exact⟨Zag HNO.o.symm,B4.o⟩
   | false =>
    have HRG:Hid (∀ k∈list,0≤k∧k<(m:Int)):=ħ (fun k hk=>by
     have h:=HAV.o
     rw[List.any_eq_false] at h
     have:=h k hk
     unfold Z33 at this
     simp only[Bool.or_eq_true,decide_eq_true_eq,not_or] at this
     omega)
    go_wp2_with fail
    go_loopw [12,37] (fun sv iv wr=>∃ (i:Nat) (s:Int),iv = .int .i64 i∧sv = .int .i64 s∧i≤ln∧Hid (s=Z5w cs list i)∧-(1099511627776*(i:Int))≤s∧s≤1099511627776*(i:Int)∧Hid (∀ j,j<i→Z62 cs list j=true)∧Hid (Below w4.heap.size w4 wr)) (fun _ i _=>(ln-intOf i).toNat)
    case atStart=>exact⟨0,0,rfl,rfl,by omega,ħ rfl,by omega,by omega,ħ (fun j hj=>absurd hj (Nat.not_lt_zero j)),ħ (Below.refl _ _)⟩
    case round =>
     obtain⟨i,s,rfl,rfl,hi,hs,hs1,hs2,hch,hw⟩:=hrel
     have e2:IntKind.i64.wrap ((i:Int)+1)=((i+1:Nat):Int):=IntWalk.i64_in _ (by omega)
     have e2':IntKind.i64.wrap ((i:Int)+1)=(i:Int)+1:=IntWalk.i64_in _ (by omega)
     by_cases hil:i<ln
     ·have ii:(i:Int)<ln:=by omega
      obtain⟨k,hk⟩:∃ k,list[i]?=some k:=⟨_,List.getElem?_eq_getElem (by rw[← HLN.o];exact hil)⟩
      obtain⟨q,hq⟩:∃ q,(i+1)%ln=q:=⟨_,rfl⟩
      have hql:q<ln:=by rw[← hq];exact Nat.mod_lt _ hl0
      have eq:((i:Int)+1).tmod (ln:Int)=(q:Int):=by
       rw[Int.tmod_eq_emod_of_nonneg (by omega),← hq]
       show ((i+1:Nat):Int)%(ln:Int)=_
       first | exact (Int.natCast_emod _ _).symm | exact (Int.ofNat_emod _ _).symm
      have qq:(q:Int)<ln:=by omega
      have q0:(0:Int)≤(q:Int):=by omega
      obtain⟨k2,hk2⟩:∃ k2,list[q]?=some k2:=⟨_,List.getElem?_eq_getElem (by rw[← HLN.o];exact hql)⟩
      obtain⟨hr1,hr2⟩:=HRG.o k (List.mem_of_getElem? hk)
      obtain⟨hr3,hr4⟩:=HRG.o k2 (List.mem_of_getElem? hk2)
      obtain⟨a,ha⟩:=Int.eq_ofNat_of_zero_le hr1
      obtain⟨b,hb⟩:=Int.eq_ofNat_of_zero_le hr3
      subst ha
      subst hb
      have am:a<cs.length:=by rw[HM.o];omega
      have bm:b<cs.length:=by rw[HM.o];omega
      obtain⟨c,hc⟩:∃ c,cs[a]?=some c:=⟨_,List.getElem?_eq_getElem am⟩
      obtain⟨d,hd⟩:∃ d,cs[b]?=some d:=⟨_,List.getElem?_eq_getElem bm⟩
      obtain⟨gl,offl,hlo,hgl,l0⟩:=(L4.o.below hw.o).int i _ hk
      obtain⟨gl',offl',hlo',hgl',l1⟩:=(L4.o.below hw.o).int q _ hk2
      obtain⟨gc,offc,hro,hgc,c0⟩:=(C4.o.below hw.o).at Zc9 a c hc
      obtain⟨gd,offd,hro',hgd,d0⟩:=(C4.o.below hw.o).at Zc9 b d hd
      rw[hlo] at hlo'
      cases hlo'
      rw[hro] at hro'
      cases hro'
      have hsn:=Z0f (cs:=cs) hk
      have hcg:cs.getD (Int.toNat (a:Int)) default=c:=by rw[Int.toNat_natCast,List.getD_eq_getElem?_getD,hc];rfl
      rw[hcg,← hs.o] at hsn
      have HCH:Hid (Z62 cs list i=(c.r==d.l)):=ħ (by
       have ga:list.getD i 0=(a:Int):=by rw[List.getD_eq_getElem?_getD,hk];rfl
       have gb:list.getD q 0=(b:Int):=by rw[List.getD_eq_getElem?_getD,hk2];rfl
       have hdg:cs.getD (Int.toNat (b:Int)) default=d:=by rw[Int.toNat_natCast,List.getD_eq_getElem?_getD,hd];rfl
       unfold Z62
       rw[← HLN.o,hq,ga,gb,hcg,hdg])
      have HSN:Hid (s+c.c=Z5w cs list (i+1)):=ħ hsn.symm
      have hcb:=HB.o.1 c (List.mem_of_getElem? hc)
      have c1:=c0 1 _ rfl
      have c2:=c0 2 _ rfl
      have d1:=d0 0 _ rfl
      rw[Nat.add_zero] at d1
      have x0:=(X4.o.step hw.o).cell 0 _ rfl
      rw[hro] at x0
      have e5:IntKind.i64.wrap (s+c.c)=s+c.c:=IntWalk.i64_in _ (by omega)
      clear hk hk2 hq hc hd c0 d0 hsn hcg hs hgl hgl' hgc hgd am bm
      subst hlo
      generalize c.r=z1 at *
      generalize d.l=z2 at *
      generalize c.c=z3 at *
      go_upto_region 9 with (fail)
      have c1':=cell_regrown c1
      have d1':=cell_regrown d1
      have x0':=cell_regrown x0
      have l0':=cell_regrown l0
      have l1':=cell_regrown l1
      clear c1 c2 d1 x0 l0 l1
      refine wp_region_quiet_below (by kernel_rfl) (by kernel_rfl) ?_
      repeat (go_big_quiet_step (fail))
      refine wpQuiet_nil ?_
      intro _ hw'
      obtain⟨⟨dq,osq⟩,hw''⟩:=hw'
      subst hw''
      have BB:=ħ (hw.o.trans ((below_regrown wr dq osq).mono hw.o.size))
      clear c1' d1' x0' l0' l1' hw
      generalize grow (redrawn wr dq) osq=wy at *
      by_cases hz:z1=z2
      ·have nb:((z1:Int) != (z2:Int))=false:=by rw[hz];simp
       have HCT:Hid (∀ j,j<i+1→Z62 cs list j=true):=ħ (fun j hj=>by
        rcases Nat.lt_or_ge j i with h | h
        ·exact hch.o j h
        ·obtain rfl:j=i:=by omega
         rw[HCH.o,hz];simp)
       clear hz
       go_wp2
       go_roundw
       case rel=>exact⟨i+1,s+z3,by go_num,rfl,by omega,HSN,by omega,by omega,HCT,BB⟩
       case measure=>simp only[intOf];omega
      ·have nb:((z1:Int) != (z2:Int))=true:=by rw[bne_iff_ne];omega
       have HF:Hid (V=false):=ħ (by
        rw[← HC.o]
        refine Zrq (i:=i) (by rw[← HLN.o];exact hil) ?_
        rw[HCH.o,beq_eq_false_iff_ne]
        exact hz)
       have B9:=ħ (B4.o.trans (BB.o.mono B4.o.size))
       clear hz
       go_wp2
       go_ret
       exact⟨Zag HF.o.symm,B9.o⟩
     ·have ii:¬ ((i:Int)<ln):=by omega
      have HE:Hid (V=decide (s<0)):=ħ (by
       rw[← HC.o,Z0h HNE.o (by rw[HM.o];exact HAV.o) (fun j hj=>hch.o j (by rw[← HLN.o] at hj;omega)),hs.o,show i=list.length by rw[← HLN.o];omega])
      have B9:=ħ (B4.o.trans (hw.o.mono B4.o.size))
      go_wp2
      go_ret
      exact⟨Zag HE.o.symm,B9.o⟩
end
end Go.Proofs.YtmkdfbelbcocpaaGreatDoor
