import Derived.Test.YtmkdfbelbcocpaaGreatDoorCD33
import Derived.Test.YtmkdfbelbcocpaaGreatDoorCD29
import Derived.Test.YtmkdfbelbcocpaaGreatDoorCD30
import Derived.Test.YtmkdfbelbcocpaaGreatDoorCD31
import Derived.Test.YtmkdfbelbcocpaaGreatDoorCD22
import Derived.BigQuiet
import Derived.Test.YtmkdfbelbcocpaaGreatDoorCD28
set_option linter.unusedVariables false
set_option linter.unusedSimpArgs false
set_option maxHeartbeats 16000000
set_option maxRecDepth 100000
namespace Go.Proofs.YtmkdfbelbcocpaaGreatDoor
section
set_option maxRecDepth 100000
def dS1:List Nat:=[120,46,97,32,62,61,32,120,46,98,32,43,32,51,32,97,110,100,32,120,46,98,32,33,61,32,48]
def dL1:List Nat:=[113,117,101,115,116,105,111,110,32,97,32,123,32]++dS1++[32,125]
theorem sD1:Zad dS1=⟨#[120,46,97,32,62,61,32,120,46,98,32,43,32,51,32,97,110,100,32,120,46,98,32,33,61,32,48]⟩:=by kernel_rfl
def dS2:List Nat:=[120,46,97,32,60,32,120,46,98]
def dL2:List Nat:=[113,117,101,115,116,105,111,110,32,97,32,123,32]++dS2++[32,125]
theorem sD2:Zad dS2=⟨#[120,46,97,32,60,32,120,46,98]⟩:=by kernel_rfl
def dS3:List Nat:=[120,46,97,32,60,61,32,120,46,98,32,45,32,50]
def dL3:List Nat:=[113,117,101,115,116,105,111,110,32,97,32,123,32]++dS3++[32,125]
theorem sD3:Zad dS3=⟨#[120,46,97,32,60,61,32,120,46,98,32,45,32,50]⟩:=by kernel_rfl
def dS4:List Nat:=[120,46,97,32,62,61,32,49,56,32,97,110,100,32,120,46,97,32,60,61,32,54,52]
def dL4:List Nat:=[113,117,101,115,116,105,111,110,32,97,32,123,32]++dS4++[32,125]
theorem sD4:Zad dS4=⟨#[120,46,97,32,62,61,32,49,56,32,97,110,100,32,120,46,97,32,60,61,32,54,52]⟩:=by kernel_rfl
def dS5:List Nat:=[120,46,97,32,62,61,32,49,56]
def dL5:List Nat:=[113,117,101,115,116,105,111,110,32,97,32,123,32]++dS5++[32,125]
theorem sD5:Zad dS5=⟨#[120,46,97,32,62,61,32,49,56]⟩:=by kernel_rfl
def two:List (List Nat):=[nmA,nmB']
def dq1:Prd:=.mk 1 [] [] 0 [.mk 0 nmB' nmA (-3) [],.mk 2 [] [] 0 [.mk 0 nmB' [] (-1) [],.mk 0 [] nmB' (-1) []]]
def dq2:Prd:=.mk 0 nmA nmB' (-1) []
def dq3:Prd:=.mk 0 nmA nmB' (-2) []
def dq4:Prd:=.mk 1 [] [] 0 [.mk 0 [] nmA (-18) [],.mk 0 nmA [] 64 []]
def dq5:Prd:=.mk 0 [] nmA (-18) []
def Z4a:Prd:=.mk 0 nmB' nmA (-3) []
def Z4b:Prd:=.mk 0 nmA nmB' 2 []
theorem Z9i:(Zce dL1).2.1=dq1:=by kernel_rfl
theorem Z9j:(Zce dL2).2.1=dq2:=by kernel_rfl
theorem Z9k:(Zce dL3).2.1=dq3:=by kernel_rfl
theorem Z9l:(Zce dL4).2.1=dq4:=by kernel_rfl
theorem Z9m:(Zce dL5).2.1=dq5:=by kernel_rfl
theorem de1:Zb1 two 9 [dq1]=0:=by kernel_rfl
theorem de2:Zb1 two 3 [dq1]=0:=by kernel_rfl
theorem de3:Zb1 two 9 [dq2]=0:=by kernel_rfl
theorem dn4:Zdv [dq2,dq3]=two:=by kernel_rfl
theorem de4:Zb1 two 9 [dq2,dq3]=0:=by kernel_rfl
theorem dn5:Zdv [dq4,dq5]=[nmA]:=by kernel_rfl
theorem de5:Zb1 [nmA] 100 [dq4,dq5]=0:=by kernel_rfl
theorem Z9n:Zi4 two 9 [Z4a,Z4b]=some [0,1]:=by kernel_rfl
theorem Z9o:Zpl two 9 [Z4a,Z4b] [0,1]=true:=by kernel_rfl
theorem Z9p:cntP' two 9 dq2=45:=by kernel_rfl
theorem Z8d {ns:List (List Nat)} {most:Int} {ps:List Prd} (h:Zb1 ns most ps=0):Zio ns (Zak ps):=fun k hk=>((Zec h).2.1 k hk).2.1
theorem Zlj {ns:List (List Nat)} {most:Int} {ps:List Prd} (h:Zb1 ns most ps=0) (U l:List (List Int×List Bool)) (hU:Zc6 ns most (Zak ps) ps (2^(Zak ps).length)=U) (hp:l.isPerm U=true) (hs:decide (l.Pairwise (fun a b=>leV a b=true))=true):Zbc ns most (Zak ps) ps=l :=
 (Zj8 (Z8d h) (by rw[hU];exact List.isPerm_iff.1 hp) (of_decide_eq_true hs)).symm
theorem dc1:Zbc two 9 (Zak [dq1]) [dq1]=[([0,0,0],[false]),([0,0,1],[false]),([0,3,0],[false]),([0,4,1],[true])] :=
 Zlj de1 [([0,3,0],[false]),([0,4,1],[true]),([0,0,0],[false]),([0,0,1],[false])] _ (by kernel_rfl) (by kernel_rfl) (by kernel_rfl)
theorem dc2:Zbc two 3 (Zak [dq1]) [dq1]=[([0,0,0],[false]),([0,0,1],[false]),([0,3,0],[false])] :=
 Zlj de2 [([0,3,0],[false]),([0,0,0],[false]),([0,0,1],[false])] _ (by kernel_rfl) (by kernel_rfl) (by kernel_rfl)
theorem dc4:Zbc two 9 (Zak [dq2,dq3]) [dq2,dq3]=[([0,0,0],[false,false]),([0,0,1],[true,false]),([0,0,2],[true,true])] :=
 Zlj de4 [([0,0,0],[false,false]),([0,0,1],[true,false]),([0,0,2],[true,true])] _ (by kernel_rfl) (by kernel_rfl) (by kernel_rfl)
theorem dc5:Zbc [nmA] 100 (Zak [dq4,dq5]) [dq4,dq5]=[([0,0],[false,false]),([0,18],[true,true]),([0,65],[false,true])] :=
 Zlj de5 [([0,0],[false,false]),([0,18],[true,true]),([0,65],[false,true])] _ (by kernel_rfl) (by kernel_rfl) (by kernel_rfl)
theorem df1:Zf9 two 9 (Zak [dq1]) [dq1] (fun l=>l.getD 0 false)=some [0,4,1]:=by unfold Zf9;rw[dc1];rfl
theorem df2:Zf9 two 3 (Zak [dq1]) [dq1] (fun l=>l.getD 0 false)=none:=by unfold Zf9;rw[dc2];rfl
theorem df4:Zf9 two 9 (Zak [dq2,dq3]) [dq2,dq3] (fun l=>l.getD 0 false&&!l.getD 1 false)=some [0,0,1]:=by unfold Zf9;rw[dc4];rfl
theorem df5:Z8b (Zbc [nmA] 100 (Zak [dq4,dq5]) [dq4,dq5])=some ([0,18],[0,65]):=by rw[dc5];kernel_rfl
theorem Ztg:Zjh two:=(Zlg two).1 (by kernel_rfl)
theorem Zrs:∀ s∈two,NmB s:=by
 intro s hs
 simp only[two,List.mem_cons,List.not_mem_nil,or_false] at hs
 rcases hs with rfl | rfl
 ·exact Zka (by kernel_rfl)
 ·exact Zka (by kernel_rfl)
end
section
open Go.RowKit Go.Sort Go.Maps
theorem Zrj.hit {w w':World} {ns:List (List Nat)} {c:Int} {r:Option (List Int)} {b:Bool} {u:List Int} {e:Ending} (h:Zrj w ns c r b e w') (hc:c=0) (hr:r=some u):∃ ro rc,e = .returned (.tuple #[.slice ro ns.length rc,.bool b,.int .i64 0])∧Za7 Zfj w' ro (Ze8 ns u)∧Below w.heap.size w w':=by
 obtain⟨h1,h2⟩:=h
 rw[if_pos hc,hr] at h1
 obtain⟨v,h3,ro,rc,rfl,h4⟩:=h1
 exact⟨ro,rc,h3,h4.flatR Zhb (by unfold Ze8 Zc1;simp),h2⟩
theorem Zrj.miss {w w':World} {ns:List (List Nat)} {c:Int} {r:Option (List Int)} {b:Bool} {e:Ending} (h:Zrj w ns c r b e w') (hc:c=0) (hr:r=none):e = .returned (.tuple #[.slice none 0 0,.bool b,.int .i64 0])∧Below w.heap.size w w':=by
 obtain⟨h1,h2⟩:=h
 rw[if_pos hc,hr] at h1
 obtain⟨v,h3,h4⟩:=h1
 have h5:v = .slice none 0 0:=h4
 subst h5
 exact⟨h3,h2⟩
theorem Zte.hit {w w':World} {ns:List (List Nat)} {c:Int} {r:Option (List Int×List Int)} {u v:List Int} {e:Ending} (h:Zte w ns c r e w') (hc:c=0) (hr:r=some (u,v)):∃ ro rc so sc,e = .returned (.tuple #[.slice ro ns.length rc,.slice so ns.length sc,.bool true,.int .i64 0])∧Za7 Zfj w' ro (Ze8 ns u)∧Za7 Zfj w' so (Ze8 ns v)∧Below w.heap.size w w':=by
 obtain⟨h1,h2⟩:=h
 rw[if_pos hc,hr] at h1
 obtain⟨x,y,h3,⟨ro,rc,rfl,h4⟩,⟨so,sc,rfl,h5⟩⟩:=h1
 exact⟨ro,rc,so,sc,h3,h4.flatR Zhb (by unfold Ze8 Zc1;simp),h5.flatR Zhb (by unfold Ze8 Zc1;simp),h2⟩
theorem Znk.hit {w w':World} {r:Option (List Int)} {l:List Int} {e:Ending} (h:Znk w r e w') (hr:r=some l):∃ ro rc,e = .returned (.tuple #[.slice ro l.length rc,.bool true])∧Za7 Zcc w' ro l∧Below w.heap.size w w':=by
 obtain⟨h1,h2⟩:=h
 rw[hr] at h1
 obtain⟨ro,rc,h3,h4⟩:=h1
 exact⟨ro,rc,h3,h4.flatR Zbs rfl,h2⟩
theorem Z17.val {w w':World} {c:Int} {k:Nat} {e:Ending} (h:Z17 w c k e w') (hc:c=0):e = .returned (.tuple #[.int .i64 (k:Int),.int .i64 0])∧Below w.heap.size w w':=by
 obtain⟨h1,h2⟩:=h
 rw[hc,if_pos rfl] at h1
 exact⟨h1,h2⟩
theorem Zoj (w:World) (P:Nat→Prop) (l r:List Nat) (c:Int):Zai w P (.mk 0 l r c []) [.int .i64 0,.string (Zad l),.string (Zad r),.int .i64 c,.slice none 0 0]:=by
 unfold Zai
 exact⟨none,0,rfl,.inl rfl⟩
theorem Zmp {S:Prd→Prop} {p q:Prd} (h:S p) (h':S q):∀ x∈[p,q],S x:=fun x hx=>by
 rcases List.mem_cons.1 hx with rfl | hx
 ·exact h
 ·rw[List.mem_singleton.1 hx];exact h'
theorem bA (v:Int):∀ b∈[(⟨nmA,v⟩:Bnd)],NmB b.n:=fun b hb=>by rw[List.mem_singleton.1 hb];exact Zka (by kernel_rfl)
theorem bAB (u v:Int):∀ b∈[(⟨nmA,u⟩:Bnd),⟨nmB',v⟩],NmB b.n:=fun b hb=>by
 rcases List.mem_cons.1 hb with rfl | hb
 ·exact Zka (by kernel_rfl)
 ·rw[List.mem_singleton.1 hb];exact Zka (by kernel_rfl)
theorem Zga (l:List Nat) (w:World) (B:Nat) (hG:Tab w B) (hl:l.length≤900000) (hb:∀ y∈l,y<256) (L:List Nat) (hL:L=[113,117,101,115,116,105,111,110,32,97,32,123,32]++l++[32,125]) :
  Calls Tryz.prog 69 #[.string (Zad l)] w fun e w'=>∃ v,e = .returned v∧Zpt w.heap.size w' (Zce L).2.1 v∧Below w.heap.size w w':=by
 have HLL:Hid (L.length≤1000000∧∀ y∈L,y<256):=ħ (by
  rw[hL]
  refine⟨by simp;omega,fun y hy=>?_⟩
  simp only[List.mem_append] at hy
  rcases hy with (hy | hy) | hy
  ·simp at hy;omega
  ·exact hb y hy
  ·simp at hy;omega)
 have HAP:Hid (((⟨#[113,117,101,115,116,105,111,110,32,97,32,123,32]⟩:ByteArray)++Zad l)++(⟨#[32,125]⟩:ByteArray)=Zad L):=ħ (by
  rw[hL,← Ze3,← Ze3];rfl)
 have bx:=(Below.refl w.heap.size w).alloc (Nat.le_refl _) (.cells #[.int .i64 0,.string ⟨#[]⟩,.string ⟨#[]⟩,.int .i64 0,.slice none 0 0] 25)
 have B1:=ħ bx
 have X1:Hid (Zah (w.alloc (.cells #[.int .i64 0,.string ⟨#[]⟩,.string ⟨#[]⟩,.int .i64 0,.slice none 0 0] 25)) w.heap.size 25 [.int .i64 0,.string ⟨#[]⟩,.string ⟨#[]⟩,.int .i64 0,.slice none 0 0]):=ħ (heap_alloc_new w _)
 have HP:=ħ (fun W (hW:Below w.heap.size w W)=>Zx5 L W B (Zc0.step (w:=w) hG hW) HLL.o.1 HLL.o.2)
 unfold Znz at HP
 have hap:=HAP.o
 have hz1:¬ 9223372036854775807<13+(Zad l).size:=by rw[Zaq];omega
 have hz2:¬ 9223372036854775807<13+(Zad l).size+2:=by rw[Zaq];omega
 clear bx hG hl hb hL HLL HAP
 generalize Zad L=yL at *
 generalize Zad l=y at *
 generalize Zad (Zce L).1=yn at *
 generalize (Zce L).2.1=p at *
 generalize (Zce L).2.2.1=ia at *
 generalize (Zce L).2.2.2=ie at *
 go_enter Tryz.func69,Tryz.ntmps69
 go_upto_region 1 with (fail)
 generalize w.alloc (.cells #[.int .i64 0,.string ⟨#[]⟩,.string ⟨#[]⟩,.int .i64 0,.slice none 0 0] 25)=w1 at *
 go_wp2_with fail
 refine (HP.o w1 B1.o).mono ?_
 rintro e w2 ⟨v,rfl,hv,b2⟩
 obtain⟨ka,kn,kc,rfl,hc⟩:=hv.open
 have HC:=ħ hc
 have B2:=ħ (B1.o.trans (b2.mono B1.o.size))
 have X2:=ħ (X1.o.step b2)
 have HL1:Hid (w.heap.size≤w1.heap.size):=ħ B1.o.size
 have HLT:Hid (w.heap.size<w1.heap.size):=ħ X1.o.lt
 clear hv HP hc b2 X1 hap hz1 hz2
 have HPV:Hid (p.k=p.k):=ħ rfl
 obtain⟨q0,hq0⟩:∃ q0,p.k=q0:=⟨_,rfl⟩
 obtain⟨q1,hq1⟩:∃ q1,Zad p.l=q1:=⟨_,rfl⟩
 obtain⟨q2,hq2⟩:∃ q2,Zad p.r=q2:=⟨_,rfl⟩
 obtain⟨q3,hq3⟩:∃ q3,p.c=q3:=⟨_,rfl⟩
 rw[hq0,hq1,hq2,hq3] at HC ⊢
 clear hq0 hq1 hq2 hq3 HPV
 have bx:=(Below.refl w2.heap.size w2).alloc (Nat.le_refl _) (.cells #[.int .i64 q0,.string q1,.string q2,.int .i64 q3,.slice ka kn kc] 25)
 have B3:=ħ (B2.o.trans (bx.mono B2.o.size))
 have C3:=ħ ((HC.o.below bx).mono (P':=fun g=>w1.heap.size≤g) (fun g h _=>h.1))
 have X3:Hid (Zah (w2.alloc (.cells #[.int .i64 q0,.string q1,.string q2,.int .i64 q3,.slice ka kn kc] 25)) w2.heap.size 25 [.int .i64 q0,.string q1,.string q2,.int .i64 q3,.slice ka kn kc]):=ħ (heap_alloc_new w2 _)
 have Z3:=ħ (X2.o.step bx)
 clear bx HC X2
 go_upto_region 2 with (fail)
 generalize w2.alloc (.cells #[.int .i64 q0,.string q1,.string q2,.int .i64 q3,.slice ka kn kc] 25)=w3 at *
 go_wp2_with (first | (refine Zcg (by rfl) 25 (.tmp 4) rfl w2.heap.size (by rfl) 25 #[.int .i64 q0,.string q1,.string q2,.int .i64 q3,.slice ka kn kc] (0,0) _ X3.o Tryz.underlying25 rfl (Zae _ rfl) ?_) | (refine Zab rfl 25 (.tmp 2) (.tmp 16) rfl w.heap.size #[.int .i64 q0,.string q1,.string q2,.int .i64 q3,.slice ka kn kc] (by rfl) (by rfl) 25 _ Z3.o (Zae _ rfl) rfl (by simp[Value.oneCell']) ?_;intro w9 s9 u9;have S9:=ħ s9;have U9:=ħ u9;clear s9 u9))
 refine bodyPost_ret (results_cell_row (p:=2) (by kernel_rfl) _ _ w.heap.size 25 #[.int .i64 q0,.string q1,.string q2,.int .i64 q3,.slice ka kn kc] (0,0) _ rfl S9.o Tryz.underlying25 rfl (Zae _ rfl)) rfl ⟨_,rfl,⟨_,rfl,?_⟩,U9.o.below B3.o (Nat.le_refl _)⟩
 exact (C3.o.upd U9.o (by have:=HLT.o;omega)).mono (fun g hg _=>Nat.le_trans HL1.o hg)
theorem Z8e (w:World) (B:Nat) (hG:Tab w B):Calls Tryz.prog 44 #[] w fun e w'=>e = .returned (.bool true)∧Below w.heap.size w w':=by
 have HQ1:=ħ (fun W (hW:Below w.heap.size w W)=>Zga dS1 W B (Zc0.step (w:=w) hG hW) (of_decide_eq_true (by kernel_rfl)) (Zme (by kernel_rfl)) dL1 rfl)
 rw[sD1,Z9i] at HQ1
 have HQ2:=ħ (fun W (hW:Below w.heap.size w W)=>Zga dS2 W B (Zc0.step (w:=w) hG hW) (of_decide_eq_true (by kernel_rfl)) (Zme (by kernel_rfl)) dL2 rfl)
 rw[sD2,Z9j] at HQ2
 have HQ3:=ħ (fun W (hW:Below w.heap.size w W)=>Zga dS3 W B (Zc0.step (w:=w) hG hW) (of_decide_eq_true (by kernel_rfl)) (Zme (by kernel_rfl)) dL3 rfl)
 rw[sD3,Z9k] at HQ3
 have HQ4:=ħ (fun W (hW:Below w.heap.size w W)=>Zga dS4 W B (Zc0.step (w:=w) hG hW) (of_decide_eq_true (by kernel_rfl)) (Zme (by kernel_rfl)) dL4 rfl)
 rw[sD4,Z9l] at HQ4
 have HQ5:=ħ (fun W (hW:Below w.heap.size w W)=>Zga dS5 W B (Zc0.step (w:=w) hG hW) (of_decide_eq_true (by kernel_rfl)) (Zme (by kernel_rfl)) dL5 rfl)
 rw[sD5,Z9m] at HQ5
 have HS1:=ħ (fun W vs ao cp (hW:Below w.heap.size w W) (hp:Zai W (fun _=>True) dq1 vs) (hs:Zcr W ao two)=>(Zz0 W (fun _=>True) dq1 vs ao 2 cp 9 two B (Zc0.step (w:=w) hG hW) hp (Zeg dq1 (by kernel_rfl)) (of_decide_eq_true (by kernel_rfl):Za8 dq1≤1000000) rfl hs Zrs Ztg (by omega)).mono (fun e w' h=>h.hit de1 df1))
 have HS2:=ħ (fun W vs ao cp (hW:Below w.heap.size w W) (hp:Zai W (fun _=>True) dq1 vs) (hs:Zcr W ao two)=>(Zz0 W (fun _=>True) dq1 vs ao 2 cp 3 two B (Zc0.step (w:=w) hG hW) hp (Zeg dq1 (by kernel_rfl)) (of_decide_eq_true (by kernel_rfl):Za8 dq1≤1000000) rfl hs Zrs Ztg (by omega)).mono (fun e w' h=>h.miss de2 df2))
 rw[df1] at HS1
 rw[df2] at HS2
 have HCY:=ħ (fun W po pc ao cp (hW:Below w.heap.size w W) (hp:Zbj W (fun _=>True) [Z4a,Z4b] po) (hs:Zcr W ao two)=>(Zrp W (fun _=>True) [Z4a,Z4b] po 2 pc ao 2 cp 9 two B (Zc0.step (w:=w) hG hW) hp rfl (Zmp (Zeg Z4a (by kernel_rfl)) (Zeg Z4b (by kernel_rfl))) (by omega) rfl hs Zrs (by omega)).mono (fun e w' h=>h.hit Z9n))
 have HCT:=ħ (fun W vs ao cp (hW:Below w.heap.size w W) (hp:Zai W (fun _=>True) dq2 vs) (hs:Zcr W ao two)=>(Z61 W (fun _=>True) dq2 vs ao 2 cp 9 two B (Zc0.step (w:=w) hG hW) hp (Zeg dq2 (by kernel_rfl)) (of_decide_eq_true (by kernel_rfl):Za8 dq2≤1000000) rfl hs Zrs Ztg (by omega) (by omega) (by omega)).mono (fun e w' h=>h.val de3))
 rw[Z9p] at HCT
 have HIM:=ħ (fun W vs us (hW:Below w.heap.size w W) (hp:Zai W (fun _=>True) dq2 vs) (hq:Zai W (fun _=>True) dq3 us)=>(Ztf W (fun _=>True) dq2 dq3 vs us 9 B (Zc0.step (w:=w) hG hW) hp hq ⟨by kernel_rfl,by kernel_rfl⟩ ⟨(Zeg dq2 (by kernel_rfl)),(Zeg dq3 (by kernel_rfl))⟩ ⟨(of_decide_eq_true (by kernel_rfl):Za8 dq2≤1000000),(of_decide_eq_true (by kernel_rfl):Za8 dq3≤1000000)⟩).mono (fun e w' h=>by rw[dn4] at h;exact h.hit de4 df4))
 rw[df4] at HIM
 have HDI:=ħ (fun W vs lo lc (hW:Below w.heap.size w W) (hp:Zai W (fun _=>True) dq4 vs) (hq:Zbj W (fun _=>True) [dq5] lo)=>(Zvj W (fun _=>True) dq4 vs [dq5] lo 1 lc 100 B (Zc0.step (w:=w) hG hW) hp hq rfl (by omega) (Zmp (by kernel_rfl) (by kernel_rfl)) (Zmp (Zeg dq4 (by kernel_rfl)) (Zeg dq5 (by kernel_rfl))) (Zmp (of_decide_eq_true (by kernel_rfl):Za8 dq4≤1000000) (of_decide_eq_true (by kernel_rfl):Za8 dq5≤1000000))).mono (fun e w' h=>by rw[dn5] at h;exact h.hit de5 df5))
 have HCN:=ħ (fun W po pc ao cp lo lc (hW:Below w.heap.size w W) (hp:Zbj W (fun _=>True) [Z4a,Z4b] po) (hs:Zcr W ao two) (hl:Za7 Zcc W lo [0,1])=>Z0i W (fun _=>True) [Z4a,Z4b] po 2 pc ao 2 cp 9 two B [0,1] lo 2 lc (Zc0.step (w:=w) hG hW) hp rfl (Zmp (Zeg Z4a (by kernel_rfl)) (Zeg Z4b (by kernel_rfl))) (by omega) rfl hs Zrs (by omega) hl rfl (by omega))
 rw[Z9o] at HCN
 have bx:=(Below.refl w.heap.size w).alloc (Nat.le_refl _) (.cells #[.string ⟨#[120,46,97]⟩,.string ⟨#[120,46,98]⟩] 9)
 have X1:Zah (w.alloc (.cells #[.string ⟨#[120,46,97]⟩,.string ⟨#[120,46,98]⟩] 9)) w.heap.size 9 [.string ⟨#[120,46,97]⟩,.string ⟨#[120,46,98]⟩]:=heap_alloc_new w _
 have B1:=ħ bx
 have S1:Hid (Zcr (w.alloc (.cells #[.string ⟨#[120,46,97]⟩,.string ⟨#[120,46,98]⟩] 9)) (some ⟨w.heap.size,0,none⟩) two):=ħ (.inr ⟨_,0,rfl,X1.lt,X1.readsR⟩)
 clear bx X1 hG
 go_enter Tryz.func44,Tryz.ntmps44
 go_upto_region 2 with (fail)
 generalize w.alloc (.cells #[.string ⟨#[120,46,97]⟩,.string ⟨#[120,46,98]⟩] 9)=w1 at *
 go_wp2_with fail
 refine ((HQ1.o w1 B1.o)).mono ?_
 rintro e w2 ⟨v,rfl,hv,b2⟩
 obtain⟨x1,n1,c1,rfl,hc⟩:=hv.open
 have PC1:=ħ hc.wide
 have B2:=ħ (B1.o.trans (b2.mono B1.o.size))
 have S2:=ħ (S1.o.below b2)
 clear hv hc b2 S1 HQ1
 generalize dq1.k=a1 at *
 generalize Zad dq1.l=s1 at *
 generalize Zad dq1.r=t1 at *
 generalize dq1.c=d1 at *
 have bx:=(Below.refl w2.heap.size w2).alloc (Nat.le_refl _) (.cells #[.int .i64 a1,.string s1,.string t1,.int .i64 d1,.slice x1 n1 c1] 25)
 have X3:Hid (Zah (w2.alloc (.cells #[.int .i64 a1,.string s1,.string t1,.int .i64 d1,.slice x1 n1 c1] 25)) w2.heap.size 25 [.int .i64 a1,.string s1,.string t1,.int .i64 d1,.slice x1 n1 c1]):=ħ (heap_alloc_new w2 _)
 have B3:=ħ (B2.o.trans (bx.mono B2.o.size))
 have S3:=ħ (S2.o.below bx)
 have PC1:=ħ (PC1.o.below bx)
 clear bx
 go_upto_region 3 with (fail)
 generalize w2.alloc (.cells #[.int .i64 a1,.string s1,.string t1,.int .i64 d1,.slice x1 n1 c1] 25)=w3 at *
 generalize hK:w2.heap.size=K at *
 clear hK
 go_wp2_with (refine wpList_load_row rfl 25 (.tmp 2) rfl K ?x1 25 #[.int .i64 a1,.string s1,.string t1,.int .i64 d1,.slice x1 n1 c1] (0,0) _ X3.o Tryz.underlying25 rfl (Zae _ rfl) ?_;(case x1=>rfl))
 refine (HS1.o w3 _ _ _ B3.o PC1.o S3.o).mono ?_
 rintro e w4 ⟨ro1,rc1,rfl,hf1,b4⟩
 have B4:=ħ (B3.o.trans (b4.mono B3.o.size))
 have S4:=ħ (S3.o.below b4)
 have X4:=ħ (X3.o.step b4)
 have PC14:=ħ (PC1.o.below b4)
 have F4:=ħ hf1
 clear hf1 b4 HS1 S3 X3 PC1
 go_upto_region 4 with (fail)
 go_wp2_with (refine wpList_load_row rfl 25 (.tmp 2) rfl K ?x1 25 #[.int .i64 a1,.string s1,.string t1,.int .i64 d1,.slice x1 n1 c1] (0,0) _ X4.o Tryz.underlying25 rfl (Zae _ rfl) ?_;(case x1=>rfl))
 refine (HS2.o w4 _ _ _ B4.o PC14.o S4.o).mono ?_
 rintro e w5 ⟨rfl,b5⟩
 have B5:=ħ (B4.o.trans (b5.mono B4.o.size))
 have S5:=ħ (S4.o.below b5)
 have F5:=ħ (F4.o.below b5)
 clear b5 HS2 S4 X4 PC14 F4
 go_upto_region 5 with (fail)
 go_wp2_with fail
 refine (Zq3 _ _ _ w5).mono ?_
 rintro e w6 ⟨rfl,b6⟩
 have B6:=ħ (B5.o.trans (b6.mono B5.o.size))
 have S6:=ħ (S5.o.below b6)
 have F6:=ħ (F5.o.below b6)
 clear b6 S5 F5
 go_wp2_with fail
 refine (Zq3 _ _ _ w6).mono ?_
 rintro e w7 ⟨rfl,b7⟩
 have B7:=ħ (B6.o.trans (b7.mono B6.o.size))
 have bx:=(Below.refl w7.heap.size w7).alloc (Nat.le_refl _) (.cells #[.int .i64 0,.string ⟨#[120,46,98]⟩,.string ⟨#[120,46,97]⟩,.int .i64 (-3),.slice none 0 0,.int .i64 0,.string ⟨#[120,46,97]⟩,.string ⟨#[120,46,98]⟩,.int .i64 2,.slice none 0 0] 25)
 have S8:=ħ ((S6.o.below b7).below bx)
 have F8:=ħ ((F6.o.below b7).below bx)
 have B8:=ħ (B7.o.trans (bx.mono B7.o.size))
 have O8:Hid (Zbj (w7.alloc (.cells #[.int .i64 0,.string ⟨#[120,46,98]⟩,.string ⟨#[120,46,97]⟩,.int .i64 (-3),.slice none 0 0,.int .i64 0,.string ⟨#[120,46,97]⟩,.string ⟨#[120,46,98]⟩,.int .i64 2,.slice none 0 0] 25)) (fun _=>True) [Z4a,Z4b] (some ⟨w7.heap.size,0,none⟩)):=ħ (Zvf (vs:=[.int .i64 0,.string (Zad nmB'),.string (Zad nmA),.int .i64 (-3),.slice none 0 0]) (us:=[.int .i64 0,.string (Zad nmA),.string (Zad nmB'),.int .i64 2,.slice none 0 0]) (t:=25) (Zoj _ _ _ _ _) (Zoj _ _ _ _ _) (heap_alloc_new w7 _))
 clear bx b7 S6 F6 B7
 go_upto_region 6 with (fail)
 generalize w7.alloc (.cells #[.int .i64 0,.string ⟨#[120,46,98]⟩,.string ⟨#[120,46,97]⟩,.int .i64 (-3),.slice none 0 0,.int .i64 0,.string ⟨#[120,46,97]⟩,.string ⟨#[120,46,98]⟩,.int .i64 2,.slice none 0 0] 25)=w8 at *
 generalize w7.heap.size=OD at *
 go_wp2_with fail
 refine (HCY.o w8 _ _ _ _ B8.o O8.o S8.o).mono ?_
 rintro e w9 ⟨cy,cz,rfl,hcy,b9⟩
 have B9:=ħ (B8.o.trans (b9.mono B8.o.size))
 have S9:=ħ (S8.o.below b9)
 have F9:=ħ (F8.o.below b9)
 have O9:=ħ (O8.o.below b9)
 have C9:=ħ hcy
 clear hcy b9 HCY S8 F8 O8
 go_upto_region 7 with (fail)
 go_wp2_with fail
 refine ((HQ2.o w9 B9.o)).mono ?_
 rintro e w10 ⟨v,rfl,hv,b10⟩
 obtain⟨x2,n2,c2,rfl,hc⟩:=hv.open
 have PC2:=ħ hc.wide
 have B10:=ħ (B9.o.trans (b10.mono B9.o.size))
 have S10:=ħ (S9.o.below b10)
 have F10:=ħ (F9.o.below b10)
 have O10:=ħ (O9.o.below b10)
 have C10:=ħ (C9.o.below b10)
 clear hv hc b10 S9 F9 O9 C9
 generalize dq2.k=a2 at *
 generalize Zad dq2.l=s2 at *
 generalize Zad dq2.r=t2 at *
 generalize dq2.c=d2 at *
 go_wp2_with fail
 refine (HCT.o w10 _ _ _ B10.o PC2.o S10.o).mono ?_
 rintro e w11 ⟨rfl,b11⟩
 have B11:=ħ (B10.o.trans (b11.mono B10.o.size))
 have S11:=ħ (S10.o.below b11)
 have F11:=ħ (F10.o.below b11)
 have O11:=ħ (O10.o.below b11)
 have C11:=ħ (C10.o.below b11)
 clear b11 HCT S10 F10 O10 C10 PC2
 go_upto_region 8 with (fail)
 go_wp2_with fail
 refine ((HQ2.o w11 B11.o)).mono ?_
 rintro e w12 ⟨v,rfl,hv,b12⟩
 obtain⟨x6,n6,c6,rfl,hc⟩:=hv.open
 have PC6:=ħ hc.wide
 have B12:=ħ (B11.o.trans (b12.mono B11.o.size))
 have S12:=ħ (S11.o.below b12)
 have F12:=ħ (F11.o.below b12)
 have O12:=ħ (O11.o.below b12)
 have C12:=ħ (C11.o.below b12)
 clear hv hc b12 S11 F11 O11 C11 HQ2
 generalize dq2.k=a6 at *
 generalize Zad dq2.l=s6 at *
 generalize Zad dq2.r=t6 at *
 generalize dq2.c=d6 at *
 go_wp2_with fail
 refine ((HQ3.o w12 B12.o)).mono ?_
 rintro e w13 ⟨v,rfl,hv,b13⟩
 obtain⟨x3,n3,c3,rfl,hc⟩:=hv.open
 have PC3:=ħ hc.wide
 have B13:=ħ (B12.o.trans (b13.mono B12.o.size))
 have S13:=ħ (S12.o.below b13)
 have F13:=ħ (F12.o.below b13)
 have O13:=ħ (O12.o.below b13)
 have C13:=ħ (C12.o.below b13)
 have PC6:=ħ (PC6.o.below b13)
 clear hv hc b13 S12 F12 O12 C12 HQ3
 generalize dq3.k=a3 at *
 generalize Zad dq3.l=s3 at *
 generalize Zad dq3.r=t3 at *
 generalize dq3.c=d3 at *
 go_wp2_with fail
 refine (HIM.o w13 _ _ B13.o PC6.o PC3.o).mono ?_
 rintro e w14 ⟨ro2,rc2,rfl,hf2,b14⟩
 have B14:=ħ (B13.o.trans (b14.mono B13.o.size))
 have S14:=ħ (S13.o.below b14)
 have F14:=ħ (F13.o.below b14)
 have O14:=ħ (O13.o.below b14)
 have C14:=ħ (C13.o.below b14)
 have D14:=ħ hf2
 clear hf2 b14 HIM S13 F13 O13 C13 PC6 PC3
 go_upto_region 9 with (fail)
 go_wp2_with fail
 refine ((HQ4.o w14 B14.o)).mono ?_
 rintro e w15 ⟨v,rfl,hv,b15⟩
 obtain⟨x4,n4,c4,rfl,hc⟩:=hv.open
 have PC4:=ħ hc.wide
 have B15:=ħ (B14.o.trans (b15.mono B14.o.size))
 have S15:=ħ (S14.o.below b15)
 have F15:=ħ (F14.o.below b15)
 have O15:=ħ (O14.o.below b15)
 have C15:=ħ (C14.o.below b15)
 have D15:=ħ (D14.o.below b15)
 clear hv hc b15 S14 F14 O14 C14 D14 HQ4
 generalize dq4.k=a4 at *
 generalize Zad dq4.l=s4 at *
 generalize Zad dq4.r=t4 at *
 generalize dq4.c=d4 at *
 go_wp2_with fail
 refine ((HQ5.o w15 B15.o)).mono ?_
 rintro e w16 ⟨v,rfl,hv,b16⟩
 obtain⟨x5,n5,c5,rfl,hc⟩:=hv.open
 have PC5:=ħ hc.wide
 have B16:=ħ (B15.o.trans (b16.mono B15.o.size))
 have PC4:=ħ (PC4.o.below b16)
 generalize hq5:dq5.k=a5 at *
 generalize hs5:Zad dq5.l=s5 at *
 generalize ht5:Zad dq5.r=t5 at *
 generalize hd5:dq5.c=d5 at *
 clear hq5 hs5 ht5 hd5
 have bx:=(Below.refl w16.heap.size w16).alloc (Nat.le_refl _) (.cells #[.int .i64 a5,.string s5,.string t5,.int .i64 d5,.slice x5 n5 c5] 25)
 have L17:Hid (Zbj (w16.alloc (.cells #[.int .i64 a5,.string s5,.string t5,.int .i64 d5,.slice x5 n5 c5] 25)) (fun _=>True) [dq5] (some ⟨w16.heap.size,0,none⟩)):=ħ (Zi1 (t:=25) (PC5.o.below bx) (heap_alloc_new w16 _))
 have S17:=ħ ((S15.o.below b16).below bx)
 have F17:=ħ ((F15.o.below b16).below bx)
 have O17:=ħ ((O15.o.below b16).below bx)
 have C17:=ħ ((C15.o.below b16).below bx)
 have D17:=ħ ((D15.o.below b16).below bx)
 have PC4:=ħ (PC4.o.below bx)
 have B17:=ħ (B16.o.trans (bx.mono B16.o.size))
 clear hv hc b16 bx S15 F15 O15 C15 D15 HQ5 PC5
 go_wp2_with fail
 generalize w16.alloc (.cells #[.int .i64 a5,.string s5,.string t5,.int .i64 d5,.slice x5 n5 c5] 25)=w17 at *
 generalize w16.heap.size=LB at *
 refine (HDI.o w17 _ _ _ B17.o PC4.o L17.o).mono ?_
 rintro e w18 ⟨uo,uc,vo,vc,rfl,hu,hv,b18⟩
 have B18:=ħ (B17.o.trans (b18.mono B17.o.size))
 have S18:=ħ (S17.o.below b18)
 have F18:=ħ (F17.o.below b18)
 have O18:=ħ (O17.o.below b18)
 have C18:=ħ (C17.o.below b18)
 have D18:=ħ (D17.o.below b18)
 have U18:=ħ hu
 have V18:=ħ hv
 clear hu hv b18 HDI S17 F17 O17 C17 D17 L17 PC4
 go_upto_region 12 with (fail)
 go_wp2_with fail
 refine (Zoi w18 4 1).mono ?_
 rintro e w19 ⟨lo1,rfl,hl1,b19⟩
 have B19:=ħ (B18.o.trans (b19.mono B18.o.size))
 have S19:=ħ (S18.o.below b19)
 have O19:=ħ (O18.o.below b19)
 have C19:=ħ (C18.o.below b19)
 have D19:=ħ (D18.o.below b19)
 have U19:=ħ (U18.o.below b19)
 have V19:=ħ (V18.o.below b19)
 have HB1:=ħ (Ze9 w19 ro1 lo1 2 2 rc1 2 (Ze8 two [0,4,1]) [⟨nmA,4⟩,⟨nmB',1⟩] rfl rfl (F18.o.below b19) hl1 (bAB 4 1) (bAB 4 1) (by omega) (by omega))
 rw[show decide (Ze8 two [0,4,1]=[⟨nmA,4⟩,⟨nmB',1⟩])=true from by kernel_rfl] at HB1
 clear hl1 b19 S18 F18 O18 C18 D18 U18 V18
 go_wp2_with fail
 refine HB1.o.mono ?_
 rintro e w20 ⟨rfl,b20⟩
 have B20:=ħ (B19.o.trans (b20.mono B19.o.size))
 have D20:=ħ (D19.o.below b20)
 have U20:=ħ (U19.o.below b20)
 have V20:=ħ (V19.o.below b20)
 have HC2:=ħ (HCN.o w20 _ 2 _ 2 cy cz B20.o (O19.o.below b20) (S19.o.below b20) (C19.o.below b20))
 clear b20 HB1 S19 O19 C19 D19 U19 V19 HCN
 go_wp2_with fail
 refine HC2.o.mono ?_
 rintro e w21 ⟨rfl,b21⟩
 have B21:=ħ (B20.o.trans (b21.mono B20.o.size))
 have D21:=ħ (D20.o.below b21)
 have U21:=ħ (U20.o.below b21)
 have V21:=ħ (V20.o.below b21)
 clear b21 HC2 D20 U20 V20
 go_wp2_with fail
 refine (Zoi w21 0 1).mono ?_
 rintro e w22 ⟨lo2,rfl,hl2,b22⟩
 have B22:=ħ (B21.o.trans (b22.mono B21.o.size))
 have U22:=ħ (U21.o.below b22)
 have V22:=ħ (V21.o.below b22)
 have HB2:=ħ (Ze9 w22 ro2 lo2 2 2 rc2 2 (Ze8 two [0,0,1]) [⟨nmA,0⟩,⟨nmB',1⟩] rfl rfl (D21.o.below b22) hl2 (bAB 0 1) (bAB 0 1) (by omega) (by omega))
 rw[show decide (Ze8 two [0,0,1]=[⟨nmA,0⟩,⟨nmB',1⟩])=true from by kernel_rfl] at HB2
 clear hl2 b22 D21 U21 V21
 go_wp2_with fail
 refine HB2.o.mono ?_
 rintro e w23 ⟨rfl,b23⟩
 have B23:=ħ (B22.o.trans (b23.mono B22.o.size))
 have bx:=(Below.refl w23.heap.size w23).alloc (Nat.le_refl _) (.cells #[.string ⟨#[120,46,97]⟩,.int .i64 18] 87)
 have X24:Zah (w23.alloc (.cells #[.string ⟨#[120,46,97]⟩,.int .i64 18] 87)) w23.heap.size 87 [.string ⟨#[120,46,97]⟩,.int .i64 18]:=heap_alloc_new w23 _
 have B24:=ħ (B23.o.trans (bx.mono B23.o.size))
 have V24:=ħ ((V22.o.below b23).below bx)
 have HB3:=ħ (Ze9 (w23.alloc (.cells #[.string ⟨#[120,46,97]⟩,.int .i64 18] 87)) uo (some ⟨w23.heap.size,0,none⟩) 1 1 uc 1 (Ze8 [nmA] [0,18]) [⟨nmA,18⟩] rfl rfl ((U22.o.below b23).below bx) (.inr ⟨_,0,rfl,X24.lt,X24.readsR⟩) (bA 18) (bA 18) (by omega) (by omega))
 rw[show decide (Ze8 [nmA] [0,18]=[⟨nmA,18⟩])=true from by kernel_rfl] at HB3
 clear b23 bx HB2 U22 V22 X24
 go_wp2_with fail
 refine HB3.o.mono ?_
 rintro e w25 ⟨rfl,b25⟩
 have B25:=ħ (B24.o.trans (b25.mono B24.o.size))
 have bx:=(Below.refl w25.heap.size w25).alloc (Nat.le_refl _) (.cells #[.string ⟨#[120,46,97]⟩,.int .i64 65] 87)
 have X26:Zah (w25.alloc (.cells #[.string ⟨#[120,46,97]⟩,.int .i64 65] 87)) w25.heap.size 87 [.string ⟨#[120,46,97]⟩,.int .i64 65]:=heap_alloc_new w25 _
 have B26:=ħ (B25.o.trans (bx.mono B25.o.size))
 have HB4:=ħ (Ze9 (w25.alloc (.cells #[.string ⟨#[120,46,97]⟩,.int .i64 65] 87)) vo (some ⟨w25.heap.size,0,none⟩) 1 1 vc 1 (Ze8 [nmA] [0,65]) [⟨nmA,65⟩] rfl rfl ((V24.o.below b25).below bx) (.inr ⟨_,0,rfl,X26.lt,X26.readsR⟩) (bA 65) (bA 65) (by omega) (by omega))
 rw[show decide (Ze8 [nmA] [0,65]=[⟨nmA,65⟩])=true from by kernel_rfl] at HB4
 clear b25 bx HB3 V24 X26
 go_wp2_with fail
 refine HB4.o.mono ?_
 rintro e w27 ⟨rfl,b27⟩
 have B27:=ħ (B26.o.trans (b27.mono B26.o.size))
 clear b27 HB4
 go_wp2
 go_ret
 exact⟨rfl,B27.o⟩
end
section
open Go.RowKit Go.Sort Go.Maps
theorem Z4c (ao:Option Addr) (cp:Nat) (t:ByteArray) (w:World):Calls Tryz.prog 49 #[.slice ao 0 cp,.string t] w fun e w'=>e = .returned (.bool false)∧w=w':=by
 go_enter Tryz.func49,Tryz.ntmps49
 go_wp2_with fail
 go_loop [5] (fun c=>∃ i:Nat,c = .int .i64 i) (fun c=>0)
 case atStart=>exact⟨0,rfl⟩
 case round =>
  obtain⟨i,rfl⟩:=hrel
  have ii:¬ ((i:Int)<0):=by omega
  go_wp2
  go_ret
  exact⟨rfl,rfl⟩
theorem rhas_any' (ao:Option Addr) (n cp:Nat) (L:List (List Nat)) (x:List Nat) (w:World) (hn:n=L.length) (hl:n≤1000000) (hr:Zcr w ao L) (hx:∀ y∈x,y<256) (hL:∀ s∈L,∀ y∈s,y<256) :
  Calls Tryz.prog 49 #[.slice ao n cp,.string (Zad x)] w fun e w'=>e = .returned (.bool (L.contains x))∧w=w':=by
 rcases hr with h0 | ⟨g,off,rfl,_,h⟩
 ·subst h0
  subst hn
  exact Z4c ao cp (Zad x) w
 ·exact Z2q g off cp n L x w hn hl h hx hL
end
end Go.Proofs.YtmkdfbelbcocpaaGreatDoor
