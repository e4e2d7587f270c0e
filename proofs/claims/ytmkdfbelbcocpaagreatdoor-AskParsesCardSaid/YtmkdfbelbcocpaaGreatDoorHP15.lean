import Derived.Test.YtmkdfbelbcocpaaGreatDoorHP13
set_option linter.unusedVariables false
set_option linter.unusedSimpArgs false
set_option maxHeartbeats 8000000
set_option maxRecDepth 100000
namespace Go.Proofs.YtmkdfbelbcocpaaGreatDoor
open Go.RowKit
def finL (ts:List Tok) (sz u n:Nat) (s:StP) (ps:List Prd):PR Prd:=(s.bind (takeP ts sz [41])).bind (fun j=>if 1≤n∧n≤ps.length then (.ok (.mk 3 [] [] (n:Int) ps,j):PR Prd) else .error (3,offP ts sz u))
def leastQ (ts:List Tok) (sz:Nat) (el:Nat→PR Prd) (u i:Nat):PR Prd :=
 (takeP ts sz [108,101,97,115,116] i).bind (fun j=>(numP ts sz j).bind (fun n=>(takeP ts sz [111,102] n.2).bind (fun j=>(takeP ts sz [40] j).bind (fun j =>
  (listP ts [44] el (ts.length+1) j []).bind (fun r=>(takeP ts sz [41] r.2).bind (fun j =>
   if 1≤n.1∧n.1≤r.1.length then .ok (.mk 3 [] [] (n.1:Int) r.1,j) else .error (3,offP ts sz u)))))))
theorem leastP_eq (ts:List Tok) (sz:Nat) (unit:Nat→PR Prd) (u i:Nat):leastP ts sz unit u i=leastQ ts sz (someP ts unit) u i:=rfl
theorem least_split (ts:List Tok) (sz:Nat) (el:Nat→PR Prd) (u:Nat) (st:StP) :
  st.bind (leastQ ts sz el u)=((((nxS ((st.bind (takeP ts sz [108,101,97,115,116])).bind (numP ts sz))).bind (takeP ts sz [111,102])).bind (takeP ts sz [40])).bind (fun i=>listP ts [44] el (ts.length+1) i [])).bind
   (fun r=>finL ts sz u (nmbV ((st.bind (takeP ts sz [108,101,97,115,116])).bind (numP ts sz))) (.ok r.2) r.1):=by
 cases st with
 | error z=>rfl
 | ok i =>
  simp only[ok_bind]
  unfold leastQ
  generalize takeP ts sz [108,101,97,115,116] i=t1
  cases t1 with
  | error z=>rfl
  | ok j =>
   simp only[ok_bind]
   generalize numP ts sz j=t2
   cases t2 with
   | error z=>rfl
   | ok n =>
    show ((takeP ts sz [111,102] n.2).bind _:PR Prd)=((((takeP ts sz [111,102] n.2).bind (takeP ts sz [40])).bind _).bind _:PR Prd)
    generalize takeP ts sz [111,102] n.2=t3
    cases t3 with
    | error z=>rfl
    | ok j3 =>
     simp only[ok_bind]
     generalize takeP ts sz [40] j3=t4
     cases t4 with
     | error z=>rfl
     | ok j4=>rfl
theorem take_from {ts:List Tok} {sz:Nat} {x:List Nat} {s:StP} {j:Nat} (h:s.bind (takeP ts sz x) = .ok j):∃ i,s = .ok i∧j=i+1:=by
 cases s with
 | error z=>cases h
 | ok i =>
  rw[ok_bind] at h
  unfold takeP at h
  by_cases hb:isP ts x i=true
  ·rw[if_pos hb] at h;cases h;exact⟨i,rfl,rfl⟩
  ·rw[if_neg hb] at h;cases h
theorem numb_from {ts:List Tok} {sz:Nat} {s:StP} {j:Nat} (h:nxS (s.bind (numP ts sz)) = .ok j):∃ i,s = .ok i∧j=i+1:=by
 cases s with
 | error z=>cases h
 | ok i =>
  rw[ok_bind] at h
  unfold numP at h
  by_cases hb:isNumP ts i=true
  ·rw[if_pos hb] at h;cases h;exact⟨i,rfl,rfl⟩
  ·rw[if_neg hb] at h;cases h
theorem fin_end (ts:List Tok) (sz:Nat) (el:Nat→PR Prd) (u n f:Nat) (s:StP) (ps:List Prd) (hw:isS ts [44] s=false) :
  (contS ts [44] el f s ps).bind (fun r=>finL ts sz u n (.ok r.2) r.1)=finL ts sz u n s ps:=by
 cases s with
 | error z=>rfl
 | ok j =>
  have h:isP ts [44] j=false:=hw
  unfold contS
  rw[ok_bind,if_neg (by rw[h];simp)]
  rfl
theorem sleast_any (w:World) (R:Nat) (ao:Option Addr) (cap:Nat) (ts:List Tok) (sz:Nat) (st:StP) (el:Nat→PR Prd) (i0 u:Nat) (h:SrcS w R ao cap ts sz st) (hn:ts.length≤1000000) (hu:u≤ts.length) (hts:∀ t∈ts,TokOk t) (h0:∀ k,st = .ok k→i0≤k) (hgo:Goes ts.length el)
  (hel:∀ (W:World) (s:StP),(∀ k,s = .ok k→i0≤k)→SrcS W R ao cap ts sz s→Calls Tryz.prog 80 #[.pointer (some ⟨R,0,none⟩)] W fun e w'=>PrdQ W R ao cap ts sz (s.bind el) e w') :
  Calls Tryz.prog 250 #[.pointer (some ⟨R,0,none⟩),.int .i64 (u:Int)] w fun e w'=>PrdQ w R ao cap ts sz (st.bind (leastQ ts sz el u)) e w':=by
 obtain⟨RR,hRR⟩:∃ RR,st.bind (leastQ ts sz el u)=RR:=⟨_,rfl⟩
 rw[hRR]
 rw[least_split] at hRR
 have HN:=ħ hn
 have HTS:=ħ hts
 have HT1:=ħ (fun W (hW:SrcS W R ao cap ts sz st)=>take_s W R ao cap ts sz st [108,101,97,115,116] hW hn hts (by decide))
 have HI0:=ħ h0
 obtain⟨s1,hs1⟩:∃ s,st.bind (takeP ts sz [108,101,97,115,116])=s:=⟨_,rfl⟩
 rw[hs1] at HT1 hRR
 have HF1:Hid (∀ j,s1 = .ok j→i0≤j):=ħ (fun j hj=>by obtain⟨i,h1,rfl⟩:=take_from (hs1.trans hj);have:=h0 i h1;omega)
 have HNM:=ħ (fun W (hW:SrcS W R ao cap ts sz s1)=>num_s W R ao cap ts sz s1 hW hn)
 obtain⟨s2,hs2⟩:∃ s,nxS (s1.bind (numP ts sz))=s:=⟨_,rfl⟩
 obtain⟨N,hN⟩:∃ n,nmbV (s1.bind (numP ts sz))=n:=⟨_,rfl⟩
 rw[hs2,hN] at HNM hRR
 have HF2:Hid (∀ j,s2 = .ok j→i0≤j):=ħ (fun j hj=>by obtain⟨i,h1,rfl⟩:=numb_from (hs2.trans hj);have:=HF1.o i h1;omega)
 have HT3:=ħ (fun W (hW:SrcS W R ao cap ts sz s2)=>take_s W R ao cap ts sz s2 [111,102] hW hn hts (by decide))
 obtain⟨s3,hs3⟩:∃ s,s2.bind (takeP ts sz [111,102])=s:=⟨_,rfl⟩
 rw[hs3] at HT3 hRR
 have HF3:Hid (∀ j,s3 = .ok j→i0≤j):=ħ (fun j hj=>by obtain⟨i,h1,rfl⟩:=take_from (hs3.trans hj);have:=HF2.o i h1;omega)
 have HT4:=ħ (fun W (hW:SrcS W R ao cap ts sz s3)=>take_s W R ao cap ts sz s3 [40] hW hn hts (by decide))
 obtain⟨s4,hs4⟩:∃ s,s3.bind (takeP ts sz [40])=s:=⟨_,rfl⟩
 rw[hs4] at HT4 hRR
 have HF4:Hid (∀ j,s4 = .ok j→i0≤j):=ħ (fun j hj=>by obtain⟨i,h1,rfl⟩:=take_from (hs4.trans hj);have:=HF3.o i h1;omega)
 have HRR:=ħ hRR
 have B0:=ħ ((Below.refl w.heap.size w).alloc (Nat.le_refl _) (.cells #[.int .i64 0,.string ⟨#[]⟩,.string ⟨#[]⟩,.int .i64 0,.slice none 0 0] 25))
 have X0:Hid (HasV (w.alloc (.cells #[.int .i64 0,.string ⟨#[]⟩,.string ⟨#[]⟩,.int .i64 0,.slice none 0 0] 25)) w.heap.size 25 zP):=ħ (HasV.new w _ zP)
 have H0:=ħ h
 have H1:=ħ (h.step B0.o)
 have RL:=ħ h.lt
 have HEL:=ħ hel
 have HGO:=ħ hgo
 have HU:=ħ hu
 have S01:Hid ((w.alloc (.cells #[.int .i64 0,.string ⟨#[]⟩,.string ⟨#[]⟩,.int .i64 0,.slice none 0 0] 25)).heap.size=w.heap.size+1):=ħ (by simp)
 clear h hn hts hel hgo h0 hRR hs1 hs2 hs3 hs4 hN HF1 HF2 HF3 HI0 hu
 go_enter Tryz.func250,Tryz.ntmps250
 go_wp2_with fail
 generalize w.alloc (.cells #[.int .i64 0,.string ⟨#[]⟩,.string ⟨#[]⟩,.int .i64 0,.slice none 0 0] 25)=w1 at *
 have O1:=ħ (Only.of_below (p:=(· = R)) B0.o)
 refine (HT1.o w1 H1.o).mono ?_
 rintro e w2 ⟨rfl,h2,o2⟩
 have H2:=ħ h2
 have O2:=ħ (O1.o.trans o2)
 have X2:=ħ (X0.o.only o2 (by have:=RL.o;omega))
 have SZ2:Hid (w.heap.size<w2.heap.size):=ħ (by have:=S01.o;have:=o2.size;omega)
 clear h2 o2 H1 O1 X0 B0 S01 HT1
 go_wp2_with fail
 refine (HNM.o w2 H2.o).mono ?_
 rintro e w3 ⟨rfl,h3,o3⟩
 have H3:=ħ h3
 have O3:=ħ (O2.o.trans o3)
 have X3:=ħ (X2.o.only o3 (by have:=RL.o;omega))
 have SZ3:Hid (w.heap.size<w3.heap.size):=ħ (by have:=SZ2.o;have:=o3.size;omega)
 clear h3 o3 H2 O2 X2 SZ2 HNM
 go_wp2_with fail
 have S4:Hid (HasV (w3.alloc (.cells #[.int .i64 3,.string ⟨#[]⟩,.string ⟨#[]⟩,.int .i64 (N:Int),.slice none 0 0] 25)) w3.heap.size 25 (kidV 3 (N:Int) none 0 0)):=ħ (heap_alloc_new w3 _)
 have b4:=(Below.refl w3.heap.size w3).alloc (Nat.le_refl _) (.cells #[.int .i64 3,.string ⟨#[]⟩,.string ⟨#[]⟩,.int .i64 (N:Int),.slice none 0 0] 25)
 have H4:=ħ (H3.o.step b4)
 have X4:=ħ (X3.o.step b4)
 have O4:=ħ (O3.o.trans (Only.of_below b4))
 have SZ4:Hid ((w3.alloc (.cells #[.int .i64 3,.string ⟨#[]⟩,.string ⟨#[]⟩,.int .i64 (N:Int),.slice none 0 0] 25)).heap.size=w3.heap.size+1):=ħ (by simp)
 have HG:Hid (w.heap.size<w3.heap.size):=SZ3
 clear b4 H3 O3 X3 SZ3
 generalize w3.alloc (.cells #[.int .i64 3,.string ⟨#[]⟩,.string ⟨#[]⟩,.int .i64 (N:Int),.slice none 0 0] 25)=w4 at *
 generalize w3.heap.size=A at *
 clear w3
 refine (HT3.o w4 H4.o).mono ?_
 rintro e w5 ⟨rfl,h5,o5⟩
 have H5:=ħ h5
 have O5:=ħ (O4.o.trans o5)
 have RA:Hid (R<A):=ħ (by have:=RL.o;have:=HG.o;omega)
 have X5:=ħ (X4.o.only o5 (by have:=RL.o;omega))
 have S5:=ħ (S4.o.only o5 (by have:=RA.o;omega))
 clear h5 o5 H4 O4 X4 S4 HT3
 go_wp2_with fail
 refine (HT4.o w5 H5.o).mono ?_
 rintro e w6 ⟨rfl,h6,o6⟩
 have P5:=ħ h6
 have O6:=ħ (O5.o.trans o6)
 have Z5:=ħ (X5.o.only o6 (by have:=RL.o;omega))
 have S6:=ħ (S5.o.only o6 (by have:=RA.o;omega))
 clear h6 o6 H5 O5 X5 S5 HT4
 have K5:Hid (KidsM w w6 (A+1) (fun g=>g=w.heap.size∨g=A) none 0 0 [] []):=ħ (KidsM.nil _ _ _ _)
 have S5:=S6
 have O5:=O6
 clear S6 O6
 go_upto_region 5 with (fail)
 have c4:=S5.o.cell 4 _ rfl
 refine wp_region_pick [0,1,2] [3,4,5,6,7] (fun w'=>w'.cell? ⟨A,4,none⟩=some (.slice none 0 0)) (by kernel_rfl) (by kernel_rfl) (by kernel_rfl) (fun _ _ d _ _ h=>by cases d<;>exact h) c4 ?_
 simp only[pickI,List.filterMap_cons,List.filterMap_nil,List.getElem?_cons_zero,List.getElem?_cons_succ,Option.map_some,List.map_cons,List.map_nil]
 apply Exists.intro
 refine⟨?hh,?ht⟩
 case hh =>
  intro w' hw'
  repeat still_step
  exact wpStill_nil rfl
 case ht =>
  have BD:Below w6.heap.size w6 w6.drew:=(Below.refl w6.heap.size w6).drew
  have hs1:=ħ (S5.o.step BD)
  have hz1:=ħ (Z5.o.step BD)
  have hk1:=ħ (K5.o.step BD)
  have hp1:=ħ (P5.o.step BD)
  have ho1:=ħ (O5.o.step BD)
  clear BD c4 S5 Z5 K5 P5 O5
  generalize w6.drew=wd at *
  have c4:=hs1.o.cell 4 _ rfl
  refine wpTailT_cons ?_
  go_wp2_with fail
  refine (HEL.o wd s4 HF4.o hp1.o).mono ?_
  rintro e w2 hpr
  obtain⟨p2,us,rfl,hpc,hwd,hq,h2,o2⟩:=hpr.get
  have HWD2:=ħ hwd
  clear hwd
  clear hpr
  have V3:Hid (RR=(contS ts [44] el ts.length (nxS (s4.bind el)) [p2]).bind (fun r=>finL ts sz u N (.ok r.2) r.1)):=ħ (by rw[← HRR.o,cont_first ts _ el ts.length s4 p2 hq])
  have J3:Hid (∀ j,nxS (s4.bind el) = .ok j→i0≤j∧1≤j∧j≤ts.length):=ħ (fun j hj=>by
   cases s4 with
   | error z=>cases hj
   | ok i =>
    rw[ok_bind] at hj
    cases he:el i with
    | error z=>rw[he] at hj;cases hj
    | ok q =>
     rw[he] at hj
     obtain rfl:q.2=j:=by injection hj
     have h1:=HGO.o i q he
     have h2:=HF4.o i rfl
     exact⟨by omega,by omega,h1.2⟩)
  have HK1:Hid (0+1≤1):=ħ (Nat.le_refl _)
  have O2:=ħ (ho1.o.trans o2)
  have S2:=ħ (hs1.o.only o2 (by have:=RA.o;omega))
  have Z2:=ħ (hz1.o.only o2 (by have:=RL.o;omega))
  have K2:=ħ (hk1.o.only o2 RL.o (by have:=HG.o;omega))
  have P2:=ħ h2
  have PC:=ħ hpc
  have WD:Hid (A<wd.heap.size):=ħ hs1.o.lt
  clear o2 h2 hpc hq c4
  generalize nxS (s4.bind el)=s5 at *
  go_wp2_with fail
  have c2:=S2.o.cell 4 _ rfl
  refine postOf_normal ⟨c2,?_⟩
  refine wpTailT_cons ?_
  have hl5:us.length=5:=PC.o.len
  have hfd:=fold5 #[.int .i64 0,.string ⟨#[]⟩,.string ⟨#[]⟩,.int .i64 0,.slice none 0 0] rfl us hl5
  go_wp2_with fail
  refine postOf_normal ⟨(((Below.refl w2.heap.size w2).alloc (Nat.le_refl _) (.cells us.toArray 25)).cell (p:=⟨A,4,none⟩) S2.o.lt).trans c2,?_⟩
  clear c2
  refine wpTailT_cons ?_
  have hkk1:=HK1.o
  have hnn:=HN.o
  go_wp2_with (at_builtin;refine app_k 23 25 predZ 5 72 Tryz.underlying23 info_pred rfl (by omega) (by omega) w2 (A+1) rfl (.tmp 16) (.tmp 19) rfl none 0 0 ([]:List (List Value)).flatten ?q1 K2.o.own S2.o.lt 1 1 us.toArray 25 ?q2 ?q6 (by omega) PC.o.ones ?q4 ?_;(case q1=>rfl);(case q2=>rfl);(case q6=>rw[List.size_toArray,hl5]);(case q4=>omega);intro g5 off5 c5 wa o8 gr8 b8 or8;have O8:=ħ o8;have GR8:=ħ gr8;have B8:=ħ b8;have OR8:=ħ or8;clear o8 gr8 b8 or8)
  have KA:=ħ (KidsM.add hk1.o K2.o (by have:=WD.o;have:=HG.o;omega) (fun g hg=>by have:=WD.o;have:=HG.o;rcases hg with h | h<;>omega) PC.o O8.o GR8.o OR8.o)
  have SA:=ħ (S2.o.below B8.o (Nat.lt_succ_self A))
  have ZA:=ħ (Z2.o.below B8.o (by have:=HG.o;omega))
  have BB8:=ħ (B8.o.mono (B':=w.heap.size) (by have:=HG.o;omega))
  have PA:=ħ (H0.o.belowB P2.o BB8.o)
  have OA:=ħ (O2.o.belowB BB8.o)
  clear K2 S2 Z2 P2 O2 GR8 OR8 B8 BB8 hs1 hz1 hk1 hp1 ho1 PC
  refine postOf_normal ⟨SA.o.cell 4 _ rfl,?_⟩
  refine wpTailT_cons ?_
  go_wp2_with fail
  refine postOf_normal ⟨SA.o.cell 4 _ rfl,?_⟩
  refine wpTailT_one ?_
  have m4:=SA.o.cell 4 _ rfl
  have f4:=SA.o.warm 4
  go_wp2_with fail
  clear m4 f4
  have U5:=ħ (upd_setCell wa ⟨A,4,none⟩ (.slice (some ⟨g5,off5,none⟩) 1 c5))
  have S5:Hid (HasV (wa.setCell ⟨A,4,none⟩ (.slice (some ⟨g5,off5,none⟩) 1 c5)) A 25 (kidV 3 (N:Int) (some ⟨g5,off5,none⟩) 1 c5)):=ħ (SA.o.set 4 _)
  have Z5:=ħ (ZA.o.upd U5.o (by show w.heap.size≠A;have:=HG.o;omega))
  have K5:=ħ (KA.o.upd U5.o (.inr rfl) (fun e=>by have:=(KA.o.own.blk_lt e).1;have:A+1≤A:=this;omega))
  have P5:=ħ (H0.o.upd PA.o U5.o (by show w.heap.size≤A;have:=HG.o;omega))
  have O5:=ħ (OA.o.updNew U5.o (by show w.heap.size≤A;have:=HG.o;omega))
  clear SA ZA KA PA OA U5 O8
  generalize wa.setCell ⟨A,4,none⟩ (.slice (some ⟨g5,off5,none⟩) 1 c5)=w5 at *
  go_loopw [23] (fun c wr=>∃ (s:StP) (f k cp:Nat) (ao2:Option Addr) (ps:List Prd) (vss:List (List Value)),k≤ts.length+1 ∧
    Hid (∀ j,s = .ok j→i0≤j∧k≤j∧j≤ts.length∧ts.length-j<f)∧Hid (HasV wr A 25 (kidV 3 (N:Int) ao2 k cp))∧Hid (HasV wr w.heap.size 25 zP) ∧
    Hid (KidsM w wr (A+1) (fun g=>g=w.heap.size∨g=A) ao2 k cp ps vss)∧Hid (SrcS wr R ao cap ts sz s)∧Hid (Only w wr (· = R))∧Hid (∀ q∈ps,WdP q) ∧
    Hid (RR=(contS ts [44] el f s ps).bind (fun r=>finL ts sz u N (.ok r.2) r.1))) (fun _ wr=>mS wr R ts.length)
  case atStart=>exact⟨s5,ts.length,1,c5,some ⟨g5,off5,none⟩,[p2],[us],by omega,ħ (fun j hj=>by have:=J3.o j hj;exact⟨this.1,this.2.1,this.2.2,by omega⟩),S5,Z5,K5,P5,O5,ħ (fun q hq=>by simp only[List.mem_singleton] at hq;rw[hq];exact HWD2.o),V3⟩
  case round =>
   clear S5 Z5 K5 P5 O5 V3 J3
   obtain⟨s,f,k,cp,ao2,ps,vss,hk,hj,hs,hz,hkk,hp,ho,hwl,hv⟩:=hrel
   have HM0:Hid (∀ j,s = .ok j→mS wr R ts.length=ts.length+2-j):=ħ (fun j hj=>by subst hj;exact mS_ok hp.o)
   have HIS:=ħ (is_s wr R ao cap ts sz s [44] hp.o HN.o HTS.o (by decide))
   obtain⟨b,hb⟩:∃ b,isS ts [44] s=b:=⟨_,rfl⟩
   rw[hb] at HIS
   have HB:=ħ hb
   clear hb
   go_wp2_with fail
   refine HIS.o.mono ?_
   rintro e w4 ⟨rfl,b4⟩
   have S4:=ħ (hs.o.step b4)
   have Z4:=ħ (hz.o.step b4)
   have K4:=ħ (hkk.o.step b4)
   have P4:=ħ (hp.o.step b4)
   have O4:=ħ (ho.o.step b4)
   clear b4 hs hz hkk hp ho HIS
   cases b with
   | false =>
    have HF:Hid (RR=finL ts sz u N s ps):=ħ (by rw[hv.o,fin_end ts sz el u N f s ps HB.o])
    unfold finL at HF
    have HT5:=ħ (take_s w4 R ao cap ts sz s [41] P4.o HN.o HTS.o (by decide))
    clear hv hj HM0
    generalize s.bind (takeP ts sz [41])=s7 at *
    go_wp2_with fail
    refine HT5.o.mono ?_
    rintro e w6 ⟨rfl,h6,o6⟩
    have P6:=ħ h6
    have O6:=ħ (O4.o.trans o6)
    have S6:=ħ (S4.o.only o6 (by have:=RA.o;omega))
    have Z6:=ħ (Z4.o.only o6 (by have:=RL.o;omega))
    have K6:=ħ (K4.o.only o6 RL.o (by have:=HG.o;omega))
    have hcnt:=K4.o.cnt
    have HWL:Hid (∀ c:Int,WdP (.mk 3 [] [] c ps)):=ħ (fun c=>wd_list _ _ _ _ hwl.o (by have:=HN.o;omega))
    clear h6 o6 P4 O4 S4 Z4 K4 HT5
    have c3:=S6.o.cell 3 _ rfl
    have c4:=S6.o.cell 4 _ rfl
    cases s7 with
    | error z =>
     have HF2:Hid (RR = .error z):=ħ HF.o
     obtain⟨hz0,i4,hi4,hs4⟩:=P6.o
     have hzb:(z.1==0)=false:=beq_eq_false_iff_ne.mpr hz0
     obtain⟨d0,d1,d2,d3,d4⟩:=hs4.cells
     clear d0 d1 d2 d4 hs4 hz0 hi4 HF hcnt
     go_upto_region 12 with (fail)
     clear c3 c4 d3 hzb
     go_wp2_with (first
      | (refine wpList_load_row rfl 25 (.tmp 5) rfl A ?x1 25 (kidV 3 (N:Int) ao2 k cp).toArray (0,0) _ S6.o Tryz.underlying25 rfl (inf_pred _ rfl) ?_;(case x1=>rfl))
      | (refine wpList_store_abs rfl 25 (.tmp 4) (.tmp 61) rfl w.heap.size (kidV 3 (N:Int) ao2 k cp).toArray ?s1 ?s2 25 _ Z6.o (inf_pred _ rfl) rfl (kidV_one _ _ _ _ _) ?_;(case s1=>rfl);(case s2=>rfl);intro w9 s9 u9;have S9:=ħ s9;have U9:=ħ u9;clear s9 u9))
     have K9:=K6.o.upd U9.o (.inl rfl) (fun e=>by have:=(K6.o.own.blk_lt e).1;have:=HG.o;omega)
     exact bodyPost_ret (results_cell_row (p:=4) (by kernel_rfl) _ _ w.heap.size 25 (kidV 3 (N:Int) ao2 k cp).toArray (0,0) _ rfl S9.o Tryz.underlying25 rfl (inf_pred _ rfl)) rfl ⟨⟨_,_,rfl,K9.predV (by have:=HG.o;omega) 3 (N:Int),HWL.o _,fun q hq=>by rw[HF2.o] at hq;cases hq⟩,by rw[HF2.o];exact H0.o.upd P6.o U9.o (Nat.le_refl _),O6.o.updNew U9.o (Nat.le_refl _)⟩
    | ok j7 =>
     obtain⟨y,hy⟩:=P6.o.at
     obtain⟨d0,d1,d2,d3,d4⟩:=hy.cells
     clear d0 d1 d2 d4 hy
     have HFL:=ħ (fun W (hW:SrcS W R ao cap ts sz (.ok j7))=>fail_s W R ao cap ts sz (.ok j7) u 3 hW (by decide) HU.o HN.o)
     rw[show failS ts sz 3 u (.ok j7) = .error (3,offP ts sz u) from rfl] at HFL
     rw[ok_bind] at HF
     by_cases g0:1≤N∧N≤k
     ·have HF2:Hid (RR = .ok (.mk 3 [] [] (N:Int) ps,j7)):=ħ (by rw[HF.o,if_pos ⟨g0.1,by omega⟩])
      have i1:¬ ((N:Int)<1):=by omega
      have i2:¬ ((k:Int)<N):=by omega
      clear hcnt HF g0
      go_upto_region 12 with (fail)
      clear c3 c4 d3 i1 i2
      go_wp2_with (first
       | (refine wpList_load_row rfl 25 (.tmp 5) rfl A ?x1 25 (kidV 3 (N:Int) ao2 k cp).toArray (0,0) _ S6.o Tryz.underlying25 rfl (inf_pred _ rfl) ?_;(case x1=>rfl))
       | (refine wpList_store_abs rfl 25 (.tmp 4) (.tmp 61) rfl w.heap.size (kidV 3 (N:Int) ao2 k cp).toArray ?s1 ?s2 25 _ Z6.o (inf_pred _ rfl) rfl (kidV_one _ _ _ _ _) ?_;(case s1=>rfl);(case s2=>rfl);intro w9 s9 u9;have S9:=ħ s9;have U9:=ħ u9;clear s9 u9))
      have K9:=K6.o.upd U9.o (.inl rfl) (fun e=>by have:=(K6.o.own.blk_lt e).1;have:=HG.o;omega)
      exact bodyPost_ret (results_cell_row (p:=4) (by kernel_rfl) _ _ w.heap.size 25 (kidV 3 (N:Int) ao2 k cp).toArray (0,0) _ rfl S9.o Tryz.underlying25 rfl (inf_pred _ rfl)) rfl ⟨⟨_,_,rfl,K9.predV (by have:=HG.o;omega) 3 (N:Int),HWL.o _,fun q hq=>by rw[HF2.o] at hq;cases hq;rfl⟩,by rw[HF2.o];exact H0.o.upd P6.o U9.o (Nat.le_refl _),O6.o.updNew U9.o (Nat.le_refl _)⟩
     ·have HF2:Hid (RR = .error (3,offP ts sz u)):=ħ (by rw[HF.o,if_neg (fun h=>g0 ⟨h.1,by omega⟩)])
      have HCC:(N:Int)<1∨(¬ ((N:Int)<1)∧(k:Int)<N):=by omega
      clear hcnt HF g0
      rcases HCC with i1 | ⟨i1,i2⟩
      ·go_wp2_with fail
       refine (HFL.o w6 P6.o).mono ?_
       rintro e w7 ⟨rfl,h7,o7⟩
       have P7:=ħ h7
       have O7:=ħ (O6.o.trans o7)
       have S7:=ħ (S6.o.only o7 (by have:=RA.o;omega))
       have Z7:=ħ (Z6.o.only o7 (by have:=RL.o;omega))
       have K7:=ħ (K6.o.only o7 RL.o (by have:=HG.o;omega))
       clear h7 o7 P6 O6 S6 Z6 K6 c3 c4 d3
       go_wp2_with (first
        | (refine wpList_load_row rfl 25 (.tmp 5) rfl A ?x1 25 (kidV 3 (N:Int) ao2 k cp).toArray (0,0) _ S7.o Tryz.underlying25 rfl (inf_pred _ rfl) ?_;(case x1=>rfl))
        | (refine wpList_store_abs rfl 25 (.tmp 4) (.tmp 61) rfl w.heap.size (kidV 3 (N:Int) ao2 k cp).toArray ?s1 ?s2 25 _ Z7.o (inf_pred _ rfl) rfl (kidV_one _ _ _ _ _) ?_;(case s1=>rfl);(case s2=>rfl);intro w9 s9 u9;have S9:=ħ s9;have U9:=ħ u9;clear s9 u9))
       have K9:=K7.o.upd U9.o (.inl rfl) (fun e=>by have:=(K7.o.own.blk_lt e).1;have:=HG.o;omega)
       exact bodyPost_ret (results_cell_row (p:=4) (by kernel_rfl) _ _ w.heap.size 25 (kidV 3 (N:Int) ao2 k cp).toArray (0,0) _ rfl S9.o Tryz.underlying25 rfl (inf_pred _ rfl)) rfl ⟨⟨_,_,rfl,K9.predV (by have:=HG.o;omega) 3 (N:Int),HWL.o _,fun q hq=>by rw[HF2.o] at hq;cases hq⟩,by rw[HF2.o];exact H0.o.upd P7.o U9.o (Nat.le_refl _),O7.o.updNew U9.o (Nat.le_refl _)⟩
      ·go_wp2_with fail
       refine (HFL.o w6 P6.o).mono ?_
       rintro e w7 ⟨rfl,h7,o7⟩
       have P7:=ħ h7
       have O7:=ħ (O6.o.trans o7)
       have S7:=ħ (S6.o.only o7 (by have:=RA.o;omega))
       have Z7:=ħ (Z6.o.only o7 (by have:=RL.o;omega))
       have K7:=ħ (K6.o.only o7 RL.o (by have:=HG.o;omega))
       clear h7 o7 P6 O6 S6 Z6 K6 c3 c4 d3
       go_wp2_with (first
        | (refine wpList_load_row rfl 25 (.tmp 5) rfl A ?x1 25 (kidV 3 (N:Int) ao2 k cp).toArray (0,0) _ S7.o Tryz.underlying25 rfl (inf_pred _ rfl) ?_;(case x1=>rfl))
        | (refine wpList_store_abs rfl 25 (.tmp 4) (.tmp 61) rfl w.heap.size (kidV 3 (N:Int) ao2 k cp).toArray ?s1 ?s2 25 _ Z7.o (inf_pred _ rfl) rfl (kidV_one _ _ _ _ _) ?_;(case s1=>rfl);(case s2=>rfl);intro w9 s9 u9;have S9:=ħ s9;have U9:=ħ u9;clear s9 u9))
       have K9:=K7.o.upd U9.o (.inl rfl) (fun e=>by have:=(K7.o.own.blk_lt e).1;have:=HG.o;omega)
       exact bodyPost_ret (results_cell_row (p:=4) (by kernel_rfl) _ _ w.heap.size 25 (kidV 3 (N:Int) ao2 k cp).toArray (0,0) _ rfl S9.o Tryz.underlying25 rfl (inf_pred _ rfl)) rfl ⟨⟨_,_,rfl,K9.predV (by have:=HG.o;omega) 3 (N:Int),HWL.o _,fun q hq=>by rw[HF2.o] at hq;cases hq⟩,by rw[HF2.o];exact H0.o.upd P7.o U9.o (Nat.le_refl _),O7.o.updNew U9.o (Nat.le_refl _)⟩
   | true =>
    obtain⟨j,rfl,hjl,hw⟩:=isS_ok HB.o
    have HJ:=ħ hjl
    have HW:=ħ hw
    have HJJ:=ħ (hj.o j rfl)
    have HID:Hid (mS wr R ts.length=ts.length+2-j):=ħ (HM0.o j rfl)
    have e2:IntKind.i64.wrap ((j:Int)+1)=(j:Int)+1:=IntWalk.i64_in _ (by have:=HN.o;omega)
    obtain⟨y,hy⟩:=P4.o.at
    obtain⟨c0,c1,c2,c3,c4⟩:=hy.cells
    have f1:=hy.warm 1
    clear c0 c2 c3 c4 hy hjl hw HB hj
    go_upto_region 8 with (fail)
    have P5:Hid (SrcS (w4.setCell ⟨R,1,none⟩ (.int .i64 ((j:Int)+1))) R ao cap ts sz (.ok (j+1))):=ħ (P4.o.next HJ.o)
    have QQ:Only w4 (w4.setCell ⟨R,1,none⟩ (.int .i64 ((j:Int)+1))) (· = R):=SrcW.nextOnly R 1 _
    have S5:=ħ (S4.o.only QQ (by have:=RA.o;omega))
    have Z5:=ħ (Z4.o.only QQ (by have:=RL.o;omega))
    have K5:=ħ (K4.o.only QQ RL.o (by have:=HG.o;omega))
    have O5:=ħ (O4.o.trans QQ)
    clear QQ c1 f1 P4 S4 Z4 K4 O4
    generalize w4.setCell ⟨R,1,none⟩ (.int .i64 ((j:Int)+1))=w5 at *
    have c4:=S5.o.cell 4 _ rfl
    refine wp_region_pick [0,1,2] [3,4,5,6,7] (fun w'=>w'.cell? ⟨A,4,none⟩=some (.slice ao2 k cp)) (by kernel_rfl) (by kernel_rfl) (by kernel_rfl) (fun _ _ d _ _ h=>by cases d<;>exact h) c4 ?_
    simp only[pickI,List.filterMap_cons,List.filterMap_nil,List.getElem?_cons_zero,List.getElem?_cons_succ,Option.map_some,List.map_cons,List.map_nil]
    apply Exists.intro
    refine⟨?hh,?ht⟩
    case hh =>
     intro w' hw'
     repeat still_step
     exact wpStill_nil rfl
    case ht =>
     have BD:Below w5.heap.size w5 w5.drew:=(Below.refl w5.heap.size w5).drew
     have hs1:=ħ (S5.o.step BD)
     have hz1:=ħ (Z5.o.step BD)
     have hk1:=ħ (K5.o.step BD)
     have hp1:=ħ (P5.o.step BD)
     have ho1:=ħ (O5.o.step BD)
     clear BD c4 S5 Z5 K5 P5 O5
     generalize w5.drew=wd at *
     have c4:=hs1.o.cell 4 _ rfl
     refine wpTailT_cons ?_
     go_wp2_with fail
     refine (HEL.o wd (.ok (j+1)) (fun q hq=>by cases hq;have:=HJJ.o.1;omega) hp1.o).mono ?_
     rintro e w2 hpr
     obtain⟨p2,us,rfl,hpc,hwd,hq,h2,o2⟩:=hpr.get
     have HWD2:=ħ hwd
     clear hwd
     clear hpr
     have hf0:∃ f',f=f'+1:=⟨f-1,by have:=HJJ.o.2.2.2;omega⟩
     obtain⟨f',rfl⟩:=hf0
     have HF2:Hid (RR=(contS ts [44] el f' (nxS (el (j+1))) (ps++[p2])).bind (fun r=>finL ts sz u N (.ok r.2) r.1)):=ħ (by rw[hv.o,cont_next ts _ el f' j ps p2 HW.o hq])
     have HJ2:Hid (∀ j2,nxS (el (j+1)) = .ok j2→i0≤j2∧k+1≤j2∧j2≤ts.length∧ts.length-j2<f'):=ħ (fun j2 hj2=>by
      cases he:el (j+1) with
      | error z=>rw[he] at hj2;cases hj2
      | ok q =>
       rw[he] at hj2
       obtain rfl:q.2=j2:=by injection hj2
       have h1:=HGO.o (j+1) q he
       have h3:=HJJ.o
       have h4:=HJ.o
       exact⟨by omega,by omega,h1.2,by omega⟩)
     have HMS:Hid (∀ W,SrcS W R ao cap ts sz (nxS (el (j+1)))→mS W R ts.length<ts.length+2-j):=ħ (fun W hW=>by
      have h4:=HJ.o
      cases he:el (j+1) with
      | error z=>rw[he] at hW;rw[mS_err hW];omega
      | ok q =>
       rw[he] at hW
       have h1:=HGO.o (j+1) q he
       rw[mS_ok (i:=q.2) hW];omega)
     have HK1:Hid (k+1≤ts.length+1):=ħ (by have:=HJJ.o;have:=HJ.o;omega)
     have O2:=ħ (ho1.o.trans o2)
     have S2:=ħ (hs1.o.only o2 (by have:=RA.o;omega))
     have Z2:=ħ (hz1.o.only o2 (by have:=RL.o;omega))
     have K2:=ħ (hk1.o.only o2 RL.o (by have:=HG.o;omega))
     have P2:=ħ h2
     have PC:=ħ hpc
     have WD:Hid (A<wd.heap.size):=ħ hs1.o.lt
     clear o2 h2 hpc hq c4 hv
     rw[ok_bind] at P2
     generalize nxS (el (j+1))=s2 at *
     go_wp2_with fail
     have c2:=S2.o.cell 4 _ rfl
     refine postOf_normal ⟨c2,?_⟩
     refine wpTailT_cons ?_
     have hl5:us.length=5:=PC.o.len
     have hfd:=fold5 #[.int .i64 0,.string ⟨#[]⟩,.string ⟨#[]⟩,.int .i64 0,.slice none 0 0] rfl us hl5
     go_wp2_with fail
     refine postOf_normal ⟨(((Below.refl w2.heap.size w2).alloc (Nat.le_refl _) (.cells us.toArray 25)).cell (p:=⟨A,4,none⟩) S2.o.lt).trans c2,?_⟩
     clear c2
     refine wpTailT_cons ?_
     have hkk1:=HK1.o
     have hnn:=HN.o
     go_wp2_with (at_builtin;refine app_k 23 25 predZ 5 72 Tryz.underlying23 info_pred rfl (by omega) (by omega) w2 (A+1) rfl (.tmp 32) (.tmp 35) rfl ao2 cp k vss.flatten ?q1 K2.o.own S2.o.lt 1 1 us.toArray 25 ?q2 ?q6 (by omega) PC.o.ones ?q4 ?_;(case q1=>rfl);(case q2=>rfl);(case q6=>rw[List.size_toArray,hl5]);(case q4=>omega);intro g5 off5 c5 wa o8 gr8 b8 or8;have O8:=ħ o8;have GR8:=ħ gr8;have B8:=ħ b8;have OR8:=ħ or8;clear o8 gr8 b8 or8)
     have KA:=ħ (KidsM.add hk1.o K2.o (by have:=WD.o;have:=HG.o;omega) (fun g hg=>by have:=WD.o;have:=HG.o;rcases hg with h | h<;>omega) PC.o O8.o GR8.o OR8.o)
     have SA:=ħ (S2.o.below B8.o (Nat.lt_succ_self A))
     have ZA:=ħ (Z2.o.below B8.o (by have:=HG.o;omega))
     have BB8:=ħ (B8.o.mono (B':=w.heap.size) (by have:=HG.o;omega))
     have PA:=ħ (H0.o.belowB P2.o BB8.o)
     have OA:=ħ (O2.o.belowB BB8.o)
     clear K2 S2 Z2 P2 O2 GR8 OR8 B8 BB8 hs1 hz1 hk1 hp1 ho1 PC
     refine postOf_normal ⟨SA.o.cell 4 _ rfl,?_⟩
     refine wpTailT_cons ?_
     go_wp2_with fail
     refine postOf_normal ⟨SA.o.cell 4 _ rfl,?_⟩
     refine wpTailT_one ?_
     have m4:=SA.o.cell 4 _ rfl
     have f4:=SA.o.warm 4
     go_wp2_with fail
     clear m4 f4
     have U5:=ħ (upd_setCell wa ⟨A,4,none⟩ (.slice (some ⟨g5,off5,none⟩) (k+1) c5))
     have S5:Hid (HasV (wa.setCell ⟨A,4,none⟩ (.slice (some ⟨g5,off5,none⟩) (k+1) c5)) A 25 (kidV 3 (N:Int) (some ⟨g5,off5,none⟩) (k+1) c5)):=ħ (SA.o.set 4 _)
     have Z5:=ħ (ZA.o.upd U5.o (by show w.heap.size≠A;have:=HG.o;omega))
     have K5:=ħ (KA.o.upd U5.o (.inr rfl) (fun e=>by have:=(KA.o.own.blk_lt e).1;have:A+1≤A:=this;omega))
     have P5:=ħ (H0.o.upd PA.o U5.o (by show w.heap.size≤A;have:=HG.o;omega))
     have O5:=ħ (OA.o.updNew U5.o (by show w.heap.size≤A;have:=HG.o;omega))
     clear SA ZA KA PA OA U5 O8
     generalize wa.setCell ⟨A,4,none⟩ (.slice (some ⟨g5,off5,none⟩) (k+1) c5)=w5 at *
     go_roundw
     case rel=>exact⟨s2,f',k+1,c5,some ⟨g5,off5,none⟩,ps++[p2],vss++[us],HK1.o,HJ2,S5,Z5,K5,P5,O5,ħ (wd_add hwl.o HWD2.o),HF2⟩
     case measure=>have h1:=HMS.o _ P5.o;rw[HID.o];exact h1
end Go.Proofs.YtmkdfbelbcocpaaGreatDoor
