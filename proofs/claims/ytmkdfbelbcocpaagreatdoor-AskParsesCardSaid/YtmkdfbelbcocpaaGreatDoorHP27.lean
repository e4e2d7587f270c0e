import Derived.Maps.StringElems
import Derived.Test.YtmkdfbelbcocpaaGreatDoorHP26
import Derived.Defers
import Derived.Test.YtmkdfbelbcocpaaGreatDoorHP18
set_option linter.unusedVariables false
set_option linter.unusedSimpArgs false
set_option maxHeartbeats 8000000
set_option maxRecDepth 100000
namespace Go.Proofs.YtmkdfbelbcocpaaGreatDoor
section
open Go.RowKit Go.Sort Go.Maps
def betT (k:Int):List Nat:=if k=1 then [97,110,100] else if k=2 then [111,114] else if k=3 then [44] else []
theorem zero_str (w:World):(zeroValue 9).run Tryz.prog w = .ok (.string ⟨#[]⟩) w:=Tryz.zeroValue9 w
theorem lit_wf (k:Int) (h0:-9223372036854775808≤k) (h1:k≤9223372036854775807):(Lit.int .i64 k).wf=true:=by
 have e1:IntKind.i64.min = -9223372036854775808:=by decide
 have e2:IntKind.i64.max=9223372036854775807:=by decide
 show (decide (IntKind.i64.min≤k)&&decide (k≤IntKind.i64.max))=true
 rw[e1,e2,decide_eq_true h0,decide_eq_true h1]
 rfl
theorem key_i (k:Int) (h0:-9223372036854775808≤k) (h1:k≤9223372036854775807):keyOf Tryz.prog 3 (.int .i64 k)=some (.int .i64 k):=keyOf_int_mk Tryz.underlying3 (lit_wf k h0 h1)
theorem lits_any (W:World):∃ M1 M2 M3:World,
  (Instr.mapUpdate 181 (.map (some W.heap.size)) (.int .i64 1) (.string ⟨#[97,110,100]⟩)).run Tryz.prog (W.alloc (.map #[] 0)) = .ok () M1 ∧
  (Instr.mapUpdate 181 (.map (some W.heap.size)) (.int .i64 2) (.string ⟨#[111,114]⟩)).run Tryz.prog M1 = .ok () M2 ∧
  (Instr.mapUpdate 181 (.map (some W.heap.size)) (.int .i64 3) (.string ⟨#[44]⟩)).run Tryz.prog M2 = .ok () M3 ∧
  (∀ k:Int,-9223372036854775808≤k→k≤9223372036854775807→(Instr.lookup 181 (.map (some W.heap.size)) (.int .i64 k) false).run Tryz.prog M3 = .ok (.string (strN (betT k))) M3)∧RowKit.Below W.heap.size W M3:=by
 have K:Keyed Tryz.prog 3:=int_keyed Tryz.underlying3
 have h0:=World.ownsMap_made (H:=Unit) W Tryz.prog 3 (plainElem Tryz.prog 9)
 have pe:∀ s:ByteArray,s.size≤maxLen→plainElem (H:=Unit) Tryz.prog 9 (.string s)=some (.lit (.string s.data.toList),[]):=fun s hs=>plainElem_string Tryz.underlying9 hs
 obtain⟨M1,r1,o1,g1⟩:=h0.update K Tryz.underlying181 (by decide) (key_i 1 (by decide) (by decide)) (pe ⟨#[97,110,100]⟩ (by decide))
 obtain⟨M2,r2,o2,g2⟩:=o1.update K Tryz.underlying181 (by decide) (key_i 2 (by decide) (by decide)) (pe ⟨#[111,114]⟩ (by decide))
 obtain⟨M3,r3,o3,g3⟩:=o2.update K Tryz.underlying181 (by decide) (key_i 3 (by decide) (by decide)) (pe ⟨#[44]⟩ (by decide))
 refine⟨M1,M2,M3,r1,r2,r3,fun k hk0 hk1=>?_,?_⟩
 ·have i0:=h0.isMap
  have i1:=o1.isMap
  have i2:=o2.isMap
  have kk:∀ k:Int,-9223372036854775808≤k→k≤9223372036854775807→WideAt.IsKeyLit (.int .i64 k):=fun k a b=>K.key (key_i k a b)
  obtain⟨v,ps,hrun,hv⟩:=o3.lookup K Tryz.underlying181 (z:=.string ⟨#[]⟩) (zero_str _) (zd:=.lit (.string [])) (zp:=[]) (pe ⟨#[]⟩ (by decide)) (key_i k hk0 hk1)
  have fin:∀ x:List UInt8,DataW.lit (H:=Unit) (.string x)=DataW.lit (.string x)→plainElem (H:=Unit) Tryz.prog 9 v=some (.lit (.string x),ps)→v = .string ⟨x.toArray⟩:=fun x _ hx=>by
   obtain⟨s,rfl,hs,-⟩:=plainElem_string_inv Tryz.underlying9 hx
   simp only[Prod.mk.injEq,DataW.lit.injEq,Lit.string.injEq] at hs
   rw[hs.1]
  have ne0:∀ i j:Int,i≠j→(Lit.int .i64 i) ≠ .int .i64 j:=fun i j h e=>h (by injection e)
  have n13:=ne0 1 3 (by decide)
  have n12:=ne0 1 2 (by decide)
  have n23:=ne0 2 3 (by decide)
  by_cases k1:k=1
  ·subst k1
   rw[atKey_put_other n13,atKey_put_other n12,atKey_put_same i0 (kk 1 hk0 hk1)] at hv
   rw[hrun,fin _ rfl hv]
   rfl
  ·by_cases k2:k=2
   ·subst k2
    rw[atKey_put_other n23,atKey_put_same i1 (kk 2 hk0 hk1)] at hv
    rw[hrun,fin _ rfl hv]
    rfl
   ·by_cases k3:k=3
    ·subst k3
     rw[atKey_put_same i2 (kk 3 hk0 hk1)] at hv
     rw[hrun,fin _ rfl hv]
     rfl
    ·have ne:∀ j:Int,k≠j→(Lit.int .i64 k) ≠ .int .i64 j:=fun j h e=>h (by injection e)
     rw[atKey_put_other (ne 3 k3),atKey_put_other (ne 2 k2),atKey_put_other (ne 1 k1)] at hv
     have e0:(DataW.map (H:=Unit) []).atKey (.int .i64 k) (.lit (.string [])) = .lit (.string []):=rfl
     rw[e0] at hv
     rw[hrun,fin _ rfl hv]
     unfold betT
     rw[if_neg k1,if_neg k2,if_neg k3]
     rfl
 ·have a0:RowKit.Below W.heap.size W (W.alloc (.map #[] 0)):=(RowKit.Below.refl _ _).alloc (Nat.le_refl _) _
  have gg:∀ {A B:World},RowKit.Below W.heap.size W A→A.grownBy B (some W.heap.size)→RowKit.Below W.heap.size W B:=fun {A B} ha hg=>⟨hg.os.trans ha.os,hg.tape.trans ha.tape,hg.output.trans ha.output,Nat.le_trans ha.size hg.size,fun k hk=>(hg.block k (Nat.lt_of_lt_of_le hk ha.size) (fun e=>by have e':k=W.heap.size:=Option.some.inj e;omega)).trans (ha.block k hk)⟩
  exact gg (gg (gg a0 g1) g2) g3
mutual
def prdT:Prd→List (List Nat)
 | .mk k l r c ks=>if k=0 then atomT l r c else if k=3 then [[97,116],[108,101,97,115,116],itoaN c,[111,102],[40]]++kidT 3 0 ks++[[41]] else kidT k 0 ks
def kidT (k:Int):Nat→List Prd→List (List Nat)
 | _,[]=>[]
 | i,q::qs=>(if i=0 then [] else [betT k])++((if k≠3∧(q.k=1∨q.k=2) then [[40]]++prdT q++[[41]] else prdT q)++kidT k (i+1) qs)
end
end
section
open Go.RowKit Go.Sort
theorem put_anyD (w:World) (R:Nat) (ao:Option Addr) (cap:Nat) (ss ls:List (List Nat)) (h:PrtS w R ao cap ss) (g off n c:Nat) (hn:n=ls.length) (hg:g<w.heap.size) (hgR:g≠R) (hga:blk ao≠some g)
  (hr:Reads w g off (ls.map (fun s=>Value.string (strN s)))) (hbig:ss.length+n≤1000000) (u:FrameMode) :
  CallsD Tryz.prog 86 #[.pointer (some ⟨R,0,none⟩),.slice (some ⟨g,off,none⟩) n c] u w fun e u' w'=>u'=u∧(e = .returned (.tuple #[])∧PutR w R ao (ss++ls) w'):=by
 have HN:=ħ hn
 have HR:=ħ hr
 have HGA:=ħ hga
 have H0:=ħ (show PutR w R ao (ss++ls.take 0) w by simpa using PutR.here h)
 clear hn hr hga h
 go_enter_d Tryz.func86,Tryz.ntmps86
 go_wp2_with fail
 go_loopw [8] (fun cc wr=>∃ (i:Nat),cc = .int .i64 i∧i≤n∧Hid (PutR w R ao (ss++ls.take i) wr)) (fun c _=>(n-intOf c).toNat)
 case atStart=>exact⟨0,rfl,by omega,H0⟩
 case round =>
  clear H0
  obtain⟨i,rfl,hi,hq⟩:=hrel
  have e2:IntKind.i64.wrap ((i:Int)+1)=((i+1:Nat):Int):=IntWalk.i64_in _ (by omega)
  by_cases hlt:i<n
  ·have ii:(i:Int)<n:=by omega
   obtain⟨a1,c1,hp1,ha1,ho1⟩:=hq.o
   have HX:Hid (∃ s,ls[i]?=some s):=ħ ⟨_,List.getElem?_eq_getElem (by rw[← HN.o];exact hlt)⟩
   obtain⟨s,hs⟩:=HX.o
   have HS:=ħ hs
   have xi:wr.cell? ⟨g,off+i,none⟩=some (.string (strN s)):=by
    refine ((HR.o.of_block (ho1.block g hg ?_)) i _ (by rw[List.getElem?_map,hs];rfl))
    rintro (h | h)
    ·exact hgR h
    ·exact HGA.o h
   have HP:=ħ hp1
   have HA:=ħ ha1
   have HO:=ħ ho1
   have r0:=hp1.blk.cell 0 _ rfl
   have HTK:Hid (ls.take (i+1)=ls.take i++[s]):=ħ (by rw[List.take_add_one,hs];rfl)
   have HL:Hid ((ss++ls.take i).length=ss.length+i):=ħ (by rw[List.length_append,List.length_take,← HN.o,Nat.min_eq_left hi])
   rw[HL.o] at r0
   clear hp1 ha1 ho1 hs hq HX
   have HC:Hid (sgC s=[.int .i64 3,.string (strN s),.int .i64 0,.int .i64 0]):=ħ rfl
   generalize strN s=y at *
   go_wp2_with (at_builtin;refine app_k 96 169 tokZ 4 40 Tryz.underlying96 info_tok rfl (by omega) (by omega) wr 0 rfl (.tmp 16) (.tmp 19) rfl a1 c1 (ss.length+i) ((ss++ls.take i).flatMap sgC) ?q1 ?q6 (Nat.zero_le _) 1 1 #[.int .i64 3,.string y,.int .i64 0,.int .i64 0] 169 ?q2 rfl (by omega) ?q3 ?q4 ?_;(case q1=>rfl);(case q6=>(have:=HP.o.own;rw[HL.o] at this;exact this));(case q2=>rfl);(case q3=>intro u hu;simp at hu;rcases hu with rfl | rfl | rfl | rfl<;>rfl);(case q4=>omega);intro g5 off5 c5 wa o8 gr8 b8 or8;have O8:=ħ o8;have GR8:=ħ gr8;have OR8:=ħ or8;have ra:=(HP.o.blk.grownBy gr8 HP.o.ne).cell 0 _ rfl;have fa:=(HP.o.blk.grownBy gr8 HP.o.ne).warm 0;clear o8 gr8 b8 or8 xi r0)
   have HG5:Hid (g5≠R):=ħ (fun e=>by
    rcases OR8.o with h | h
    ·exact HP.o.ne (e ▸ h)
    ·have:=HP.o.blk.lt;omega)
   refine⟨⟨i+1,by rw[Int.natCast_succ],by omega,ħ ⟨some ⟨g5,off5,none⟩,c5,⟨?_,?_,?_⟩,?_,?_⟩⟩,by simp only[intOf];omega⟩
   ·have hb:=(HP.o.blk.grownBy GR8.o HP.o.ne).set 0 (.slice (some ⟨g5,off5,none⟩) (ss.length+i+1) c5)
    have hl:(ss++ls.take (i+1)).length=ss.length+i+1:=by rw[HTK.o,← List.append_assoc,List.length_append,HL.o];rfl
    rw[hl]
    exact hb
   ·have ho:=O8.o.setCell (p:=⟨R,0,none⟩) (.slice (some ⟨g5,off5,none⟩) (ss.length+i+1) c5) (fun e=>HG5.o (Option.some.inj e))
    have hl:(ss++ls.take (i+1)).length=ss.length+i+1:=by rw[HTK.o,← List.append_assoc,List.length_append,HL.o];rfl
    rw[hl,HTK.o,← List.append_assoc,List.flatMap_append]
    have e:[s].flatMap sgC=[.int .i64 3,.string y,.int .i64 0,.int .i64 0]:=by simpa using HC.o
    rw[e]
    exact ho
   ·exact fun e=>HG5.o (Option.some.inj e)
   ·intro g' e
    have e':g5=g':=Option.some.inj e
    subst e'
    rcases OR8.o with h | h
    ·exact HA.o _ h
    ·exact .inr (Nat.le_trans HO.o.size h)
   ·have ho:Only w wa (fun g=>g=R∨blk ao=some g):=⟨GR8.o.os.trans HO.o.os,GR8.o.tape.trans HO.o.tape,GR8.o.output.trans HO.o.output,Nat.le_trans HO.o.size GR8.o.size,fun k hk hp=>(GR8.o.block k (Nat.lt_of_lt_of_le hk HO.o.size) (fun e=>by
     rcases HA.o k e.symm with h | h
     ·exact hp (.inr h)
     ·omega)).trans (HO.o.block k hk hp)⟩
    exact ho.setCell _ (.inl rfl)
  ·have ii:¬ ((i:Int)<n):=by omega
   have HT:Hid (ls.take i=ls):=ħ (by rw[show i=ls.length by rw[← HN.o];omega,List.take_length])
   go_wp2
   go_end0
   exact⟨rfl,by have:=hq.o;rwa [HT.o] at this⟩
theorem put_atD (w:World) (R:Nat) (ao:Option Addr) (cap:Nat) (ss ls:List (List Nat)) (h:PrtS w R ao cap ss) (g n c:Nat) (hn:n=ls.length) (cs:Array Value) (T:TypeId) (hv:w.heap[g]?=some (.cells cs T (0,0))) (hcs:cs=(ls.map (fun s=>Value.string (strN s))).toArray) (hgR:g≠R) (hga:blk ao≠some g) (hbig:ss.length+n≤1000000) (u:FrameMode) :
  CallsD Tryz.prog 86 #[.pointer (some ⟨R,0,none⟩),.slice (some ⟨g,0,none⟩) n c] u w fun e u' w'=>u'=u∧(e = .returned (.tuple #[])∧PutR w R ao (ss++ls) w'):=by
 subst hcs
 refine put_anyD w R ao cap ss ls h g 0 n c hn (Array.getElem?_eq_some_iff.1 hv).1 hgR hga (fun j u hj=>?_) hbig u
 rw[Nat.zero_add]
 exact HasV.cell (t:=T) hv j u hj
end
section
open Go.RowKit Go.Sort
def parB (k:Int) (q:Prd):Bool:=(k != 3)&&(q.k==1||q.k==2)
def oneT (k:Int) (q:Prd):List (List Nat):=if parB k q=true then [[40]]++prdT q++[[41]] else prdT q
theorem kidT_cons (k:Int) (i:Nat) (q:Prd) (qs:List Prd):kidT k i (q::qs)=(if i=0 then [] else [betT k])++(oneT k q++kidT k (i+1) qs):=by
 rw[kidT]
 unfold oneT parB
 congr 2
 by_cases h:k≠3∧(q.k=1∨q.k=2)
 ·rw[if_pos h,if_pos (by simpa using h)]
 ·rw[if_neg h,if_neg (by simpa using h)]
theorem kidT_snoc (k:Int) (q:Prd):∀ (a:List Prd) (i:Nat),kidT k i (a++[q])=kidT k i a++((if i+a.length=0 then [] else [betT k])++oneT k q)
 | [],i=>by rw[List.nil_append,kidT_cons];simp[kidT]
 | p::a,i=>by
  rw[List.cons_append,kidT_cons,kidT_snoc k q a (i+1),kidT_cons]
  have e:i+1+a.length=i+(p::a).length:=by simp;omega
  rw[e]
  simp only[List.append_assoc]
theorem kidT_take (k:Int) (ks:List Prd) (i:Nat) (q:Prd) (h:ks[i]?=some q):kidT k 0 (ks.take (i+1))=kidT k 0 (ks.take i)++((if i=0 then [] else [betT k])++oneT k q):=by
 have e:ks.take (i+1)=ks.take i++[q]:=by rw[List.take_add_one,h];rfl
 have hi:=(List.getElem?_eq_some_iff.1 h).1
 rw[e,kidT_snoc,List.length_take,Nat.min_eq_left (Nat.le_of_lt hi),Nat.zero_add]
theorem conT_len (r:List Nat) (c:Int):(conT r c).length≤2:=by unfold conT;split<;>(try split)<;>(try split)<;>simp
theorem atomT_len (l r:List Nat) (c:Int):(atomT l r c).length≤10:=by
 have h1:=attL_len l
 have h2:=attL_len r
 have h3:=conT_len r c
 have h4:(zerT l).length≤1:=by unfold zerT;split<;>simp
 unfold atomT
 simp only[List.length_append,List.length_singleton]
 omega
mutual
theorem prdT_len:∀ p:Prd,(prdT p).length+3≤16*cntP p
 | .mk k l r c ks=>by
  have h1:=atomT_len l r c
  have h2:=kidT_len k ks 0
  have h3:=kidT_len 3 ks 0
  rw[prdT,cntP]
  split
  ·omega
  ·split
   ·simp only[List.length_append,List.length_cons,List.length_nil];omega
   ·omega
theorem kidT_len (k:Int):∀ (ks:List Prd) (i:Nat),(kidT k i ks).length≤16*cntL ks
 | [],i=>by simp[kidT]
 | q::qs,i=>by
  have h1:=prdT_len q
  have h2:=kidT_len k qs (i+1)
  have h3:(if i=0 then [] else [betT k]).length≤1:=by split<;>simp
  have h4:(oneT k q).length≤(prdT q).length+2:=by unfold oneT;split<;>simp
  rw[kidT_cons,cntL]
  simp only[List.length_append]
  omega
end
theorem kidT_pre (k:Int) (ks:List Prd) (i:Nat) (q:Prd) (h:ks[i]?=some q):(kidT k 0 (ks.take i)).length+16*cntP q≤16*cntL ks:=by
 have h1:=kidT_len k (ks.take i) 0
 have h2:=cntL_take ks i q h
 have h3:cntL (ks.take (i+1))≤cntL ks:=by
  have:cntL ks=cntL (ks.take (i+1))+cntL (ks.drop (i+1)):=by rw[← cntL_append,List.take_append_drop]
  omega
 omega
end
section
open Go.RowKit Go.Sort
theorem results_pred (tmps:Array Value) (w:World):(results Tryz.f87 tmps).run Tryz.prog w = .ok (.tuple #[]) w:=results_none (by kernel_rfl) tmps _ w
theorem pred_door {R:Ending→World→Prop} {x:Exit} (hx:x = .ret∨x = .normal) (a:Act) (w:World) (hd:a.defers=[]) (hR:R (.returned (.tuple #[])) w):bodyPostD Tryz.prog Tryz.f87 R x a w:=by
 rcases hx with rfl | rfl <;>
 ·show Leaves _ _ a.tmps R a.defers _ w
  rw[hd]
  exact⟨_,results_pred _ _,hR⟩
theorem ppred_atom (w:World) (R B:Nat) (ao:Option Addr) (cap:Nat) (ss:List (List Nat)) (h:PrtS w R ao cap ss) (h8:6≤B) (hB:B≤w.heap.size) (hR:B≤R) (hr:∀ g,blk ao=some g→B≤g) (hp:Pow w)
  (κ:Int) (l r:List Nat) (c:Int) (ka:Option Addr) (n kc:Nat) (hκ:κ=0) (hl:optN l=true) (hrn:optN r=true) (hc:inC c=true) (hbig:ss.length≤990000) :
  Calls Tryz.prog 87 #[.pointer (some ⟨R,0,none⟩),.agg #[.int .i64 κ,.string (strN l),.string (strN r),.int .i64 c,.slice ka n kc]] w fun e w'=>e = .returned (.tuple #[])∧PutR w R ao (ss++atomT l r c) w':=by
 subst hκ
 have bx:=(Below.refl w.heap.size w).alloc (Nat.le_refl _) (.cells #[.int .i64 0,.string (strN l),.string (strN r),.int .i64 c,.slice ka n kc] 25)
 have P1:Hid (PW w R B ao (w.alloc (.cells #[.int .i64 0,.string (strN l),.string (strN r),.int .i64 c,.slice ka n kc] 25)) [(w.heap.size,25,[.int .i64 0,.string (strN l),.string (strN r),.int .i64 c,.slice ka n kc])] ss):=ħ ((PW.start h h8 hB hR hr hp).box bx w.heap.size 25 _ (Nat.le_refl _) (heap_alloc_new w _))
 have HAT:Hid (∀ W bs,PW w R B ao W bs ss→Calls Tryz.prog 150 #[.pointer (some ⟨R,0,none⟩),.agg #[.int .i64 0,.string (strN l),.string (strN r),.int .i64 c,.slice ka n kc]] W fun e w'=>e = .returned (.tuple #[])∧PW w R B ao w' bs (ss++atomT l r c)):=ħ (fun W bs hW=>hW.call (fun a1 c1 h1 h2=>patom_any W R B a1 c1 ss h1 hW.lo (Nat.le_trans hW.low hW.size) hW.loR h2 hW.pow 0 l r c ka n kc hl hrn hc hbig))
 clear bx hl hrn hc h hp hr
 generalize strN l=y1 at *
 generalize strN r=y2 at *
 have hmm:=@run_makeMap Tryz.prog
 go_enter_defers Tryz.func87,Tryz.ntmps87
 go_upto_region 1 with (fail)
 generalize w.alloc (.cells #[.int .i64 0,.string y1,.string y2,.int .i64 c,.slice ka n kc] 25)=w1 at *
 have x0:=(P1.o.has _ (List.mem_singleton.2 rfl)).cell 0 _ rfl
 obtain⟨M1,M2,M3,r1,r2,r3,hlk,hbm⟩:=lits_any w1
 have rk:=hlk 0 (by omega) (by omega)
 have P2:=ħ (P1.o.step hbm)
 have z0:=(P2.o.has _ (List.mem_singleton.2 rfl)).cell 0 _ rfl
 obtain⟨sb,hsb⟩:∃ sb,strN (betT 0)=sb:=⟨_,rfl⟩
 rw[hsb] at rk
 have HSB:=ħ hsb
 clear P1 hbm hlk hsb
 go_wp2_with (first | (refine wpList_load_wanted (by rfl) 25 (.tmp 3) rfl w.heap.size (by rfl) 25 #[.int .i64 0,.string y1,.string y2,.int .i64 c,.slice ka n kc] (0,0) _ (P2.o.has _ (List.mem_singleton.2 rfl)) Tryz.underlying25 rfl (inf_pred _ rfl) ?_))
 refine (HAT.o _ _ P2.o).mono ?_
 rintro e w3 ⟨rfl,p3⟩
 have P3:=ħ p3
 clear p3 P2 HAT z0 x0
 go_wp2
 exact pred_door (.inl rfl) _ _ rfl ⟨rfl,P3.o.done⟩
theorem ppred_list (w:World) (R B:Nat) (ao:Option Addr) (cap:Nat) (ss:List (List Nat)) (h:PrtS w R ao cap ss) (h8:6≤B) (hB:B≤w.heap.size) (hR:B≤R) (hr:∀ g,blk ao=some g→B≤g) (hp:Pow w)
  (κ:Int) (l r:List Nat) (c:Int) (ka:Option Addr) (n kc:Nat) (P:Nat→Prop) (ks:List Prd) (hn:n=ks.length) (hn2:n≤1000000) (hk:ks=[]∨∃ g off,ka=some ⟨g,off,none⟩∧P g∧g<w.heap.size∧KidsC w P ks g off) (hPB:∀ g,P g→g<B) (hbig:ss.length+16+16*cntL ks≤900000)
  (ih:∀ (q:Prd) (W:World) (a1:Option Addr) (c1:Nat) (ts:List (List Nat)) (vs:List Value),q∈ks→PrtS W R a1 c1 ts→B≤W.heap.size→(∀ g,blk a1=some g→B≤g)→Pow W→PredC W P q vs→ts.length+16*cntP q≤900000→Calls Tryz.prog 87 #[.pointer (some ⟨R,0,none⟩),.agg vs.toArray] W fun e w'=>e = .returned (.tuple #[])∧PutR W R a1 (ts++prdT q) w') (hκ:κ=1∨κ=2) :
  Calls Tryz.prog 87 #[.pointer (some ⟨R,0,none⟩),.agg #[.int .i64 κ,.string (strN l),.string (strN r),.int .i64 c,.slice ka n kc]] w fun e w'=>e = .returned (.tuple #[])∧PutR w R ao (ss++kidT κ 0 ks) w':=by
 have bx:=(Below.refl w.heap.size w).alloc (Nat.le_refl _) (.cells #[.int .i64 κ,.string (strN l),.string (strN r),.int .i64 c,.slice ka n kc] 25)
 have P1:Hid (PW w R B ao (w.alloc (.cells #[.int .i64 κ,.string (strN l),.string (strN r),.int .i64 c,.slice ka n kc] 25)) [(w.heap.size,25,[.int .i64 κ,.string (strN l),.string (strN r),.int .i64 c,.slice ka n kc])] ss):=ħ ((PW.start h h8 hB hR hr hp).box bx w.heap.size 25 _ (Nat.le_refl _) (heap_alloc_new w _))
 have HK:=ħ hk
 have HN:=ħ hn
 have HPB:=ħ hPB
 have IH:=ħ ih
 clear bx h hp hr hk hn hPB ih
 generalize strN l=y1 at *
 generalize strN r=y2 at *
 have hb1:-9223372036854775808≤κ∧κ≤9223372036854775807:=by omega
 have k0b:(κ==0)=false:=by rw[beq_eq_false_iff_ne];omega
 have k3b:(κ==3)=false:=by rw[beq_eq_false_iff_ne];omega
 have k3n:¬ κ=3:=by omega
 have k3n':(κ != 3)=true:=by rw[bne,k3b];rfl
 clear hκ
 have hmm:=@run_makeMap Tryz.prog
 go_enter_defers Tryz.func87,Tryz.ntmps87
 go_upto_region 1 with (fail)
 generalize w.alloc (.cells #[.int .i64 κ,.string y1,.string y2,.int .i64 c,.slice ka n kc] 25)=w1 at *
 have x0:=(P1.o.has _ (List.mem_singleton.2 rfl)).cell 0 _ rfl
 obtain⟨M1,M2,M3,r1,r2,r3,hlk,hbm⟩:=lits_any w1
 have rk:=hlk κ (by omega) (by omega)
 have P2:=ħ (P1.o.step hbm)
 have z0:=(P2.o.has _ (List.mem_singleton.2 rfl)).cell 0 _ rfl
 obtain⟨sb,hsb⟩:∃ sb,strN (betT κ)=sb:=⟨_,rfl⟩
 rw[hsb] at rk
 have HSB:=ħ hsb
 clear P1 hbm hlk hsb
 have z4:=(P2.o.has _ (List.mem_singleton.2 rfl)).cell 4 _ rfl
 go_wp2_with fail
 clear z0 x0 rk r1 r2 r3 z4
 go_loopw [32] (fun cc wr=>∃ (i:Nat),cc = .int .i64 i∧i≤n∧Hid (PW w R B ao wr [(w.heap.size,25,[.int .i64 κ,.string y1,.string y2,.int .i64 c,.slice ka n kc])] (ss++kidT κ 0 (ks.take i)))) (fun c _=>(n-intOf c).toNat)
 case atStart=>exact⟨0,rfl,by omega,ħ (by rw[List.take_zero];simpa [kidT] using P2.o)⟩
 case round =>
  clear P2
  obtain⟨i,rfl,hi,hq⟩:=hrel
  have e2:IntKind.i64.wrap ((i:Int)+1)=((i+1:Nat):Int):=IntWalk.i64_in _ (by omega)
  by_cases hlt:i<n
  ·have ii:(i:Int)<n:=by omega
   have HQ:Hid (∃ q,ks[i]?=some q∧∃ g off,ka=some ⟨g,off,none⟩∧P g∧∃ vs,PredC w P q vs∧Reads w g (off+i*5) vs):=ħ (by
    have hl:i<ks.length:=by rw[← HN.o];exact hlt
    refine⟨ks[i],List.getElem?_eq_getElem hl,?_⟩
    rcases HK.o with h | ⟨g,off,h1,h2,h3,h4⟩
    ·rw[h] at hl;exact absurd hl (Nat.not_lt_zero _)
    ·obtain⟨vs,hv1,hv2⟩:=KidsC.at ks g off i _ (List.getElem?_eq_getElem hl) h4
     exact⟨g,off,h1,h2,vs,hv1,hv2⟩)
   obtain⟨q,hqi,gk,off,hao,hPg,vs,hpc,hrd0⟩:=HQ.o
   clear HQ
   obtain⟨xa,xn,xc,hvf,-⟩:=hpc.form
   rw[hvf] at hrd0 hpc
   have hrd:=hrd0.of_block (hq.o.below.block gk (HPB.o gk hPg))
   have s0:=hrd 0 _ rfl
   have s1:=hrd 1 _ rfl
   have s2:=hrd 2 _ rfl
   have s3:=hrd 3 _ rfl
   have s4:=hrd 4 _ rfl
   rw[Nat.add_zero] at s0
   have HIQ:Hid (∀ W bs ts,PW w R B ao W bs ts→ts.length+16*cntP q≤900000→Calls Tryz.prog 87 #[.pointer (some ⟨R,0,none⟩),.agg #[.int .i64 q.k,.string (strN q.l),.string (strN q.r),.int .i64 q.c,.slice xa xn xc]] W fun e w'=>e = .returned (.tuple #[])∧PW w R B ao w' bs (ts++prdT q)):=ħ (fun W bs ts hW hb=>hW.call (fun a1 c1 h1 h2=>IH.o q W a1 c1 ts _ (List.mem_of_getElem? hqi) h1 (Nat.le_trans hW.low hW.size) h2 hW.pow (PredC.keep (fun g hg _=>hW.below.block g (HPB.o g hg)) hW.size (fun g hg _=>hg) _ _ hpc) hb))
   have HTK:Hid (kidT κ 0 (ks.take (i+1))=kidT κ 0 (ks.take i)++((if i=0 then [] else [betT κ])++oneT κ q)):=ħ (kidT_take κ ks i q hqi)
   have HBQ:Hid ((kidT κ 0 (ks.take i)).length+16*cntP q≤16*cntL ks):=ħ (kidT_pre κ ks i q hqi)
   have HON:Hid (parB κ q=true→oneT κ q=[[40]]++prdT q++[[41]]):=ħ (fun h=>by unfold oneT;rw[if_pos h])
   have HOF:Hid (parB κ q=false→oneT κ q=prdT q):=ħ (fun h=>by unfold oneT;rw[if_neg (by rw[h];simp)])
   have HPAR:Hid (parB κ q=((κ != 3)&&(q.k==1||q.k==2))):=ħ rfl
   have hpl:=prdT_len q
   clear hrd hrd0 hpc hvf vs hqi
   have HAO:=ħ hao
   subst hao
   generalize q.k=q0 at *
   generalize strN q.l=q1 at *
   generalize strN q.r=q2 at *
   generalize q.c=q3 at *
   have hbq:=HBQ.o
   go_upto_region 10 with (fail)
   have bx:=(Below.refl wr.heap.size wr).alloc (Nat.le_refl _) (.cells #[.int .i64 q0,.string q1,.string q2,.int .i64 q3,.slice xa xn xc] 25)
   have PX:=ħ (hq.o.box bx wr.heap.size 25 [.int .i64 q0,.string q1,.string q2,.int .i64 q3,.slice xa xn xc] (Nat.le_refl _) (heap_alloc_new wr _))
   have HTL:Hid ((ss++kidT κ 0 (ks.take i)).length+16*cntP q+8≤900000):=ħ (by simp only[List.length_append,List.length_cons,List.length_nil];omega)
   clear s0 s1 s2 s3 s4 bx hq
   generalize hA:wr.heap.size=A at *
   clear hA
   generalize wr.alloc (.cells #[.int .i64 q0,.string q1,.string q2,.int .i64 q3,.slice xa xn xc] 25)=wx at *
   generalize hTS:ss++kidT κ 0 (ks.take i)=TS at *
   have HTS:=ħ hTS
   clear hTS
   have htl:=HTL.o
   by_cases hi0:i=0
   ·have i0:¬ (0:Int)<(i:Int):=by omega
    have HTB:Hid (TS=ss++kidT κ 0 (ks.take i)++(if i=0 then [] else [betT κ])):=ħ (by rw[if_pos hi0,List.append_nil,HTS.o])
    clear hi0
    go_upto_region 12 with (fail)
    have PB:=PX
    clear PX
    generalize wx=wb at *
    have xk:=(PB.o.has _ (List.mem_cons_self ..)).cell 0 _ rfl
    have z0:=(PB.o.has (w.heap.size,25,[.int .i64 κ,.string y1,.string y2,.int .i64 c,.slice (some ⟨gk,off,none⟩) n kc]) (List.mem_cons_of_mem _ (List.mem_singleton.2 rfl))).cell 0 _ rfl
    by_cases h1:q0=1
    ·subst h1
     have HPT:Hid (parB κ q=true):=ħ (by rw[HPAR.o,k3n'];rfl)
     have hput:=ħ (PW.put [[40]] PB.o #[.string ⟨#[40]⟩] 1 1 rfl rfl (by omega))
     go_wp2_with fail
     refine hput.o.mono ?_
     rintro e w4 ⟨rfl,p4⟩
     have P4:=ħ p4
     clear p4 PB hput xk z0
     have HXB:Hid (HasV w4 A 25 [.int .i64 1,.string q1,.string q2,.int .i64 q3,.slice xa xn xc]):=ħ (P4.o.has _ (List.mem_cons_self ..))
     go_wp2_with (refine wpList_load_wanted (by rfl) 25 (.tmp 6) rfl A (by rfl) 25 #[.int .i64 1,.string q1,.string q2,.int .i64 q3,.slice xa xn xc] (0,0) _ HXB.o Tryz.underlying25 rfl (inf_pred _ rfl) ?_)
     refine (HIQ.o w4 _ _ P4.o (by rw[List.length_append,List.length_singleton];omega)).mono ?_
     rintro e w5 ⟨rfl,p5⟩
     have P5:=ħ p5
     clear p5 P4
     have hput:=ħ (PW.put [[41]] P5.o #[.string ⟨#[41]⟩] 1 1 rfl rfl (by rw[List.length_append,List.length_append,List.length_singleton];omega))
     go_wp2_with fail
     refine hput.o.mono ?_
     rintro e w6 ⟨rfl,p6⟩
     have P6:=ħ p6
     clear p6 P5 hput
     go_wp2
     go_roundw
     case rel=>exact⟨i+1,by go_num,by omega,ħ (by
      have:=P6.o.sub (bs':=[(w.heap.size,25,[.int .i64 κ,.string y1,.string y2,.int .i64 c,.slice (some ⟨gk,off,none⟩) n kc])]) (fun b hb=>List.mem_cons_of_mem _ hb)
      rw[HTK.o,HON.o HPT.o,← List.append_assoc,← List.append_assoc,← HTB.o]
      simpa only[List.append_assoc] using this)⟩
     case measure=>simp only[intOf];omega
    ·have h1b:(q0==1)=false:=beq_eq_false_iff_ne.mpr h1
     by_cases h2:q0=2
     ·subst h2
      have HPT:Hid (parB κ q=true):=ħ (by rw[HPAR.o,k3n'];rfl)
      have hput:=ħ (PW.put [[40]] PB.o #[.string ⟨#[40]⟩] 1 1 rfl rfl (by omega))
      go_wp2_with fail
      refine hput.o.mono ?_
      rintro e w4 ⟨rfl,p4⟩
      have P4:=ħ p4
      clear p4 PB hput xk z0
      have HXB:Hid (HasV w4 A 25 [.int .i64 2,.string q1,.string q2,.int .i64 q3,.slice xa xn xc]):=ħ (P4.o.has _ (List.mem_cons_self ..))
      go_wp2_with (refine wpList_load_wanted (by rfl) 25 (.tmp 6) rfl A (by rfl) 25 #[.int .i64 2,.string q1,.string q2,.int .i64 q3,.slice xa xn xc] (0,0) _ HXB.o Tryz.underlying25 rfl (inf_pred _ rfl) ?_)
      refine (HIQ.o w4 _ _ P4.o (by rw[List.length_append,List.length_singleton];omega)).mono ?_
      rintro e w5 ⟨rfl,p5⟩
      have P5:=ħ p5
      clear p5 P4
      have hput:=ħ (PW.put [[41]] P5.o #[.string ⟨#[41]⟩] 1 1 rfl rfl (by rw[List.length_append,List.length_append,List.length_singleton];omega))
      go_wp2_with fail
      refine hput.o.mono ?_
      rintro e w6 ⟨rfl,p6⟩
      have P6:=ħ p6
      clear p6 P5 hput
      go_wp2
      go_roundw
      case rel=>exact⟨i+1,by go_num,by omega,ħ (by
       have:=P6.o.sub (bs':=[(w.heap.size,25,[.int .i64 κ,.string y1,.string y2,.int .i64 c,.slice (some ⟨gk,off,none⟩) n kc])]) (fun b hb=>List.mem_cons_of_mem _ hb)
       rw[HTK.o,HON.o HPT.o,← List.append_assoc,← List.append_assoc,← HTB.o]
       simpa only[List.append_assoc] using this)⟩
      case measure=>simp only[intOf];omega
     ·have h2b:(q0==2)=false:=beq_eq_false_iff_ne.mpr h2
      have HPF:Hid (parB κ q=false):=ħ (by rw[HPAR.o,h1b,h2b,Bool.or_self,Bool.and_false])
      have HXB:Hid (HasV wb A 25 [.int .i64 q0,.string q1,.string q2,.int .i64 q3,.slice xa xn xc]):=ħ (PB.o.has _ (List.mem_cons_self ..))
      go_upto_region 16 with (fail)
      go_wp2_with (refine wpList_load_wanted (by rfl) 25 (.tmp 6) rfl A (by rfl) 25 #[.int .i64 q0,.string q1,.string q2,.int .i64 q3,.slice xa xn xc] (0,0) _ HXB.o Tryz.underlying25 rfl (inf_pred _ rfl) ?_)
      refine (HIQ.o wb _ _ PB.o (by omega)).mono ?_
      rintro e w5 ⟨rfl,p5⟩
      have P5:=ħ p5
      clear p5 PB xk z0
      go_wp2
      go_roundw
      case rel=>exact⟨i+1,by go_num,by omega,ħ (by
       have:=P5.o.sub (bs':=[(w.heap.size,25,[.int .i64 κ,.string y1,.string y2,.int .i64 c,.slice (some ⟨gk,off,none⟩) n kc])]) (fun b hb=>List.mem_cons_of_mem _ hb)
       rw[HTK.o,HOF.o HPF.o,← List.append_assoc,← List.append_assoc,← HTB.o]
       simpa only[List.append_assoc] using this)⟩
      case measure=>simp only[intOf];omega
   ·have i0:(0:Int)<(i:Int):=by omega
    have HTB:Hid (TS++[betT κ]=ss++kidT κ 0 (ks.take i)++(if i=0 then [] else [betT κ])):=ħ (by rw[if_neg hi0,HTS.o])
    have hput:=ħ (PW.put [betT κ] PX.o #[.string sb] 1 1 rfl (by rw[← HSB.o];rfl) (by omega))
    clear hi0
    go_wp2_with fail
    refine hput.o.mono ?_
    rintro e wb ⟨rfl,pb⟩
    have PB:=ħ pb
    clear pb PX hput
    have htl:(TS++[betT κ]).length+16*cntP q+7≤900000:=by rw[List.length_append,List.length_singleton];omega
    generalize TS++[betT κ]=TS2 at *
    go_upto_region 12 with (fail)
    have xk:=(PB.o.has _ (List.mem_cons_self ..)).cell 0 _ rfl
    have z0:=(PB.o.has (w.heap.size,25,[.int .i64 κ,.string y1,.string y2,.int .i64 c,.slice (some ⟨gk,off,none⟩) n kc]) (List.mem_cons_of_mem _ (List.mem_singleton.2 rfl))).cell 0 _ rfl
    by_cases h1:q0=1
    ·subst h1
     have HPT:Hid (parB κ q=true):=ħ (by rw[HPAR.o,k3n'];rfl)
     have hput:=ħ (PW.put [[40]] PB.o #[.string ⟨#[40]⟩] 1 1 rfl rfl (by omega))
     go_wp2_with fail
     refine hput.o.mono ?_
     rintro e w4 ⟨rfl,p4⟩
     have P4:=ħ p4
     clear p4 PB hput xk z0
     have HXB:Hid (HasV w4 A 25 [.int .i64 1,.string q1,.string q2,.int .i64 q3,.slice xa xn xc]):=ħ (P4.o.has _ (List.mem_cons_self ..))
     go_wp2_with (refine wpList_load_wanted (by rfl) 25 (.tmp 6) rfl A (by rfl) 25 #[.int .i64 1,.string q1,.string q2,.int .i64 q3,.slice xa xn xc] (0,0) _ HXB.o Tryz.underlying25 rfl (inf_pred _ rfl) ?_)
     refine (HIQ.o w4 _ _ P4.o (by rw[List.length_append,List.length_singleton];omega)).mono ?_
     rintro e w5 ⟨rfl,p5⟩
     have P5:=ħ p5
     clear p5 P4
     have hput:=ħ (PW.put [[41]] P5.o #[.string ⟨#[41]⟩] 1 1 rfl rfl (by rw[List.length_append,List.length_append,List.length_singleton];omega))
     go_wp2_with fail
     refine hput.o.mono ?_
     rintro e w6 ⟨rfl,p6⟩
     have P6:=ħ p6
     clear p6 P5 hput
     go_wp2
     go_roundw
     case rel=>exact⟨i+1,by go_num,by omega,ħ (by
      have:=P6.o.sub (bs':=[(w.heap.size,25,[.int .i64 κ,.string y1,.string y2,.int .i64 c,.slice (some ⟨gk,off,none⟩) n kc])]) (fun b hb=>List.mem_cons_of_mem _ hb)
      rw[HTK.o,HON.o HPT.o,← List.append_assoc,← List.append_assoc,← HTB.o]
      simpa only[List.append_assoc] using this)⟩
     case measure=>simp only[intOf];omega
    ·have h1b:(q0==1)=false:=beq_eq_false_iff_ne.mpr h1
     by_cases h2:q0=2
     ·subst h2
      have HPT:Hid (parB κ q=true):=ħ (by rw[HPAR.o,k3n'];rfl)
      have hput:=ħ (PW.put [[40]] PB.o #[.string ⟨#[40]⟩] 1 1 rfl rfl (by omega))
      go_wp2_with fail
      refine hput.o.mono ?_
      rintro e w4 ⟨rfl,p4⟩
      have P4:=ħ p4
      clear p4 PB hput xk z0
      have HXB:Hid (HasV w4 A 25 [.int .i64 2,.string q1,.string q2,.int .i64 q3,.slice xa xn xc]):=ħ (P4.o.has _ (List.mem_cons_self ..))
      go_wp2_with (refine wpList_load_wanted (by rfl) 25 (.tmp 6) rfl A (by rfl) 25 #[.int .i64 2,.string q1,.string q2,.int .i64 q3,.slice xa xn xc] (0,0) _ HXB.o Tryz.underlying25 rfl (inf_pred _ rfl) ?_)
      refine (HIQ.o w4 _ _ P4.o (by rw[List.length_append,List.length_singleton];omega)).mono ?_
      rintro e w5 ⟨rfl,p5⟩
      have P5:=ħ p5
      clear p5 P4
      have hput:=ħ (PW.put [[41]] P5.o #[.string ⟨#[41]⟩] 1 1 rfl rfl (by rw[List.length_append,List.length_append,List.length_singleton];omega))
      go_wp2_with fail
      refine hput.o.mono ?_
      rintro e w6 ⟨rfl,p6⟩
      have P6:=ħ p6
      clear p6 P5 hput
      go_wp2
      go_roundw
      case rel=>exact⟨i+1,by go_num,by omega,ħ (by
       have:=P6.o.sub (bs':=[(w.heap.size,25,[.int .i64 κ,.string y1,.string y2,.int .i64 c,.slice (some ⟨gk,off,none⟩) n kc])]) (fun b hb=>List.mem_cons_of_mem _ hb)
       rw[HTK.o,HON.o HPT.o,← List.append_assoc,← List.append_assoc,← HTB.o]
       simpa only[List.append_assoc] using this)⟩
      case measure=>simp only[intOf];omega
     ·have h2b:(q0==2)=false:=beq_eq_false_iff_ne.mpr h2
      have HPF:Hid (parB κ q=false):=ħ (by rw[HPAR.o,h1b,h2b,Bool.or_self,Bool.and_false])
      have HXB:Hid (HasV wb A 25 [.int .i64 q0,.string q1,.string q2,.int .i64 q3,.slice xa xn xc]):=ħ (PB.o.has _ (List.mem_cons_self ..))
      go_upto_region 16 with (fail)
      go_wp2_with (refine wpList_load_wanted (by rfl) 25 (.tmp 6) rfl A (by rfl) 25 #[.int .i64 q0,.string q1,.string q2,.int .i64 q3,.slice xa xn xc] (0,0) _ HXB.o Tryz.underlying25 rfl (inf_pred _ rfl) ?_)
      refine (HIQ.o wb _ _ PB.o (by omega)).mono ?_
      rintro e w5 ⟨rfl,p5⟩
      have P5:=ħ p5
      clear p5 PB xk z0
      go_wp2
      go_roundw
      case rel=>exact⟨i+1,by go_num,by omega,ħ (by
       have:=P5.o.sub (bs':=[(w.heap.size,25,[.int .i64 κ,.string y1,.string y2,.int .i64 c,.slice (some ⟨gk,off,none⟩) n kc])]) (fun b hb=>List.mem_cons_of_mem _ hb)
       rw[HTK.o,HOF.o HPF.o,← List.append_assoc,← List.append_assoc,← HTB.o]
       simpa only[List.append_assoc] using this)⟩
      case measure=>simp only[intOf];omega
  ·have ii:¬ ((i:Int)<n):=by omega
   have HT:Hid (ks.take i=ks):=ħ (by rw[show i=ks.length by rw[← HN.o];omega,List.take_length])
   go_wp2
   have hf:=hq.o.done
   rw[HT.o] at hf
   exact pred_door (by first | exact .inl rfl | exact .inr rfl) _ _ rfl ⟨rfl,hf⟩
end
section
open Go.RowKit Go.Sort
theorem pred_door3 {R:Ending→World→Prop} {x:Exit} (hx:x = .ret∨x = .normal) (a:Act) {w W:World} {R0 B G:Nat} {ao:Option Addr} {bs:List (Nat×TypeId×List Value)} {ts:List (List Nat)} (h:PW w R0 B ao W bs ts) (hG:(G,9,[.string ⟨#[41]⟩])∈bs) (hb:ts.length+1≤1000000)
  (hd:a.defers=[{ target:=.fn (.func 86) #[],args:=#[.pointer (some ⟨R0,0,none⟩),.slice (some ⟨G,0,none⟩) 1 1] }]) (hR:∀ w',PutR w R0 ao (ts++[[41]]) w'→R (.returned (.tuple #[])) w'):bodyPostD Tryz.prog Tryz.f87 R x a W:=by
 obtain⟨a1,c1,h1,h2,h3,h4⟩:=h.toks
 have hg:=h4 _ hG
 have key:Leaves Tryz.prog Tryz.f87 a.tmps R a.defers .returning W:=by
  rw[hd]
  refine leaves_cons (f:=86) (args:=#[.pointer (some ⟨R0,0,none⟩),.slice (some ⟨G,0,none⟩) 1 1]) (by simp) (by simp[go_sem]) ?_
  refine (put_atD W R0 a1 c1 ts [[41]] h1 G 1 1 rfl #[.string ⟨#[41]⟩] 9 hg.1 rfl hg.2.1 hg.2.2 hb .returning).mono ?_
  rintro e u' w' ⟨rfl,rfl,hp⟩
  show Leaves _ _ a.tmps R [] _ w'
  exact⟨_,results_pred _ _,hR w' (PutR.trans h2 h3 hp)⟩
 rcases hx with rfl | rfl<;>exact key
theorem ppred_least (w:World) (R B:Nat) (ao:Option Addr) (cap:Nat) (ss:List (List Nat)) (h:PrtS w R ao cap ss) (h8:6≤B) (hB:B≤w.heap.size) (hR:B≤R) (hr:∀ g,blk ao=some g→B≤g) (hp:Pow w)
  (l r:List Nat) (c:Int) (ka:Option Addr) (n kc:Nat) (P:Nat→Prop) (ks:List Prd) (hn:n=ks.length) (hn2:n≤1000000) (hk:ks=[]∨∃ g off,ka=some ⟨g,off,none⟩∧P g∧g<w.heap.size∧KidsC w P ks g off) (hPB:∀ g,P g→g<B) (hbig:ss.length+16+16*cntL ks≤900000)
  (ih:∀ (q:Prd) (W:World) (a1:Option Addr) (c1:Nat) (ts:List (List Nat)) (vs:List Value),q∈ks→PrtS W R a1 c1 ts→B≤W.heap.size→(∀ g,blk a1=some g→B≤g)→Pow W→PredC W P q vs→ts.length+16*cntP q≤900000→Calls Tryz.prog 87 #[.pointer (some ⟨R,0,none⟩),.agg vs.toArray] W fun e w'=>e = .returned (.tuple #[])∧PutR W R a1 (ts++prdT q) w') (hc:inC c=true) :
  Calls Tryz.prog 87 #[.pointer (some ⟨R,0,none⟩),.agg #[.int .i64 3,.string (strN l),.string (strN r),.int .i64 c,.slice ka n kc]] w fun e w'=>e = .returned (.tuple #[])∧PutR w R ao (ss++([[97,116],[108,101,97,115,116],itoaN c,[111,102],[40]]++kidT 3 0 ks++[[41]])) w':=by
 have bx:=(Below.refl w.heap.size w).alloc (Nat.le_refl _) (.cells #[.int .i64 3,.string (strN l),.string (strN r),.int .i64 c,.slice ka n kc] 25)
 have P1:Hid (PW w R B ao (w.alloc (.cells #[.int .i64 3,.string (strN l),.string (strN r),.int .i64 c,.slice ka n kc] 25)) [(w.heap.size,25,[.int .i64 3,.string (strN l),.string (strN r),.int .i64 c,.slice ka n kc])] ss):=ħ ((PW.start h h8 hB hR hr hp).box bx w.heap.size 25 _ (Nat.le_refl _) (heap_alloc_new w _))
 have HK:=ħ hk
 have HN:=ħ hn
 have HPB:=ħ hPB
 have IH:=ħ ih
 clear bx h hp hr hk hn hPB ih
 generalize strN l=y1 at *
 generalize strN r=y2 at *
 have hcc:-1099511627776≤c∧c<1099511627776:=by unfold inC at hc;simpa using hc
 clear hc
 have hmm:=@run_makeMap Tryz.prog
 go_enter_defers Tryz.func87,Tryz.ntmps87
 go_upto_region 1 with (fail)
 generalize w.alloc (.cells #[.int .i64 3,.string y1,.string y2,.int .i64 c,.slice ka n kc] 25)=w1 at *
 have x0:=(P1.o.has _ (List.mem_singleton.2 rfl)).cell 0 _ rfl
 obtain⟨M1,M2,M3,r1,r2,r3,hlk,hbm⟩:=lits_any w1
 have rk:=hlk 3 (by omega) (by omega)
 have P2:=ħ (P1.o.step hbm)
 have z0:=(P2.o.has _ (List.mem_singleton.2 rfl)).cell 0 _ rfl
 obtain⟨sb,hsb⟩:∃ sb,strN (betT 3)=sb:=⟨_,rfl⟩
 rw[hsb] at rk
 have HSB:=ħ hsb
 clear P1 hbm hlk hsb
 have z3:=(P2.o.has _ (List.mem_singleton.2 rfl)).cell 3 _ rfl
 have HIT:=ħ (itoa_any c (by omega) (by omega) M3 P2.o.pow)
 go_wp2_with fail
 refine HIT.o.mono ?_
 rintro e w4 ⟨rfl,b4⟩
 have P4:=ħ (P2.o.step b4)
 have HX:Hid (#[Value.string ⟨#[97,116]⟩,.string ⟨#[108,101,97,115,116]⟩,.string (strN (itoaN c)),.string ⟨#[111,102]⟩,.string ⟨#[40]⟩]=(([[97,116],[108,101,97,115,116],itoaN c,[111,102],[40]]:List (List Nat)).map (fun s=>Value.string (strN s))).toArray):=ħ rfl
 have hput:=ħ (PW.put [[97,116],[108,101,97,115,116],itoaN c,[111,102],[40]] P4.o #[.string ⟨#[97,116]⟩,.string ⟨#[108,101,97,115,116]⟩,.string (strN (itoaN c)),.string ⟨#[111,102]⟩,.string ⟨#[40]⟩] 5 5 rfl HX.o (by omega))
 clear b4 P2 z3 z0 HIT HX
 generalize strN (itoaN c)=yi at *
 go_wp2_with fail
 refine hput.o.mono ?_
 rintro e w5 ⟨rfl,p5⟩
 have P5:=ħ p5
 clear p5 P4 hput
 have bg:=(Below.refl w5.heap.size w5).alloc (Nat.le_refl _) (.cells #[.string ⟨#[41]⟩] 9)
 have P6:=ħ (P5.o.box bg w5.heap.size 9 [.string ⟨#[41]⟩] (Nat.le_refl _) (heap_alloc_new w5 _))
 clear bg P5
 go_upto_region 7 with (fail)
 generalize hG:w5.heap.size=G at *
 clear hG
 generalize w5.alloc (.cells #[.string ⟨#[41]⟩] 9)=w6 at *
 have z0:=(P6.o.has (w.heap.size,25,[.int .i64 3,.string y1,.string y2,.int .i64 c,.slice ka n kc]) (List.mem_cons_of_mem _ (List.mem_singleton.2 rfl))).cell 0 _ rfl
 have z4:=(P6.o.has (w.heap.size,25,[.int .i64 3,.string y1,.string y2,.int .i64 c,.slice ka n kc]) (List.mem_cons_of_mem _ (List.mem_singleton.2 rfl))).cell 4 _ rfl
 go_wp2_with fail
 clear z0 x0 rk r1 r2 r3 z4
 go_loopw [32] (fun cc wr=>∃ (i:Nat),cc = .int .i64 i∧i≤n∧Hid (PW w R B ao wr [(G,9,[.string ⟨#[41]⟩]),(w.heap.size,25,[.int .i64 3,.string y1,.string y2,.int .i64 c,.slice ka n kc])] ((ss++[[97,116],[108,101,97,115,116],itoaN c,[111,102],[40]])++kidT 3 0 (ks.take i)))) (fun c _=>(n-intOf c).toNat)
 case atStart=>exact⟨0,rfl,by omega,ħ (by rw[List.take_zero];simpa [kidT] using P6.o)⟩
 case round =>
  clear P6
  obtain⟨i,rfl,hi,hq⟩:=hrel
  have e2:IntKind.i64.wrap ((i:Int)+1)=((i+1:Nat):Int):=IntWalk.i64_in _ (by omega)
  by_cases hlt:i<n
  ·have ii:(i:Int)<n:=by omega
   have HQ:Hid (∃ q,ks[i]?=some q∧∃ g off,ka=some ⟨g,off,none⟩∧P g∧∃ vs,PredC w P q vs∧Reads w g (off+i*5) vs):=ħ (by
    have hl:i<ks.length:=by rw[← HN.o];exact hlt
    refine⟨ks[i],List.getElem?_eq_getElem hl,?_⟩
    rcases HK.o with h | ⟨g,off,h1,h2,h3,h4⟩
    ·rw[h] at hl;exact absurd hl (Nat.not_lt_zero _)
    ·obtain⟨vs,hv1,hv2⟩:=KidsC.at ks g off i _ (List.getElem?_eq_getElem hl) h4
     exact⟨g,off,h1,h2,vs,hv1,hv2⟩)
   obtain⟨q,hqi,gk,off,hao,hPg,vs,hpc,hrd0⟩:=HQ.o
   clear HQ
   obtain⟨xa,xn,xc,hvf,-⟩:=hpc.form
   rw[hvf] at hrd0 hpc
   have hrd:=hrd0.of_block (hq.o.below.block gk (HPB.o gk hPg))
   have s0:=hrd 0 _ rfl
   have s1:=hrd 1 _ rfl
   have s2:=hrd 2 _ rfl
   have s3:=hrd 3 _ rfl
   have s4:=hrd 4 _ rfl
   rw[Nat.add_zero] at s0
   have HIQ:Hid (∀ W bs ts,PW w R B ao W bs ts→ts.length+16*cntP q≤900000→Calls Tryz.prog 87 #[.pointer (some ⟨R,0,none⟩),.agg #[.int .i64 q.k,.string (strN q.l),.string (strN q.r),.int .i64 q.c,.slice xa xn xc]] W fun e w'=>e = .returned (.tuple #[])∧PW w R B ao w' bs (ts++prdT q)):=ħ (fun W bs ts hW hb=>hW.call (fun a1 c1 h1 h2=>IH.o q W a1 c1 ts _ (List.mem_of_getElem? hqi) h1 (Nat.le_trans hW.low hW.size) h2 hW.pow (PredC.keep (fun g hg _=>hW.below.block g (HPB.o g hg)) hW.size (fun g hg _=>hg) _ _ hpc) hb))
   have HTK:Hid (kidT 3 0 (ks.take (i+1))=kidT 3 0 (ks.take i)++((if i=0 then [] else [betT 3])++oneT 3 q)):=ħ (kidT_take 3 ks i q hqi)
   have HBQ:Hid ((kidT 3 0 (ks.take i)).length+16*cntP q≤16*cntL ks):=ħ (kidT_pre 3 ks i q hqi)
   have HON:Hid (parB 3 q=true→oneT 3 q=[[40]]++prdT q++[[41]]):=ħ (fun h=>by unfold oneT;rw[if_pos h])
   have HOF:Hid (parB 3 q=false→oneT 3 q=prdT q):=ħ (fun h=>by unfold oneT;rw[if_neg (by rw[h];simp)])
   have HPAR:Hid (parB 3 q=((3 != 3)&&(q.k==1||q.k==2))):=ħ rfl
   have hpl:=prdT_len q
   clear hrd hrd0 hpc hvf vs hqi
   have HAO:=ħ hao
   subst hao
   generalize q.k=q0 at *
   generalize strN q.l=q1 at *
   generalize strN q.r=q2 at *
   generalize q.c=q3 at *
   have hbq:=HBQ.o
   go_upto_region 10 with (fail)
   have bx:=(Below.refl wr.heap.size wr).alloc (Nat.le_refl _) (.cells #[.int .i64 q0,.string q1,.string q2,.int .i64 q3,.slice xa xn xc] 25)
   have PX:=ħ (hq.o.box bx wr.heap.size 25 [.int .i64 q0,.string q1,.string q2,.int .i64 q3,.slice xa xn xc] (Nat.le_refl _) (heap_alloc_new wr _))
   have HTL:Hid (((ss++[[97,116],[108,101,97,115,116],itoaN c,[111,102],[40]])++kidT 3 0 (ks.take i)).length+16*cntP q+8≤900000):=ħ (by simp only[List.length_append,List.length_cons,List.length_nil];omega)
   clear s0 s1 s2 s3 s4 bx hq
   generalize hA:wr.heap.size=A at *
   clear hA
   generalize wr.alloc (.cells #[.int .i64 q0,.string q1,.string q2,.int .i64 q3,.slice xa xn xc] 25)=wx at *
   generalize hTS:(ss++[[97,116],[108,101,97,115,116],itoaN c,[111,102],[40]])++kidT 3 0 (ks.take i)=TS at *
   have HTS:=ħ hTS
   clear hTS
   have htl:=HTL.o
   by_cases hi0:i=0
   ·have i0:¬ (0:Int)<(i:Int):=by omega
    have HTB:Hid (TS=(ss++[[97,116],[108,101,97,115,116],itoaN c,[111,102],[40]])++kidT 3 0 (ks.take i)++(if i=0 then [] else [betT 3])):=ħ (by rw[if_pos hi0,List.append_nil,HTS.o])
    clear hi0
    go_upto_region 12 with (fail)
    have PB:=PX
    clear PX
    generalize wx=wb at *
    have xk:=(PB.o.has _ (List.mem_cons_self ..)).cell 0 _ rfl
    have z0:=(PB.o.has (w.heap.size,25,[.int .i64 3,.string y1,.string y2,.int .i64 c,.slice (some ⟨gk,off,none⟩) n kc]) (List.mem_cons_of_mem _ (List.mem_cons_of_mem _ (List.mem_singleton.2 rfl)))).cell 0 _ rfl
    have HPF:Hid (parB 3 q=false):=ħ (by rw[HPAR.o];rfl)
    have HXB:Hid (HasV wb A 25 [.int .i64 q0,.string q1,.string q2,.int .i64 q3,.slice xa xn xc]):=ħ (PB.o.has _ (List.mem_cons_self ..))
    go_upto_region 16 with (fail)
    go_wp2_with (refine wpList_load_wanted (by rfl) 25 (.tmp 6) rfl A (by rfl) 25 #[.int .i64 q0,.string q1,.string q2,.int .i64 q3,.slice xa xn xc] (0,0) _ HXB.o Tryz.underlying25 rfl (inf_pred _ rfl) ?_)
    refine (HIQ.o wb _ _ PB.o (by omega)).mono ?_
    rintro e w5 ⟨rfl,p5⟩
    have P5:=ħ p5
    clear p5 PB xk z0
    go_wp2
    go_roundw
    case rel=>exact⟨i+1,by go_num,by omega,ħ (by
     have:=P5.o.sub (bs':=[(G,9,[.string ⟨#[41]⟩]),(w.heap.size,25,[.int .i64 3,.string y1,.string y2,.int .i64 c,.slice (some ⟨gk,off,none⟩) n kc])]) (fun b hb=>List.mem_cons_of_mem _ hb)
     rw[HTK.o,HOF.o HPF.o,← List.append_assoc,← List.append_assoc,← HTB.o]
     simpa only[List.append_assoc] using this)⟩
    case measure=>simp only[intOf];omega
   ·have i0:(0:Int)<(i:Int):=by omega
    have HTB:Hid (TS++[betT 3]=(ss++[[97,116],[108,101,97,115,116],itoaN c,[111,102],[40]])++kidT 3 0 (ks.take i)++(if i=0 then [] else [betT 3])):=ħ (by rw[if_neg hi0,HTS.o])
    have hput:=ħ (PW.put [betT 3] PX.o #[.string sb] 1 1 rfl (by rw[← HSB.o];rfl) (by omega))
    clear hi0
    go_wp2_with fail
    refine hput.o.mono ?_
    rintro e wb ⟨rfl,pb⟩
    have PB:=ħ pb
    clear pb PX hput
    have htl:(TS++[betT 3]).length+16*cntP q+7≤900000:=by rw[List.length_append,List.length_singleton];omega
    generalize TS++[betT 3]=TS2 at *
    go_upto_region 12 with (fail)
    have xk:=(PB.o.has _ (List.mem_cons_self ..)).cell 0 _ rfl
    have z0:=(PB.o.has (w.heap.size,25,[.int .i64 3,.string y1,.string y2,.int .i64 c,.slice (some ⟨gk,off,none⟩) n kc]) (List.mem_cons_of_mem _ (List.mem_cons_of_mem _ (List.mem_singleton.2 rfl)))).cell 0 _ rfl
    have HPF:Hid (parB 3 q=false):=ħ (by rw[HPAR.o];rfl)
    have HXB:Hid (HasV wb A 25 [.int .i64 q0,.string q1,.string q2,.int .i64 q3,.slice xa xn xc]):=ħ (PB.o.has _ (List.mem_cons_self ..))
    go_upto_region 16 with (fail)
    go_wp2_with (refine wpList_load_wanted (by rfl) 25 (.tmp 6) rfl A (by rfl) 25 #[.int .i64 q0,.string q1,.string q2,.int .i64 q3,.slice xa xn xc] (0,0) _ HXB.o Tryz.underlying25 rfl (inf_pred _ rfl) ?_)
    refine (HIQ.o wb _ _ PB.o (by omega)).mono ?_
    rintro e w5 ⟨rfl,p5⟩
    have P5:=ħ p5
    clear p5 PB xk z0
    go_wp2
    go_roundw
    case rel=>exact⟨i+1,by go_num,by omega,ħ (by
     have:=P5.o.sub (bs':=[(G,9,[.string ⟨#[41]⟩]),(w.heap.size,25,[.int .i64 3,.string y1,.string y2,.int .i64 c,.slice (some ⟨gk,off,none⟩) n kc])]) (fun b hb=>List.mem_cons_of_mem _ hb)
     rw[HTK.o,HOF.o HPF.o,← List.append_assoc,← List.append_assoc,← HTB.o]
     simpa only[List.append_assoc] using this)⟩
    case measure=>simp only[intOf];omega
  ·have ii:¬ ((i:Int)<n):=by omega
   have HT:Hid (ks.take i=ks):=ħ (by rw[show i=ks.length by rw[← HN.o];omega,List.take_length])
   go_wp2
   have hf:=hq.o
   rw[HT.o] at hf
   have hkl:=kidT_len 3 ks 0
   exact pred_door3 (by first | exact .inl rfl | exact .inr rfl) _ hf (List.mem_cons_self ..) (by simp only[List.length_append,List.length_cons,List.length_nil];omega) rfl (fun w' hw=>⟨rfl,by simpa only[List.append_assoc,List.cons_append,List.nil_append] using hw⟩)
end
section
open Go.RowKit Go.Sort
theorem ppred_any:∀ (N:Nat) (p:Prd) (w:World) (R B:Nat) (ao:Option Addr) (cap:Nat) (ss:List (List Nat)) (P:Nat→Prop) (vs:List Value),cntP p≤N→formP p=true→PrtS w R ao cap ss→6≤B→B≤w.heap.size→B≤R→(∀ g,blk ao=some g→B≤g)→Pow w→PredC w P p vs→(∀ g,P g→g<B)→ss.length+16*cntP p≤900000 →
  Calls Tryz.prog 87 #[.pointer (some ⟨R,0,none⟩),.agg vs.toArray] w fun e w'=>e = .returned (.tuple #[])∧PutR w R ao (ss++prdT p) w'
 | 0,p,w,R,B,ao,cap,ss,P,vs,hN,_,_,_,_,_,_,_,_,_,_=>by have:=cnt_pos p;omega
 | N+1,.mk κ l r c ks,w,R,B,ao,cap,ss,P,vs,hN,hf,h,h8,hB,hR,hr,hp,hpc,hPB,hbig=>by
  have hc1:cntP (.mk κ l r c ks)=1+cntL ks:=by unfold cntP;rfl
  have hl:=len_le_cntL ks
  unfold PredC at hpc
  obtain⟨ka,kc,rfl,hk⟩:=hpc
  by_cases hκ:κ=0
  ·unfold formP at hf
   rw[if_pos hκ] at hf
   simp only[Bool.and_eq_true] at hf
   have e:prdT (.mk κ l r c ks)=atomT l r c:=by rw[prdT,if_pos hκ]
   rw[e]
   exact ppred_atom w R B ao cap ss h h8 hB hR hr hp κ l r c ka ks.length kc hκ hf.1.1.2 hf.1.2 hf.2 (by omega)
  ·unfold formP at hf
   rw[if_neg hκ] at hf
   simp only[Bool.and_eq_true] at hf
   have hfk:=(formL_iff ks).1 hf.2
   have ih:∀ (q:Prd) (W:World) (a1:Option Addr) (c1:Nat) (ts:List (List Nat)) (vs:List Value),q∈ks→PrtS W R a1 c1 ts→B≤W.heap.size→(∀ g,blk a1=some g→B≤g)→Pow W→PredC W P q vs→ts.length+16*cntP q≤900000→Calls Tryz.prog 87 #[.pointer (some ⟨R,0,none⟩),.agg vs.toArray] W fun e w'=>e = .returned (.tuple #[])∧PutR W R a1 (ts++prdT q) w' :=
    fun q W a1 c1 ts vs hq h1 h2 h3 h4 h5 h6=>ppred_any N q W R B a1 c1 ts P vs (by
     obtain⟨i,hi⟩:=List.mem_iff_getElem?.1 hq
     have:=cnt_kid ks i q hi
     omega) (hfk q hq) h1 h8 h2 hR h3 h4 h5 hPB h6
   have hlb:=hf.1.1.1
   by_cases h3:κ=3
   ·have e:prdT (.mk κ l r c ks)=[[97,116],[108,101,97,115,116],itoaN c,[111,102],[40]]++kidT 3 0 ks++[[41]]:=by rw[prdT,if_neg hκ,if_pos h3]
    rw[e]
    subst h3
    have hc:inC c=true:=by
     unfold listB at hlb
     simp at hlb
     unfold inC
     simp
     omega
    exact ppred_least w R B ao cap ss h h8 hB hR hr hp l r c ka ks.length kc P ks rfl (by omega) hk hPB (by omega) ih hc
   ·have e:prdT (.mk κ l r c ks)=kidT κ 0 ks:=by rw[prdT,if_neg hκ,if_neg h3]
    rw[e]
    have h12:κ=1∨κ=2:=by
     unfold listB at hlb
     simp[h3] at hlb
     exact hlb.1.1
    exact ppred_list w R B ao cap ss h h8 hB hR hr hp κ l r c ka ks.length kc P ks rfl (by omega) hk hPB (by omega) ih h12
end
section
open Go.RowKit Go.Sort
def joinT:List (List Nat)→List Nat
 | []=>[]
 | [s]=>s
 | s::ss=>s++32::joinT ss
def strC (ss:List (List Nat)):List Value:=ss.map (fun s=>Value.string (strN s))
theorem sg_cells {w:World} {g off:Nat} {ss:List (List Nat)} (h:Reads w g off (ss.flatMap sgC)) (i:Nat) (s:List Nat) (hs:ss[i]?=some s):Reads w g (off+i*4) [.int .i64 3,.string (strN s),.int .i64 0,.int .i64 0]:=fun j u hj=>by
 have hj4:j<4:=(List.getElem?_eq_some_iff.1 hj).1
 have:=h (i*4+j) u (by rw[flatK_at sgC 4 sgC_len ss i j s hs hj4];exact hj)
 rwa [← Nat.add_assoc] at this
theorem strN_dataL (s:List Nat):(strN s).data.toList=s.map UInt8.ofNat:=by simp[strN]
theorem join_T:∀ ss:List (List Nat),Lib.join (ss.map (fun s=>s.map UInt8.ofNat)) [32]=(joinT ss).map UInt8.ofNat
 | []=>rfl
 | [s]=>by rw[List.map_cons,List.map_nil,Lib.join_one,joinT]
 | s::t::r=>by
  have h:=join_T (t::r)
  rw[List.map_cons,Lib.join_cons] at h
  rw[List.map_cons,List.map_cons,Lib.join_cons,joinT,List.map_append,List.map_cons,← h]
  ·simp[Lib.joinTail]
  ·simp
theorem join_str (ss:List (List Nat)):(⟨(Lib.join ((ss.map strN).map (·.data.toList)) (⟨#[32]⟩:ByteArray).data.toList).toArray⟩:ByteArray)=strN (joinT ss):=by
 have e:(ss.map strN).map (·.data.toList)=ss.map (fun s=>s.map UInt8.ofNat):=by rw[List.map_map];exact List.map_congr_left (fun s _=>strN_dataL s)
 rw[e,show (⟨#[32]⟩:ByteArray).data.toList=[32] from rfl,join_T]
 rfl
theorem bprint_any (w:World) (ss:List (List Nat)) (g off n cap:Nat) (hn:n=ss.length) (hn0:0<n) (hbig:n≤1000000) (hg:g<w.heap.size) (hr:Reads w g off (ss.flatMap sgC)) (hlen:(joinT ss).length≤140737488355328) :
  Calls Tryz.prog 88 #[.slice (some ⟨g,off,none⟩) n cap] w fun e w'=>e = .returned (.string (strN (joinT ss)))∧Below w.heap.size w w':=by
 have HN:=ħ hn
 have HR:=ħ hr
 have R0:Hid (OwnK w w.heap.size 1 0 0 (strC (ss.take 0)) none):=ħ (.nil rfl rfl rfl)
 have B0:=ħ (Below.refl w.heap.size w)
 have HJ:=ħ hlen
 clear hn hr hlen
 go_enter Tryz.func88,Tryz.ntmps88
 go_wp2_with fail
 go_loopw [3,8] (fun c1 c2 wr=>∃ (i:Nat) (ao:Option Addr) (cp:Nat),c1 = .slice ao i cp∧c2 = .int .i64 i∧i≤n∧Hid (OwnK wr w.heap.size 1 i cp (strC (ss.take i)) ao)∧Hid (Below w.heap.size w wr)) (fun _ c2 _=>(n-intOf c2).toNat)
 case atStart=>exact⟨0,none,0,rfl,rfl,by omega,R0,B0⟩
 case round =>
  clear R0 B0
  obtain⟨i,ao,cp,rfl,rfl,hi,ho,hw⟩:=hrel
  have e2:IntKind.i64.wrap ((i:Int)+1)=((i+1:Nat):Int):=IntWalk.i64_in _ (by omega)
  by_cases hlt:i<n
  ·have ii:(i:Int)<n:=by omega
   have HX:Hid (∃ s,ss[i]?=some s):=ħ ⟨_,List.getElem?_eq_getElem (by rw[← HN.o];exact hlt)⟩
   obtain⟨s,hs⟩:=HX.o
   have hrd:=(sg_cells HR.o i s hs).of_block (hw.o.block g hg)
   have s0:=hrd 0 _ rfl
   have s1:=hrd 1 _ rfl
   have s2:=hrd 2 _ rfl
   have s3:=hrd 3 _ rfl
   rw[Nat.add_zero] at s0
   have HTK:Hid (strC (ss.take (i+1))=strC (ss.take i)++[.string (strN s)]):=ħ (by unfold strC;rw[List.take_add_one,hs,List.map_append];rfl)
   clear hrd hs HX
   generalize strN s=y at *
   have bx:=(Below.refl wr.heap.size wr).alloc (Nat.le_refl _) (.cells #[.int .i64 3,.string y,.int .i64 0,.int .i64 0] 169)
   have hw1:=ħ (hw.o.trans (bx.mono hw.o.size))
   have ho1:=ħ (ho.o.below bx)
   have Y1:Hid (HasV (wr.alloc (.cells #[.int .i64 3,.string y,.int .i64 0,.int .i64 0] 169)) wr.heap.size 169 [.int .i64 3,.string y,.int .i64 0,.int .i64 0]):=ħ (heap_alloc_new wr _)
   clear bx hw ho
   go_upto_region 5 with (fail)
   generalize hA:wr.heap.size=A at *
   clear hA s0 s1 s2 s3
   generalize wr.alloc (.cells #[.int .i64 3,.string y,.int .i64 0,.int .i64 0] 169)=wx at *
   have y0:=Y1.o.cell 0 _ rfl
   have y1:=Y1.o.cell 1 _ rfl
   go_wp2_with (at_builtin;refine app_k 59 9 (.string ⟨#[]⟩) 1 16 Tryz.underlying59 info_str rfl (by omega) (by omega) wx w.heap.size rfl (.tmp 19) (.tmp 22) rfl ao cp i (strC (ss.take i)) ?q1 ho1.o hw1.o.size 1 1 #[.string y] 9 ?q2 rfl (by omega) ?q3 ?q4 ?_;(case q1=>rfl);(case q2=>rfl);(case q3=>intro u hu;simp at hu;subst hu;rfl);(case q4=>omega);intro g5 off5 c5 wa o8 gr8 b8 or8;have O8:=ħ o8;have B8:=ħ (hw1.o.trans b8);clear o8 gr8 b8 or8)
   go_roundw
   case rel=>exact⟨i+1,some ⟨g5,off5,none⟩,c5,rfl,by go_num,by omega,ħ (by rw[HTK.o];exact O8.o),B8⟩
   case measure=>simp only[intOf];omega
  ·have ii:¬ ((i:Int)<n):=by omega
   have HT:Hid (ss.take i=ss):=ħ (by rw[show i=ss.length by rw[← HN.o];omega,List.take_length])
   have hoo:=ho.o
   rw[HT.o] at hoo
   have hin:i=n:=by omega
   subst hin
   obtain⟨g7,off7,rfl,hg7,hc7,hcap⟩:∃ g7 off7,ao=some ⟨g7,off7,none⟩∧g7<wr.heap.size∧(∀ j u,(strC ss)[j]?=some u→wr.cell? ⟨g7,off7+j,none⟩=some u)∧i≤cp:=by
    cases hoo with
    | nil h1 h2 h3=>omega
    | «at» g7 off7 h1 h2 h3 h4=>exact⟨g7,off7,rfl,h1.lt,h1.cells,h4⟩
   have hlj:(Lib.join ((ss.map strN).map (·.data.toList)) (⟨#[32]⟩:ByteArray).data.toList).length≤140737488355328:=by
    have e:(ss.map strN).map (·.data.toList)=ss.map (fun s=>s.map UInt8.ofNat):=by rw[List.map_map];exact List.map_congr_left (fun s _=>strN_dataL s)
    rw[e,show (⟨#[32]⟩:ByteArray).data.toList=[32] from rfl,join_T,List.length_map]
    exact HJ.o
   have HC:=ħ (Tryz.strings_Join g7 off7 cp (ss.map strN) ⟨#[32]⟩ wr (fun j x hx=>hc7 j _ (by unfold strC;rw[List.getElem?_map] at hx ⊢;cases hj:ss[j]? with | none=>rw[hj] at hx;cases hx | some s=>rw[hj] at hx;simp at hx;rw[← hx];rfl)) hg7 (by rw[List.length_map,← HN.o];omega) (by rw[List.length_map,← HN.o];exact hcap) hlj)
   rw[join_str,List.length_map,← HN.o] at HC
   clear hc7 hoo hlj ho HT HJ
   go_wp2_with fail
   refine HC.o.mono ?_
   rintro e w9 ⟨rfl,b9⟩
   have B9:=ħ (hw.o.trans (b9.mono hw.o.size))
   clear b9 HC
   go_wp2
   go_ret
   exact⟨rfl,B9.o⟩
end
section
open Go.RowKit Go.Sort
theorem joinT_len (M:Nat):∀ ss:List (List Nat),(∀ s∈ss,s.length≤M)→(joinT ss).length≤ss.length*(M+1)
 | [],_=>by simp[joinT]
 | [s],h=>by
  have:=h s (by simp)
  rw[joinT,List.length_singleton]
  omega
 | s::t::r,h=>by
  have h1:=h s (by simp)
  have h2:=joinT_len M (t::r) (fun x hx=>h x (by simp[hx]))
  rw[joinT]
  ·rw[List.length_append,List.length_cons,List.length_cons,Nat.add_mul]
   omega
  ·simp
theorem decDigits_len:∀ (k u:Nat),u<10^(k+1)→(Lib.decDigits u).length≤k+1
 | 0,u,h=>by
  rw[Lib.decDigits,dif_pos (by simpa using h)]
  simp
 | k+1,u,h=>by
  rw[Lib.decDigits]
  split
  ·simp
  ·have:=decDigits_len k (u/10) (by rw[Nat.pow_succ] at h;omega)
   rw[List.length_append,List.length_singleton]
   omega
theorem itoaN_len (c:Int) (h0:-1099511627777≤c) (h1:c≤1099511627777):(itoaN c).length≤20:=by
 have h2:=decDigits_len 12 c.natAbs (by omega)
 have h3:=decDigits_len 12 c.toNat (by omega)
 unfold itoaN Lib.itoa
 rw[List.length_map]
 split
 ·rw[List.length_cons];omega
 ·omega
theorem optN_len {l:List Nat} (h:optN l=true):l.length≤41:=(optN_ok h).2
theorem attL_lens {l:List Nat} (h:optN l=true):∀ s∈attL l,s.length≤60:=by
 have hl:=optN_len h
 intro s hs
 unfold attL attT at hs
 split at hs
 ·exact absurd hs List.not_mem_nil
 ·simp at hs
  rcases hs with rfl | rfl | rfl<;>simp<;>omega
theorem atomT_lens {l r:List Nat} {c:Int} (hl:optN l=true) (hr:optN r=true) (hc:inC c=true):∀ s∈atomT l r c,s.length≤60:=by
 have hcc:-1099511627776≤c∧c<1099511627776:=by unfold inC at hc;simpa using hc
 have h1:=itoaN_len c (by omega) (by omega)
 have h2:=itoaN_len (-c) (by omega) (by omega)
 intro s hs
 unfold atomT at hs
 simp only[List.mem_append] at hs
 rcases hs with (((hs | hs) | hs) | hs) | hs
 ·unfold zerT at hs
  split at hs
  ·simp at hs;rw[hs];simp
  ·exact absurd hs List.not_mem_nil
 ·exact attL_lens hl s hs
 ·simp at hs;rw[hs];simp
 ·exact attL_lens hr s hs
 ·unfold conT at hs
  split at hs
  ·simp at hs
   rcases hs with rfl | rfl
   ·simp
   ·omega
  ·split at hs
   ·simp at hs;rw[hs];omega
   ·split at hs
    ·simp at hs
     rcases hs with rfl | rfl
     ·simp
     ·omega
    ·exact absurd hs List.not_mem_nil
theorem betT_len (k:Int):(betT k).length≤60:=by unfold betT;split<;>(try split)<;>(try split)<;>simp
mutual
theorem prdT_lens:∀ p:Prd,formP p=true→cntP p≤1000000→∀ s∈prdT p,s.length≤60
 | .mk k l r c ks,hf,hN,s,hs=>by
  have hN2:cntL ks≤1000000:=by unfold cntP at hN;omega
  have hlc:=len_le_cntL ks
  unfold formP at hf
  by_cases h0:k=0
  ·rw[if_pos h0] at hf
   simp only[Bool.and_eq_true] at hf
   rw[prdT,if_pos h0] at hs
   exact atomT_lens hf.1.1.2 hf.1.2 hf.2 s hs
  ·rw[if_neg h0] at hf
   simp only[Bool.and_eq_true] at hf
   have hlb:=hf.1.1.1
   by_cases h3:k=3
   ·rw[prdT,if_neg h0,if_pos h3] at hs
    have hc:1≤c∧c≤(ks.length:Int):=by
     unfold listB at hlb
     simp[h3] at hlb
     exact hlb
    have h1:=itoaN_len c (by omega) (by omega)
    simp only[List.mem_append,List.mem_cons,List.not_mem_nil,or_false] at hs
    rcases hs with (hs | hs) | hs
    ·rcases hs with hs | hs | hs | hs | hs<;>rw[hs]
     ·simp
     ·simp
     ·omega
     ·simp
     ·simp
    ·exact kidT_lens 3 ks hf.2 hN2 0 s hs
    ·rw[hs];simp
   ·rw[prdT,if_neg h0,if_neg h3] at hs
    exact kidT_lens k ks hf.2 hN2 0 s hs
theorem kidT_lens (k:Int):∀ (ks:List Prd),formL ks=true→cntL ks≤1000000→∀ (i:Nat),∀ s∈kidT k i ks,s.length≤60
 | [],_,_,i,s,hs=>by rw[kidT] at hs;exact absurd hs List.not_mem_nil
 | q::qs,hf,hN,i,s,hs=>by
  have hN2:cntP q≤1000000∧cntL qs≤1000000:=by unfold cntL at hN;omega
  unfold formL at hf
  rw[Bool.and_eq_true] at hf
  rw[kidT_cons] at hs
  rcases List.mem_append.1 hs with hs | hs
  ·split at hs
   ·exact absurd hs List.not_mem_nil
   ·simp at hs;rw[hs];exact betT_len k
  ·rcases List.mem_append.1 hs with hs | hs
   ·unfold oneT at hs
    split at hs
    ·simp only[List.mem_append,List.mem_singleton] at hs
     rcases hs with (hs | hs) | hs
     ·rw[hs];simp
     ·exact prdT_lens q hf.1 hN2.1 s hs
     ·rw[hs];simp
    ·exact prdT_lens q hf.1 hN2.1 s hs
   ·exact kidT_lens k qs hf.2 hN2.2 (i+1) s hs
end
def qstT (name:List Nat) (p:Prd):List (List Nat):=[[113,117,101,115,116,105,111,110],name,[123]]++prdT p++[[125]]
def qstL (name:List Nat) (p:Prd):List Nat:=joinT (qstT name p)
def prnP (name:List Nat) (p:Prd):Option (List Nat):=if (freeB name&&validP p)=true then (if (qstL name p).length≤4000 then some (qstL name p) else none) else none
theorem qstL_len {name:List Nat} {p:Prd} (hn:name.length≤60) (hf:formP p=true) (hN:cntP p≤1000000):(qstL name p).length≤140737488355328:=by
 have h1:=joinT_len 60 (qstT name p) (fun s hs=>by
  unfold qstT at hs
  simp only[List.mem_append,List.mem_cons,List.not_mem_nil,or_false] at hs
  rcases hs with (hs | hs) | hs
  ·rcases hs with rfl | rfl | rfl
   ·simp
   ·exact hn
   ·simp
  ·exact prdT_lens p hf hN s hs
  ·rw[hs];simp)
 have h2:=prdT_len p
 have h3:(qstT name p).length=(prdT p).length+4:=by unfold qstT;simp
 unfold qstL
 rw[h3] at h1
 omega
end
section
open Go.RowKit Go.Sort
def prnV (r:Option (List Nat)):Value:=match r with
 | some s=>.tuple #[.string (strN s),.bool true]
 | none=>.tuple #[.string ⟨#[]⟩,.bool false]
theorem free_len {l:List Nat} (h:freeB l=true):l.length≤20:=(name_byte (l:=l) (by unfold freeB at h;simp at h;exact h.1)).2
theorem PW.row_toks {w W:World} {R B:Nat} {ao:Option Addr} {bs:List (Nat×TypeId×List Value)} {ts:List (List Nat)} (h:PW w R B ao W bs ts) (hn:0<ts.length) :
  ∃ g off cap,W.cell? ⟨R,0,none⟩=some (.slice (some ⟨g,off,none⟩) ts.length cap)∧g<W.heap.size∧Reads W g off (ts.flatMap sgC):=by
 obtain⟨a1,c1,h1,h2,h3,h4⟩:=h.toks
 have ho:=h1.own
 have hb:=h1.blk.cell 0 _ rfl
 cases ho with
 | nil e1 e2 e3=>omega
 | «at» g off k1 k2 k3 k4=>exact⟨g,off,c1,hb,k1.lt,fun j u hj=>k1.cells j u hj⟩
theorem print_any (w:World) (B:Nat) (name:List Nat) (p:Prd) (P:Nat→Prop) (vs:List Value) (hT:Tab w B) (hp:Pow w) (hn:name.length≤1000000) (hnb:∀ y∈name,y<256) (hb:BytP p) (hN:cntP p≤1000000) (h:PredC w P p vs) (hP:∀ g,P g→g<w.heap.size) :
  Calls Tryz.prog 24 #[.string (strN name),.agg vs.toArray] w fun e w'=>e = .returned (prnV (prnP name p))∧Below w.heap.size w w':=by
 obtain⟨xa,xn,xc,rfl,-⟩:=h.form
 have bx:=(Below.refl w.heap.size w).alloc (Nat.le_refl _) (.cells #[.int .i64 p.k,.string (strN p.l),.string (strN p.r),.int .i64 p.c,.slice xa xn xc] 25)
 have B1:=ħ bx
 have X1:Hid (HasV (w.alloc (.cells #[.int .i64 p.k,.string (strN p.l),.string (strN p.r),.int .i64 p.c,.slice xa xn xc] 25)) w.heap.size 25 [.int .i64 p.k,.string (strN p.l),.string (strN p.r),.int .i64 p.c,.slice xa xn xc]):=ħ (heap_alloc_new w _)
 have HFR:=ħ (fun W (hW:Below w.heap.size w W)=>free_any name W B (TabIn.step (w:=w) hT hW) hn hnb)
 have HVP:=ħ (fun W (hW:Below w.heap.size w W)=>vpred_any p W P _ B hN hb (h.below hW) (TabIn.step (w:=w) hT hW))
 have HPC:=ħ (fun W (hW:Below w.heap.size w W)=>h.below hW)
 have HP:=ħ hP
 have HPW:=ħ (fun W (hW:Below w.heap.size w W)=>hp.keep (hW.block _ (by show 3<w.heap.size;have:=hT.low;have:=hT.size;omega)))
 have HSZ:Hid (6≤w.heap.size):=ħ (by have:=hT.low;have:=hT.size;omega)
 have HNN:=ħ hN
 have HFL:Hid (freeB name=true→name.length≤20):=ħ free_len
 have HQ:Hid (prnP name p=if (freeB name&&validP p)=true then (if (qstL name p).length≤4000 then some (qstL name p) else none) else none):=ħ rfl
 obtain⟨V,hV⟩:∃ V,prnP name p=V:=⟨_,rfl⟩
 rw[hV] at HQ ⊢
 clear bx h hT hb hN hV hP hp hn hnb
 obtain⟨fv,hfv⟩:∃ fv,freeB name=fv:=⟨_,rfl⟩
 obtain⟨vv,hvv⟩:∃ vv,validP p=vv:=⟨_,rfl⟩
 have HVV:=ħ hvv
 rw[hfv,hvv] at HQ
 rw[hfv] at HFL HFR
 rw[hvv] at HVP
 clear hfv hvv
 have HNM:Hid (∃ y,strN name=y):=ħ ⟨_,rfl⟩
 generalize hk:p.k=q0 at *
 generalize strN p.l=q1 at *
 generalize strN p.r=q2 at *
 generalize p.c=q3 at *
 clear hk
 go_enter Tryz.func24,Tryz.ntmps24
 go_upto_region 1 with (fail)
 generalize w.alloc (.cells #[.int .i64 q0,.string q1,.string q2,.int .i64 q3,.slice xa xn xc] 25)=w1 at *
 go_wp2_with fail
 refine (HFR.o w1 B1.o).mono ?_
 rintro e w2 ⟨rfl,rfl⟩
 cases fv with
 | false =>
  have HX:Hid (V=none):=ħ (by rw[HQ.o];rfl)
  go_wp2
  go_ret2
  exact⟨by rw[HX.o];rfl,B1.o⟩
 | true =>
  go_wp2_with (refine wpList_load_wanted (by rfl) 25 (.tmp 3) rfl w.heap.size (by rfl) 25 #[.int .i64 q0,.string q1,.string q2,.int .i64 q3,.slice xa xn xc] (0,0) _ X1.o Tryz.underlying25 rfl (inf_pred _ rfl) ?_)
  refine (HVP.o w1 B1.o).mono ?_
  rintro e w2 ⟨rfl,b2⟩
  have B2:=ħ (B1.o.trans (b2.mono B1.o.size))
  have X2:=ħ (X1.o.step b2)
  clear b2 HVP B1 X1
  cases vv with
  | false =>
   have HX:Hid (V=none):=ħ (by rw[HQ.o];rfl)
   go_wp2
   go_ret2
   exact⟨by rw[HX.o];rfl,B2.o⟩
  | true =>
   have HQ2:Hid (V=if (qstL name p).length≤4000 then some (qstL name p) else none):=ħ (by rw[HQ.o];rfl)
   have hnl:=HFL.o (by simp)
   have hfm:Hid (formP p=true∧cntP p≤100):=ħ (by have:=HVV.o;unfold validP smallP at this;simp at this;exact⟨this.2,this.1.1⟩)
   clear HQ HFL HFR HVV
   have bx:=(Below.refl w2.heap.size w2).alloc (Nat.le_refl _) (.cells #[.slice none 0 0] 116)
   have P3:Hid (PW (w2.alloc (.cells #[.slice none 0 0] 116)) w2.heap.size w2.heap.size none (w2.alloc (.cells #[.slice none 0 0] 116)) [] []):=ħ (PW.start (cap:=0) ⟨heap_alloc_new w2 _,.nil rfl rfl rfl,fun e=>by cases e⟩ (Nat.le_trans HSZ.o B2.o.size) bx.size (Nat.le_refl _) (fun g e=>by cases e) (HPW.o _ (B2.o.trans (bx.mono B2.o.size))))
   have B3:=ħ (B2.o.trans (bx.mono B2.o.size))
   have X3:=ħ (X2.o.step bx)
   have HRL:Hid (w.heap.size≤w2.heap.size):=ħ B2.o.size
   have HRX:Hid (w.heap.size<w2.heap.size):=ħ X2.o.lt
   go_upto_region 4 with (fail)
   generalize hR:w2.heap.size=R at *
   clear hR bx
   generalize hw3:w2.alloc (.cells #[.slice none 0 0] 116)=w3 at *
   clear hw3
   have HX:Hid (#[Value.string ⟨#[113,117,101,115,116,105,111,110]⟩,.string (strN name),.string ⟨#[123]⟩]=(([[113,117,101,115,116,105,111,110],name,[123]]:List (List Nat)).map (fun s=>Value.string (strN s))).toArray):=ħ rfl
   have hput:=ħ (PW.put [[113,117,101,115,116,105,111,110],name,[123]] P3.o #[.string ⟨#[113,117,101,115,116,105,111,110]⟩,.string (strN name),.string ⟨#[123]⟩] 3 3 rfl HX.o (by simp))
   clear HX
   go_wp2_with fail
   refine hput.o.mono ?_
   rintro e w4 ⟨rfl,p4⟩
   have P4:=ħ p4
   have X4:=ħ (X3.o.below p4.below HRX.o)
   have B4:=ħ (show Below w.heap.size w w4 from B3.o.trans (p4.below.mono HRL.o))
   clear p4 P3 X3 X2 hput
   have hprd:=ħ (P4.o.call (f:=87) (args:=#[.pointer (some ⟨R,0,none⟩),.agg #[.int .i64 q0,.string q1,.string q2,.int .i64 q3,.slice xa xn xc]]) (ts':=[]++[[113,117,101,115,116,105,111,110],name,[123]]++prdT p) (fun a1 c1 h1 h2=>ppred_any 100 p w4 R R a1 c1 _ P _ hfm.o.2 hfm.o.1 h1 P4.o.lo (Nat.le_of_lt P4.o.ltR) (Nat.le_refl _) h2 P4.o.pow (HPC.o w4 B4.o) (fun g hg=>Nat.lt_of_lt_of_le (HP.o g hg) HRL.o) (by have:=hfm.o.2;simp only[List.length_append,List.length_cons,List.length_nil];omega)))
   go_wp2_with (refine wpList_load_wanted (by rfl) 25 (.tmp 3) rfl w.heap.size (by rfl) 25 #[.int .i64 q0,.string q1,.string q2,.int .i64 q3,.slice xa xn xc] (0,0) _ X4.o Tryz.underlying25 rfl (inf_pred _ rfl) ?_)
   refine hprd.o.mono ?_
   rintro e w5 ⟨rfl,p5⟩
   have P5:=ħ p5
   clear p5 P4 X4 hprd
   have hput:=ħ (PW.put [[125]] P5.o #[.string ⟨#[125]⟩] 1 1 rfl rfl (by have:=prdT_len p;have:=hfm.o.2;simp only[List.length_append,List.length_cons,List.length_nil];omega))
   go_wp2_with fail
   refine hput.o.mono ?_
   rintro e w6 ⟨rfl,p6⟩
   have P6:=ħ p6
   clear p6 P5 hput
   have HTS:Hid ([]++[[113,117,101,115,116,105,111,110],name,[123]]++prdT p++[[125]]=qstT name p):=ħ rfl
   rw[HTS.o] at P6
   have HTL:Hid ((qstT name p).length=(prdT p).length+4):=ħ (by unfold qstT;simp)
   have htl:(qstT name p).length≤1000000:=by have:=prdT_len p;have:=hfm.o.2;rw[HTL.o];omega
   obtain⟨g,off,cap,hcell,hg,hrd⟩:=P6.o.row_toks (by rw[HTL.o];omega)
   have HQL:Hid ((qstL name p).length≤140737488355328):=ħ (qstL_len (by omega) hfm.o.1 (by have:=hfm.o.2;omega))
   have hpr:=ħ (bprint_any w6 (qstT name p) g off (qstT name p).length cap rfl (by rw[HTL.o];omega) htl hg hrd HQL.o)
   have B6:=ħ (show Below w.heap.size w w6 from B3.o.trans (P6.o.below.mono HRL.o))
   clear hrd
   go_wp2_with fail
   refine hpr.o.mono ?_
   rintro e w7 ⟨rfl,b7⟩
   have B7:=ħ (B6.o.trans (b7.mono B6.o.size))
   have hsz:=strN_size (joinT (qstT name p))
   have HQ3:Hid (V=if (joinT (qstT name p)).length≤4000 then some (joinT (qstT name p)) else none):=ħ HQ2.o
   obtain⟨m,hm⟩:∃ m,(joinT (qstT name p)).length=m:=⟨_,rfl⟩
   rw[hm] at hsz
   have HM:=ħ hm
   have hmb:m≤140737488355328:=by rw[← hm];exact HQL.o
   clear b7 hpr B6 hcell hm HQ2
   by_cases h4:4000<m
   ·have h4':(4000:Int)<m:=by omega
    have HX:Hid (V=none):=ħ (by rw[HQ3.o,if_neg (by rw[HM.o];omega)])
    go_wp2
    go_ret2
    exact⟨by rw[HX.o];rfl,B7.o⟩
   ·have h4':¬ (4000:Int)<m:=by omega
    have HX:Hid (V=some (joinT (qstT name p))):=ħ (by rw[HQ3.o,if_pos (by rw[HM.o];omega)])
    go_wp2
    go_ret2
    exact⟨by rw[HX.o];rfl,B7.o⟩
end
section
open Go.RowKit Go.Sort
structure Good (w:World) (B:Nat):Prop where
 tab:Tab w B
 pow:Pow w
theorem Good.step {w w':World} {B:Nat} (h:Good w B) (hb:Below w.heap.size w w'):Good w' B :=
 ⟨TabIn.step (w:=w) h.tab hb,h.pow.keep (hb.block _ (by show 3<w.heap.size;have:=h.tab.low;have:=h.tab.size;omega))⟩
theorem PredV.open {B:Nat} {w:World} {p:Prd} {v:Value} (h:PredV B w p v):∃ ka kn kc,v = .agg #[.int .i64 p.k,.string (strN p.l),.string (strN p.r),.int .i64 p.c,.slice ka kn kc]∧PredC w (fun g=>B≤g∧g<w.heap.size) p [.int .i64 p.k,.string (strN p.l),.string (strN p.r),.int .i64 p.c,.slice ka kn kc]:=by
 obtain⟨vs,rfl,hc⟩:=h
 obtain⟨a,n,c,rfl,-⟩:=hc.form
 exact⟨a,n,c,rfl,hc.mono (fun g hg hl=>⟨hg,hl⟩)⟩
theorem fails_true (l:List Nat) (w:World) (B:Nat) (hG:Good w B) (hl:l.length≤1000000) (hb:∀ y∈l,y<256) (at':Nat) (er:Int) (hpf:(parseF l).2.2.1=at'∧(parseF l).2.2.2=er) :
  Calls Tryz.prog 67 #[.string (strN l),.int .i64 er,.int .i64 at'] w fun e w'=>e = .returned (.bool true)∧Below w.heap.size w w':=by
 have HP:=ħ (parse_any l w B hG.tab hl hb)
 obtain⟨hp1,hp2⟩:=hpf
 unfold ParseR at HP
 rw[hp1,hp2] at HP
 clear hp1 hp2 hl hb hG
 generalize strN l=y at *
 generalize strN (parseF l).1=yn at *
 go_enter Tryz.func67,Tryz.ntmps67
 go_wp2_with fail
 refine HP.o.mono ?_
 rintro e w2 ⟨v,rfl,hv,b2⟩
 obtain⟨ka,kn,kc,rfl,-⟩:=hv.open
 generalize (parseF l).2.1=p at *
 clear hv HP
 have B2:=ħ b2
 clear b2
 generalize p.k=q0 at *
 generalize strN p.l=q1 at *
 generalize strN p.r=q2 at *
 generalize p.c=q3 at *
 have bx:=(Below.refl w2.heap.size w2).alloc (Nat.le_refl _) (.cells #[.int .i64 q0,.string q1,.string q2,.int .i64 q3,.slice ka kn kc] 25)
 have B3:=ħ (B2.o.trans (bx.mono B2.o.size))
 clear bx
 go_wp2
 go_ret
 exact⟨rfl,B3.o⟩
theorem prints_true (l t:List Nat) (w:World) (B:Nat) (hG:Good w B) (hl:l.length≤1000000) (hb:∀ y∈l,y<256) (name:List Nat) (p:Prd) (hpf:parseF l=(name,p,0,0)) (hpr:prnP name p=some t)
  (hn:name.length≤1000000) (hnb:∀ y∈name,y<256) (hbp:BytP p) (hN:cntP p≤1000000) :
  Calls Tryz.prog 66 #[.string (strN l),.string (strN t)] w fun e w'=>e = .returned (.bool true)∧Below w.heap.size w w':=by
 have HP:=ħ (parse_any l w B hG.tab hl hb)
 unfold ParseR at HP
 rw[hpf] at HP
 have HPR:Hid (∀ W vs,Below w.heap.size w W→PredC W (fun g=>g<W.heap.size) p vs→Calls Tryz.prog 24 #[.string (strN name),.agg vs.toArray] W fun e w'=>e = .returned (.tuple #[.string (strN t),.bool true])∧Below W.heap.size W w'):=ħ (fun W vs hW hc=>by
  have:=print_any W B name p (fun g=>g<W.heap.size) vs (hG.step hW).tab (hG.step hW).pow hn hnb hbp hN hc (fun g hg=>hg)
  rw[hpr] at this
  exact this)
 clear hpf hpr hn hnb hbp hN hl hb hG
 generalize strN l=y at *
 generalize strN name=yn at *
 generalize strN t=yt at *
 go_enter Tryz.func66,Tryz.ntmps66
 go_wp2_with fail
 refine HP.o.mono ?_
 rintro e w2 ⟨v,rfl,hv,b2⟩
 obtain⟨ka,kn,kc,rfl,hc⟩:=hv.open
 have HC:=ħ hc
 have B2:=ħ b2
 clear hv HP hc b2
 generalize p.k=q0 at *
 generalize strN p.l=q1 at *
 generalize strN p.r=q2 at *
 generalize p.c=q3 at *
 have bx:=(Below.refl w2.heap.size w2).alloc (Nat.le_refl _) (.cells #[.int .i64 q0,.string q1,.string q2,.int .i64 q3,.slice ka kn kc] 25)
 have B3:=ħ (B2.o.trans (bx.mono B2.o.size))
 have C3:=ħ ((HC.o.below bx).mono (P':=fun g=>g<(w2.alloc (.cells #[.int .i64 q0,.string q1,.string q2,.int .i64 q3,.slice ka kn kc] 25)).heap.size) (fun g _ h=>h))
 have X3:Hid (HasV (w2.alloc (.cells #[.int .i64 q0,.string q1,.string q2,.int .i64 q3,.slice ka kn kc] 25)) w2.heap.size 25 [.int .i64 q0,.string q1,.string q2,.int .i64 q3,.slice ka kn kc]):=ħ (heap_alloc_new w2 _)
 clear bx HC
 go_upto_region 2 with (fail)
 generalize w2.alloc (.cells #[.int .i64 q0,.string q1,.string q2,.int .i64 q3,.slice ka kn kc] 25)=w3 at *
 go_wp2_with (refine wpList_load_wanted (by rfl) 25 (.tmp 6) rfl w2.heap.size (by rfl) 25 #[.int .i64 q0,.string q1,.string q2,.int .i64 q3,.slice ka kn kc] (0,0) _ X3.o Tryz.underlying25 rfl (inf_pred _ rfl) ?_)
 refine (HPR.o w3 _ B3.o C3.o).mono ?_
 rintro e w4 ⟨rfl,b4⟩
 have B4:=ħ (B3.o.trans (b4.mono B3.o.size))
 clear b4 X3 C3 HPR
 go_wp2
 go_ret
 exact⟨rfl,B4.o⟩
theorem quest_any (l:List Nat) (w:World) (B:Nat) (hG:Good w B) (hl:l.length≤900000) (hb:∀ y∈l,y<256) (L:List Nat) (hL:L=[113,117,101,115,116,105,111,110,32,97,32,123,32]++l++[32,125]) :
  Calls Tryz.prog 69 #[.string (strN l)] w fun e w'=>∃ v,e = .returned v∧PredV w.heap.size w' (parseF L).2.1 v∧Below w.heap.size w w':=by
 have HLL:Hid (L.length≤1000000∧∀ y∈L,y<256):=ħ (by
  rw[hL]
  refine⟨by simp;omega,fun y hy=>?_⟩
  simp only[List.mem_append] at hy
  rcases hy with (hy | hy) | hy
  ·simp at hy;omega
  ·exact hb y hy
  ·simp at hy;omega)
 have HAP:Hid (((⟨#[113,117,101,115,116,105,111,110,32,97,32,123,32]⟩:ByteArray)++strN l)++(⟨#[32,125]⟩:ByteArray)=strN L):=ħ (by
  rw[hL,← strN_append,← strN_append];rfl)
 have bx:=(Below.refl w.heap.size w).alloc (Nat.le_refl _) (.cells #[.int .i64 0,.string ⟨#[]⟩,.string ⟨#[]⟩,.int .i64 0,.slice none 0 0] 25)
 have B1:=ħ bx
 have X1:Hid (HasV (w.alloc (.cells #[.int .i64 0,.string ⟨#[]⟩,.string ⟨#[]⟩,.int .i64 0,.slice none 0 0] 25)) w.heap.size 25 [.int .i64 0,.string ⟨#[]⟩,.string ⟨#[]⟩,.int .i64 0,.slice none 0 0]):=ħ (heap_alloc_new w _)
 have HP:=ħ (fun W (hW:Below w.heap.size w W)=>parse_any L W B (hG.step hW).tab HLL.o.1 HLL.o.2)
 unfold ParseR at HP
 have hap:=HAP.o
 have hz1:¬ 9223372036854775807<13+(strN l).size:=by rw[strN_size];omega
 have hz2:¬ 9223372036854775807<13+(strN l).size+2:=by rw[strN_size];omega
 clear bx hG hl hb hL HLL HAP
 generalize strN L=yL at *
 generalize strN l=y at *
 generalize strN (parseF L).1=yn at *
 generalize (parseF L).2.1=p at *
 generalize (parseF L).2.2.1=ia at *
 generalize (parseF L).2.2.2=ie at *
 go_enter Tryz.func69,Tryz.ntmps69
 go_upto_region 1 with (fail)
 generalize w.alloc (.cells #[.int .i64 0,.string ⟨#[]⟩,.string ⟨#[]⟩,.int .i64 0,.slice none 0 0] 25)=w1 at *
 go_wp2_with fail
 refine (HP.o w1 B1.o).mono ?_
 rintro e w2 ⟨v,rfl,hv,b2⟩
 obtain⟨ka,kn,kc,rfl,hc⟩:=hv.open
 have HC:=ħ hc
 have B2:=ħ (B1.o.trans (b2.mono B1.o.size))
 have X2:=ħ (X1.o.step b2)
 have HL1:Hid (w.heap.size≤w1.heap.size):=ħ B1.o.size
 have HLT:Hid (w.heap.size<w1.heap.size):=ħ X1.o.lt
 clear hv HP hc b2 X1 hap hz1 hz2
 have HPV:Hid (p.k=p.k):=ħ rfl
 obtain⟨q0,hq0⟩:∃ q0,p.k=q0:=⟨_,rfl⟩
 obtain⟨q1,hq1⟩:∃ q1,strN p.l=q1:=⟨_,rfl⟩
 obtain⟨q2,hq2⟩:∃ q2,strN p.r=q2:=⟨_,rfl⟩
 obtain⟨q3,hq3⟩:∃ q3,p.c=q3:=⟨_,rfl⟩
 rw[hq0,hq1,hq2,hq3] at HC ⊢
 clear hq0 hq1 hq2 hq3 HPV
 have bx:=(Below.refl w2.heap.size w2).alloc (Nat.le_refl _) (.cells #[.int .i64 q0,.string q1,.string q2,.int .i64 q3,.slice ka kn kc] 25)
 have B3:=ħ (B2.o.trans (bx.mono B2.o.size))
 have C3:=ħ ((HC.o.below bx).mono (P':=fun g=>w1.heap.size≤g) (fun g h _=>h.1))
 have X3:Hid (HasV (w2.alloc (.cells #[.int .i64 q0,.string q1,.string q2,.int .i64 q3,.slice ka kn kc] 25)) w2.heap.size 25 [.int .i64 q0,.string q1,.string q2,.int .i64 q3,.slice ka kn kc]):=ħ (heap_alloc_new w2 _)
 have Z3:=ħ (X2.o.step bx)
 clear bx HC X2
 go_upto_region 2 with (fail)
 generalize w2.alloc (.cells #[.int .i64 q0,.string q1,.string q2,.int .i64 q3,.slice ka kn kc] 25)=w3 at *
 go_wp2_with (first | (refine wpList_load_wanted (by rfl) 25 (.tmp 4) rfl w2.heap.size (by rfl) 25 #[.int .i64 q0,.string q1,.string q2,.int .i64 q3,.slice ka kn kc] (0,0) _ X3.o Tryz.underlying25 rfl (inf_pred _ rfl) ?_) | (refine wpList_store_abs rfl 25 (.tmp 2) (.tmp 16) rfl w.heap.size #[.int .i64 q0,.string q1,.string q2,.int .i64 q3,.slice ka kn kc] (by rfl) (by rfl) 25 _ Z3.o (inf_pred _ rfl) rfl (by simp[Value.oneCell']) ?_;intro w9 s9 u9;have S9:=ħ s9;have U9:=ħ u9;clear s9 u9))
 refine bodyPost_ret (results_cell_row (p:=2) (by kernel_rfl) _ _ w.heap.size 25 #[.int .i64 q0,.string q1,.string q2,.int .i64 q3,.slice ka kn kc] (0,0) _ rfl S9.o Tryz.underlying25 rfl (inf_pred _ rfl)) rfl ⟨_,rfl,⟨_,rfl,?_⟩,U9.o.below B3.o (Nat.le_refl _)⟩
 exact (C3.o.upd U9.o (by have:=HLT.o;omega)).mono (fun g hg _=>Nat.le_trans HL1.o hg)
theorem catom_any (l r:ByteArray) (c:Int) (w:World) :
  Calls Tryz.prog 68 #[.string l,.string r,.int .i64 c] w fun e w'=>e = .returned (.agg #[.int .i64 0,.string l,.string r,.int .i64 c,.slice none 0 0])∧Below w.heap.size w w':=by
 have X1:Hid (HasV (w.alloc (.cells #[.int .i64 0,.string ⟨#[]⟩,.string ⟨#[]⟩,.int .i64 0,.slice none 0 0] 25)) w.heap.size 25 [.int .i64 0,.string ⟨#[]⟩,.string ⟨#[]⟩,.int .i64 0,.slice none 0 0]):=ħ (heap_alloc_new w _)
 have B1:=ħ ((Below.refl w.heap.size w).alloc (Nat.le_refl _) (.cells #[.int .i64 0,.string ⟨#[]⟩,.string ⟨#[]⟩,.int .i64 0,.slice none 0 0] 25))
 go_enter Tryz.func68,Tryz.ntmps68
 go_upto_region 1 with (fail)
 generalize w.alloc (.cells #[.int .i64 0,.string ⟨#[]⟩,.string ⟨#[]⟩,.int .i64 0,.slice none 0 0] 25)=w1 at *
 go_wp2_with (refine wpList_store_abs rfl 25 (.tmp 6) (.tmp 10) rfl w.heap.size #[.int .i64 0,.string l,.string r,.int .i64 c,.slice none 0 0] (by rfl) (by rfl) 25 _ X1.o (inf_pred _ rfl) rfl (by simp[Value.oneCell']) ?_;intro w9 s9 u9;have S9:=ħ s9;have U9:=ħ u9;clear s9 u9)
 exact bodyPost_ret (results_cell_row (p:=6) (by kernel_rfl) _ _ w.heap.size 25 #[.int .i64 0,.string l,.string r,.int .i64 c,.slice none 0 0] (0,0) _ rfl S9.o Tryz.underlying25 rfl (inf_pred _ rfl)) rfl ⟨rfl,U9.o.below B1.o (Nat.le_refl _)⟩
end
section
open Go.RowKit Go.Sort
mutual
def sameP:Prd→Prd→Bool
 | .mk k l r c ks,q=>k==q.k&&(l==q.l&&(r==q.r&&(c==q.c&&(ks.length==q.ks.length&&sameL ks q.ks))))
def sameL:List Prd→List Prd→Bool
 | [],_=>true
 | p::ps,qs=>(match qs with | []=>true | q::qs=>sameP p q&&sameL ps qs)
end
mutual
theorem sameP_iff:∀ p q:Prd,sameP p q=true↔p=q
 | .mk k l r c ks,.mk k' l' r' c' ks'=>by
  have h:=sameL_iff ks ks'
  unfold sameP
  simp only[Bool.and_eq_true,beq_iff_eq]
  constructor
  ·rintro⟨h1,h2,h3,h4,h5,h6⟩
   have h1':k=k':=h1
   have h2':l=l':=h2
   have h3':r=r':=h3
   have h4':c=c':=h4
   have h5':ks.length=ks'.length:=h5
   have:=(h h5').1 h6
   subst h1' h2' h3' h4' this
   rfl
  ·intro e
   injection e with e1 e2 e3 e4 e5
   subst e1 e2 e3 e4 e5
   exact⟨rfl,rfl,rfl,rfl,rfl,(h rfl).2 rfl⟩
theorem sameL_iff:∀ ks qs:List Prd,ks.length=qs.length→(sameL ks qs=true↔ks=qs)
 | [],[],_=>by simp[sameL]
 | [],_::_,h=>by simp at h
 | _::_,[],h=>by simp at h
 | p::ps,q::qs,h=>by
  have h1:=sameP_iff p q
  have h2:=sameL_iff ps qs (by simpa using h)
  unfold sameL
  simp only[Bool.and_eq_true,List.cons.injEq,h1,h2]
end
theorem sameL_drop (ks qs:List Prd) (i:Nat) (p q:Prd) (hp:ks[i]?=some p) (hq:qs[i]?=some q):sameL (ks.drop i) (qs.drop i)=(sameP p q&&sameL (ks.drop (i+1)) (qs.drop (i+1))):=by
 have h1:ks.drop i=p::ks.drop (i+1):=List.drop_eq_getElem?_toList_append .. |>.trans (by rw[hp];rfl)
 have h2:qs.drop i=q::qs.drop (i+1):=List.drop_eq_getElem?_toList_append .. |>.trans (by rw[hq];rfl)
 rw[h1,h2,sameL]
theorem same_node (w:World) (P P':Nat→Prop) (a0 b0:Int) (l r l' r':List Nat) (a3 b3:Int) (ks qs:List Prd) (ao bo:Option Addr) (n m cap cap':Nat) (hn:n=ks.length) (hm:m=qs.length) (hbig:n≤1000000) (hbig':m≤1000000)
  (hl:NmB l) (hr:NmB r) (hl':NmB l') (hr':NmB r')
  (hk:ks=[]∨∃ g off,ao=some ⟨g,off,none⟩∧P g∧g<w.heap.size∧KidsC w P ks g off)
  (hk':qs=[]∨∃ g off,bo=some ⟨g,off,none⟩∧P' g∧g<w.heap.size∧KidsC w P' qs g off)
  (ih:∀ (p q:Prd) (W:World) (vs us:List Value),p∈ks→q∈qs→PredC W P p vs→PredC W P' q us→Calls Tryz.prog 20 #[.agg vs.toArray,.agg us.toArray] W fun e w'=>e = .returned (.bool (sameP p q))∧Below W.heap.size W w') :
  Calls Tryz.prog 20 #[.agg #[.int .i64 a0,.string (strN l),.string (strN r),.int .i64 a3,.slice ao n cap],.agg #[.int .i64 b0,.string (strN l'),.string (strN r'),.int .i64 b3,.slice bo m cap']] w fun e w'=>e = .returned (.bool (sameP (.mk a0 l r a3 ks) (.mk b0 l' r' b3 qs)))∧Below w.heap.size w w':=by
 have HE:=And.intro (strN_eqL l l' hl.1 hl'.1) (strN_eqL r r' hr.1 hr'.1)
 have HV:Hid (sameP (.mk a0 l r a3 ks) (.mk b0 l' r' b3 qs)=(a0==b0&&((l==l')&&((r==r')&&(a3==b3&&(n==m&&sameL ks qs)))))):=ħ (by rw[sameP,hn,hm];rfl)
 obtain⟨V,hV⟩:∃ V,sameP (.mk a0 l r a3 ks) (.mk b0 l' r' b3 qs)=V:=⟨_,rfl⟩
 rw[hV] at HV ⊢
 have bx:=((Below.refl w.heap.size w).alloc (Nat.le_refl _) (.cells #[.int .i64 a0,.string (strN l),.string (strN r),.int .i64 a3,.slice ao n cap] 25)).alloc (by simp) (.cells #[.int .i64 b0,.string (strN l'),.string (strN r'),.int .i64 b3,.slice bo m cap'] 25)
 have B1:=ħ bx
 have X1:Hid (HasV ((w.alloc (.cells #[.int .i64 a0,.string (strN l),.string (strN r),.int .i64 a3,.slice ao n cap] 25)).alloc (.cells #[.int .i64 b0,.string (strN l'),.string (strN r'),.int .i64 b3,.slice bo m cap'] 25)) w.heap.size 25 [.int .i64 a0,.string (strN l),.string (strN r),.int .i64 a3,.slice ao n cap]):=ħ (heap_alloc2_old _ _ _)
 have Y1:Hid (HasV ((w.alloc (.cells #[.int .i64 a0,.string (strN l),.string (strN r),.int .i64 a3,.slice ao n cap] 25)).alloc (.cells #[.int .i64 b0,.string (strN l'),.string (strN r'),.int .i64 b3,.slice bo m cap'] 25)) (w.heap.size+1) 25 [.int .i64 b0,.string (strN l'),.string (strN r'),.int .i64 b3,.slice bo m cap']):=ħ (heap_alloc2_new _ _ _)
 have HK:=ħ hk
 have HK':=ħ hk'
 have HN:=ħ hn
 have HM:=ħ hm
 have IH:=ħ ih
 have he1:=HE.1
 have he2:=HE.2
 clear bx hk hk' hn hm ih hl hr hl' hr' hV HE
 generalize (l==l')=e1 at *
 generalize (r==r')=e2 at *
 generalize strN l=y1 at *
 generalize strN r=y2 at *
 generalize strN l'=z1 at *
 generalize strN r'=z2 at *
 go_enter Tryz.func20,Tryz.ntmps20
 go_upto_region 1 with (fail)
 generalize (w.alloc (.cells #[.int .i64 a0,.string y1,.string y2,.int .i64 a3,.slice ao n cap] 25)).alloc (.cells #[.int .i64 b0,.string z1,.string z2,.int .i64 b3,.slice bo m cap'] 25)=w1 at *
 have x0:=X1.o.cell 0 _ rfl
 have x1:=X1.o.cell 1 _ rfl
 have x2:=X1.o.cell 2 _ rfl
 have x3:=X1.o.cell 3 _ rfl
 have x4:=X1.o.cell 4 _ rfl
 have u0:=Y1.o.cell 0 _ rfl
 have u1:=Y1.o.cell 1 _ rfl
 have u2:=Y1.o.cell 2 _ rfl
 have u3:=Y1.o.cell 3 _ rfl
 have u4:=Y1.o.cell 4 _ rfl
 by_cases h0:a0=b0
 ·subst h0
  rw[show (a0==a0)=true from beq_self_eq_true a0,Bool.true_and] at HV
  cases e1 with
  | false =>
   rw[Bool.false_and] at HV
   go_wp2
   go_ret
   exact⟨ret_bool HV.o.symm,B1.o⟩
  | true =>
   rw[Bool.true_and] at HV
   cases e2 with
   | false =>
    rw[Bool.false_and] at HV
    go_wp2
    go_ret
    exact⟨ret_bool HV.o.symm,B1.o⟩
   | true =>
    rw[Bool.true_and] at HV
    by_cases h3:a3=b3
    ·subst h3
     rw[show (a3==a3)=true from beq_self_eq_true a3,Bool.true_and] at HV
     by_cases hnm:n=m
     ·subst hnm
      rw[show (n==n)=true from beq_self_eq_true n,Bool.true_and] at HV
      go_wp2_with fail
      clear x0 x1 x2 x3 u0 u1 u2 u3 he1 he2
      have S0:Hid (V=sameL (ks.drop 0) (qs.drop 0)):=ħ (by rw[List.drop_zero,List.drop_zero];exact HV.o)
      clear x4 u4
      go_loopw [5] (fun cc wr=>∃ (i:Nat),cc = .int .i64 i∧i≤n∧Hid (Below w.heap.size w wr)∧Hid (V=sameL (ks.drop i) (qs.drop i))∧Hid (HasV wr w.heap.size 25 [.int .i64 a0,.string y1,.string y2,.int .i64 a3,.slice ao n cap])∧Hid (HasV wr (w.heap.size+1) 25 [.int .i64 a0,.string z1,.string z2,.int .i64 a3,.slice bo n cap'])) (fun c _=>(n-intOf c).toNat)
      case atStart=>exact⟨0,rfl,by omega,B1,S0,X1,Y1⟩
      case round =>
       clear S0 B1 X1 Y1 HV
       obtain⟨i,rfl,hi,hw,hs,hx,hy⟩:=hrel
       have e2:IntKind.i64.wrap ((i:Int)+1)=((i+1:Nat):Int):=IntWalk.i64_in _ (by omega)
       have x4:=hx.o.cell 4 _ rfl
       have u4:=hy.o.cell 4 _ rfl
       by_cases hlt:i<n
       ·have ii:(i:Int)<n:=by omega
        have HQ:Hid (∃ q,ks[i]?=some q∧∃ g off,ao=some ⟨g,off,none⟩∧∃ vs,PredC wr P q vs∧Reads wr g (off+i*5) vs):=ħ (by
         have hl:i<ks.length:=by rw[← HN.o];exact hlt
         refine⟨ks[i],List.getElem?_eq_getElem hl,?_⟩
         rcases HK.o with h | ⟨g,off,h1,h2,h3,h4⟩
         ·rw[h] at hl;exact absurd hl (Nat.not_lt_zero _)
         ·obtain⟨vs,hv1,hv2⟩:=KidsC.at ks g off i _ (List.getElem?_eq_getElem hl) h4
          exact⟨g,off,h1,vs,hv1.below hw.o,hv2.of_block (hw.o.block g h3)⟩)
        have HQ':Hid (∃ q,qs[i]?=some q∧∃ g off,bo=some ⟨g,off,none⟩∧∃ vs,PredC wr P' q vs∧Reads wr g (off+i*5) vs):=ħ (by
         have hl:i<qs.length:=by rw[← HM.o];exact hlt
         refine⟨qs[i],List.getElem?_eq_getElem hl,?_⟩
         rcases HK'.o with h | ⟨g,off,h1,h2,h3,h4⟩
         ·rw[h] at hl;exact absurd hl (Nat.not_lt_zero _)
         ·obtain⟨vs,hv1,hv2⟩:=KidsC.at qs g off i _ (List.getElem?_eq_getElem hl) h4
          exact⟨g,off,h1,vs,hv1.below hw.o,hv2.of_block (hw.o.block g h3)⟩)
        obtain⟨p,hpi,gk,off,hao,vs,hpc,hrd⟩:=HQ.o
        obtain⟨q,hqi,gk',off',hbo,us,hqc,hrd'⟩:=HQ'.o
        clear HQ HQ'
        have HST:=ħ (hs.o.trans (sameL_drop ks qs i p q hpi hqi))
        obtain⟨xa,xn,xc,hvf,-⟩:=hpc.form
        obtain⟨ya,yn,yc,huf,-⟩:=hqc.form
        rw[hvf] at hrd hpc
        rw[huf] at hrd' hqc
        have HCL:=ħ (fun W (hW:Below wr.heap.size wr W)=>IH.o p q W _ _ (List.mem_of_getElem? hpi) (List.mem_of_getElem? hqi) (hpc.below hW) (hqc.below hW))
        have s0:=hrd 0 _ rfl
        have s1:=hrd 1 _ rfl
        have s2:=hrd 2 _ rfl
        have s3:=hrd 3 _ rfl
        have s4:=hrd 4 _ rfl
        have t0:=hrd' 0 _ rfl
        have t1:=hrd' 1 _ rfl
        have t2:=hrd' 2 _ rfl
        have t3:=hrd' 3 _ rfl
        have t4:=hrd' 4 _ rfl
        rw[Nat.add_zero] at s0 t0
        have HAO:=ħ hao
        have HBO:=ħ hbo
        clear hrd hrd' hpc hqc hvf huf vs us hpi hqi hs
        subst hao hbo
        generalize p.k=q0 at *
        generalize strN p.l=q1 at *
        generalize strN p.r=q2 at *
        generalize p.c=q3 at *
        generalize q.k=v0 at *
        generalize strN q.l=v1 at *
        generalize strN q.r=v2 at *
        generalize q.c=v3 at *
        generalize sameP p q=rb at *
        go_upto_region 6 with (fail)
        have r1:=regr wr (fun W hW=>HCL.o W hW)
        have xs4:=cell_regrown x4
        have us4:=cell_regrown u4
        have a0':=cell_regrown s0
        have a1':=cell_regrown s1
        have a2':=cell_regrown s2
        have a3':=cell_regrown s3
        have a4':=cell_regrown s4
        have b0':=cell_regrown t0
        have b1':=cell_regrown t1
        have b2':=cell_regrown t2
        have b3':=cell_regrown t3
        have b4':=cell_regrown t4
        clear x4 u4 s0 s1 s2 s3 s4 t0 t1 t2 t3 t4
        refine wp_region_quiet_below (by kernel_rfl) (by kernel_rfl) ?_
        repeat (quiet_step (with_reducible (exact r1 _ _)))
        refine wpQuiet_nil ?_
        intro _ hw'
        obtain⟨⟨dq,osq⟩,hw''⟩:=hw'
        subst hw''
        have BB:=below_regrown wr dq osq
        have B3:=ħ (hw.o.trans (BB.mono hw.o.size))
        have X3:=ħ (hx.o.step BB)
        have Y3:=ħ (hy.o.step BB)
        clear r1 xs4 us4 a0' a1' a2' a3' a4' b0' b1' b2' b3' b4' BB hw hx hy
        generalize grow (redrawn wr dq) osq=wy at *
        cases rb with
        | false =>
         have HF:Hid (V=false):=ħ (by rw[HST.o,Bool.false_and])
         go_wp2
         go_ret
         exact⟨ret_bool HF.o.symm,B3.o⟩
        | true =>
         have HF:Hid (V=sameL (ks.drop (i+1)) (qs.drop (i+1))):=ħ (by rw[HST.o,Bool.true_and])
         go_wp2
         go_roundw
         case rel=>exact⟨i+1,by go_num,by omega,B3,HF,X3,Y3⟩
         case measure=>simp only[intOf];omega
       ·have ii:¬ ((i:Int)<n):=by omega
        have HF:Hid (V=true):=ħ (by
         rw[hs.o,List.drop_eq_nil_of_le (by rw[← HN.o];omega)]
         unfold sameL;rfl)
        go_wp2
        go_ret
        exact⟨ret_bool HF.o.symm,hw.o⟩
     ·have hnm':¬ (n:Int)=(m:Int):=by omega
      rw[show (n==m)=false from beq_eq_false_iff_ne.mpr hnm,Bool.false_and] at HV
      go_wp2
      go_ret
      exact⟨ret_bool HV.o.symm,B1.o⟩
    ·rw[show (a3==b3)=false from beq_eq_false_iff_ne.mpr h3,Bool.false_and] at HV
     go_wp2
     go_ret
     exact⟨ret_bool HV.o.symm,B1.o⟩
 ·rw[show (a0==b0)=false from beq_eq_false_iff_ne.mpr h0,Bool.false_and] at HV
  go_wp2
  go_ret
  exact⟨ret_bool HV.o.symm,B1.o⟩
end
section
open Go.RowKit Go.Sort
theorem same_any:∀ (N:Nat) (p q:Prd) (w:World) (P P':Nat→Prop) (vs us:List Value),cntP p≤N→N≤1000000→cntP q≤1000000→BytP p→BytP q→PredC w P p vs→PredC w P' q us →
  Calls Tryz.prog 20 #[.agg vs.toArray,.agg us.toArray] w fun e w'=>e = .returned (.bool (sameP p q))∧Below w.heap.size w w'
 | 0,p,q,w,P,P',vs,us,hN,_,_,_,_,_,_=>by have:=cnt_pos p;omega
 | N+1,.mk k l r c ks,.mk k' l' r' c' qs,w,P,P',vs,us,hN,hM,hq,hb,hb',h,h'=>by
  have hc2:cntL ks≤N:=by unfold cntP at hN;omega
  have hc3:cntL qs≤1000000:=by unfold cntP at hq;omega
  have hl:=len_le_cntL ks
  have hl':=len_le_cntL qs
  unfold PredC at h h'
  unfold BytP at hb hb'
  obtain⟨ao,cap,rfl,hk⟩:=h
  obtain⟨bo,cap',rfl,hk'⟩:=h'
  exact same_node w P P' k k' l r l' r' c c' ks qs ao bo ks.length qs.length cap cap' rfl rfl (by omega) (by omega) hb.1 hb.2.1 hb'.1 hb'.2.1 hk hk' (fun p q W vs us hp hq h1 h2=>same_any N p q W P P' vs us (by
   obtain⟨i,hi⟩:=List.mem_iff_getElem?.1 hp
   have:=cnt_kid ks i p hi
   omega) (by omega) (by
   obtain⟨i,hi⟩:=List.mem_iff_getElem?.1 hq
   have:=cnt_kid qs i q hi
   omega) ((BytL_iff ks).1 hb.2.2 p hp) ((BytL_iff qs).1 hb'.2.2 q hq) h1 h2)
def KidR (w:World) (P:Nat→Prop) (ks:List Prd) (ao:Option Addr):Prop:=ks=[]∨∃ g off,ao=some ⟨g,off,none⟩∧P g∧g<w.heap.size∧KidsC w P ks g off
theorem KidR.below {w w':World} {P:Nat→Prop} {ks:List Prd} {ao:Option Addr} (h:KidR w P ks ao) (hb:Below w.heap.size w w'):KidR w' P ks ao:=by
 rcases h with h | ⟨g,off,h1,h2,h3,h4⟩
 ·exact .inl h
 ·exact .inr ⟨g,off,h1,h2,Nat.lt_of_lt_of_le h3 hb.size,KidsC.keep (fun x _ hx=>hb.block x hx) hb.size (fun _ h _=>h) ks g off h2 h3 h4⟩
theorem satoms_true (w:World) (P P':Nat→Prop) (ks:List Prd) (ao bo:Option Addr) (n cap cap':Nat) (hn:n=ks.length) (hbig:n≤1000000) (ha:∀ q∈ks,q.ks=[]∧BytP q)
  (hk:KidR w P ks ao) (hk':KidR w P' ks bo) :
  Calls Tryz.prog 110 #[.slice ao n cap,.slice bo n cap'] w fun e w'=>e = .returned (.bool true)∧Below w.heap.size w w':=by
 have HK:=ħ hk
 have HK':=ħ hk'
 have HN:=ħ hn
 have HA:=ħ ha
 have B0:=ħ (Below.refl w.heap.size w)
 clear hk hk' hn ha
 go_enter Tryz.func110,Tryz.ntmps110
 go_wp2_with fail
 go_loopw [5] (fun cc wr=>∃ (i:Nat),cc = .int .i64 i∧i≤n∧Hid (Below w.heap.size w wr)) (fun c _=>(n-intOf c).toNat)
 case atStart=>exact⟨0,rfl,by omega,B0⟩
 case round =>
  clear B0
  obtain⟨i,rfl,hi,hw⟩:=hrel
  have e2:IntKind.i64.wrap ((i:Int)+1)=((i+1:Nat):Int):=IntWalk.i64_in _ (by omega)
  by_cases hlt:i<n
  ·have ii:(i:Int)<n:=by omega
   have hl:i<ks.length:=by rw[← HN.o];exact hlt
   have HQ:Hid (∀ (P:Nat→Prop) ao,KidR w P ks ao→∃ q,ks[i]?=some q∧∃ g off,ao=some ⟨g,off,none⟩∧∃ vs,PredC wr P q vs∧Reads wr g (off+i*5) vs):=ħ (fun P ao hk=>by
    refine⟨ks[i],List.getElem?_eq_getElem hl,?_⟩
    rcases hk with h | ⟨g,off,h1,h2,h3,h4⟩
    ·rw[h] at hl;exact absurd hl (Nat.not_lt_zero _)
    ·obtain⟨vs,hv1,hv2⟩:=KidsC.at ks g off i _ (List.getElem?_eq_getElem hl) h4
     exact⟨g,off,h1,vs,hv1.below hw.o,hv2.of_block (hw.o.block g h3)⟩)
   obtain⟨p,hpi,gk,off,hao,vs,hpc,hrd⟩:=HQ.o P ao HK.o
   obtain⟨q,hqi,gk',off',hbo,us,hqc,hrd'⟩:=HQ.o P' bo HK'.o
   clear HQ
   obtain rfl:p=q:=by rw[hpi] at hqi;exact Option.some.inj hqi
   obtain⟨hk0,hby⟩:=HA.o p (List.mem_of_getElem? hpi)
   have HS:Hid (sameP p p=true):=ħ ((sameP_iff p p).2 rfl)
   have HC1:Hid (cntP p≤1000000):=ħ (by
    obtain⟨k,l,r,c,ks'⟩:=p
    have:ks'=[]:=hk0
    subst this
    simp[cntP,cntL])
   obtain⟨pk,pl,pr,pc,pks⟩:=p
   have hk1:pks=[]:=hk0
   subst hk1
   unfold PredC at hpc hqc
   obtain⟨xa,xc,rfl,-⟩:=hpc
   obtain⟨ya,yc,rfl,-⟩:=hqc
   have HCL:=ħ (fun W (hW:Below wr.heap.size wr W)=>same_any 1000000 (.mk pk pl pr pc []) (.mk pk pl pr pc []) W (fun _=>True) (fun _=>True) [.int .i64 pk,.string (strN pl),.string (strN pr),.int .i64 pc,.slice xa 0 xc] [.int .i64 pk,.string (strN pl),.string (strN pr),.int .i64 pc,.slice ya 0 yc] HC1.o (Nat.le_refl _) HC1.o hby hby (by unfold PredC;exact⟨xa,xc,rfl,.inl rfl⟩) (by unfold PredC;exact⟨ya,yc,rfl,.inl rfl⟩))
   rw[HS.o] at HCL
   have s0:=hrd 0 _ rfl
   have s1:=hrd 1 _ rfl
   have s2:=hrd 2 _ rfl
   have s3:=hrd 3 _ rfl
   have s4:=hrd 4 _ rfl
   have t0:=hrd' 0 _ rfl
   have t1:=hrd' 1 _ rfl
   have t2:=hrd' 2 _ rfl
   have t3:=hrd' 3 _ rfl
   have t4:=hrd' 4 _ rfl
   rw[Nat.add_zero] at s0 t0
   have HAO:=ħ hao
   have HBO:=ħ hbo
   clear hrd hrd' hpi hqi hk0 hby HS HC1 hl
   subst hao hbo
   generalize strN pl=q1 at *
   generalize strN pr=q2 at *
   go_upto_region 6 with (fail)
   have r1:=regr wr (fun W hW=>HCL.o W hW)
   have a0':=cell_regrown s0
   have a1':=cell_regrown s1
   have a2':=cell_regrown s2
   have a3':=cell_regrown s3
   have a4':=cell_regrown s4
   have b0':=cell_regrown t0
   have b1':=cell_regrown t1
   have b2':=cell_regrown t2
   have b3':=cell_regrown t3
   have b4':=cell_regrown t4
   clear s0 s1 s2 s3 s4 t0 t1 t2 t3 t4
   refine wp_region_quiet_below (by kernel_rfl) (by kernel_rfl) ?_
   repeat (quiet_step (with_reducible (exact r1 _ _)))
   refine wpQuiet_nil ?_
   intro _ hw'
   obtain⟨⟨dq,osq⟩,hw''⟩:=hw'
   subst hw''
   have BB:=below_regrown wr dq osq
   have B3:=ħ (hw.o.trans (BB.mono hw.o.size))
   clear r1 a0' a1' a2' a3' a4' b0' b1' b2' b3' b4' BB hw
   generalize grow (redrawn wr dq) osq=wy at *
   go_wp2
   go_roundw
   case rel=>exact⟨i+1,by go_num,by omega,B3⟩
   case measure=>simp only[intOf];omega
  ·have ii:¬ ((i:Int)<n):=by omega
   go_wp2
   go_ret
   exact⟨rfl,hw.o⟩
def ChsR (w:World) (cs:List Chc) (ao:Option Addr):Prop:=cs=[]∨∃ g off,ao=some ⟨g,off,none⟩∧g<w.heap.size∧∀ (i:Nat) (c:Chc),cs[i]?=some c→∃ xo xc,Reads w g (off+i*2) [.int .i64 c.need,.slice xo c.atoms.length xc]∧KidR w (fun g=>g<w.heap.size) c.atoms xo
theorem KidR.any {w w':World} {P:Nat→Prop} {ks:List Prd} {ao:Option Addr} (h:KidR w P ks ao) (hb:Below w.heap.size w w'):KidR w' (fun g=>g<w'.heap.size) ks ao:=by
 rcases h with h | ⟨g,off,h1,h2,h3,h4⟩
 ·exact .inl h
 ·exact .inr ⟨g,off,h1,Nat.lt_of_lt_of_le h3 hb.size,Nat.lt_of_lt_of_le h3 hb.size,KidsC.keep (fun x _ hx=>hb.block x hx) hb.size (fun x _ hx=>Nat.lt_of_lt_of_le hx hb.size) ks g off h2 h3 h4⟩
theorem ChsR.below {w w':World} {cs:List Chc} {ao:Option Addr} (h:ChsR w cs ao) (hb:Below w.heap.size w w'):ChsR w' cs ao:=by
 rcases h with h | ⟨g,off,h1,h2,h3⟩
 ·exact .inl h
 ·refine .inr ⟨g,off,h1,Nat.lt_of_lt_of_le h2 hb.size,fun i c hc=>?_⟩
  obtain⟨xo,xc,h4,h5⟩:=h3 i c hc
  exact⟨xo,xc,h4.of_block (hb.block g h2),h5.any hb⟩
theorem ChsR.of_row {w:World} {base lo:Nat} {bad:Nat→Prop} {ao:Option Addr} {n cp:Nat} {cs:List Chc} {vss:List (List Value)} (h:RowM ChE 2 base w lo bad ao n cp cs vss):ChsR w cs ao:=by
 by_cases hcs:cs=[]
 ·exact .inl hcs
 ·have hn:0<n:=by rw[h.cnt];exact List.length_pos_iff.2 hcs
  obtain⟨g0,off0,hao0,-,-⟩:=h.cells hn
  have hg0:=(h.blk_lt g0 (by rw[hao0];rfl)).2
  refine .inr ⟨g0,off0,hao0,hg0,fun i c hc=>?_⟩
  obtain⟨g,off,vs,h1,h2,h3,h4,h5,h6,xo,xc,rfl,h7⟩:=h.at i c hc
  have e:g=g0∧off=off0:=by
   rw[hao0] at h1
   injection h1 with h1
   injection h1 with h1 h2
   exact⟨h1.symm,h2.symm⟩
  rw[e.1,e.2] at h6
  refine⟨xo,xc,h6,?_⟩
  rcases h7 with h7 | ⟨g7,off7,k1,k2,k3,k4⟩
  ·exact .inl h7
  ·exact .inr ⟨g7,off7,k1,k3,k3,KidsC.keep (fun x _ _=>rfl) (Nat.le_refl _) (fun x _ hx=>hx) c.atoms g7 off7 k2 k3 k4⟩
theorem schoices_true (w:World) (cs:List Chc) (ao bo:Option Addr) (n cap cap':Nat) (hn:n=cs.length) (hbig:n≤1000000) (ha:∀ c∈cs,c.atoms.length≤1000000∧∀ q∈c.atoms,q.ks=[]∧BytP q)
  (hk:ChsR w cs ao) (hk':ChsR w cs bo) :
  Calls Tryz.prog 41 #[.slice ao n cap,.slice bo n cap'] w fun e w'=>e = .returned (.bool true)∧Below w.heap.size w w':=by
 have HK:=ħ hk
 have HK':=ħ hk'
 have HN:=ħ hn
 have HA:=ħ ha
 have B0:=ħ (Below.refl w.heap.size w)
 clear hk hk' hn ha
 go_enter Tryz.func41,Tryz.ntmps41
 go_wp2_with fail
 go_loopw [5] (fun cc wr=>∃ (i:Nat),cc = .int .i64 i∧i≤n∧Hid (Below w.heap.size w wr)) (fun c _=>(n-intOf c).toNat)
 case atStart=>exact⟨0,rfl,by omega,B0⟩
 case round =>
  clear B0
  obtain⟨i,rfl,hi,hw⟩:=hrel
  have e2:IntKind.i64.wrap ((i:Int)+1)=((i+1:Nat):Int):=IntWalk.i64_in _ (by omega)
  by_cases hlt:i<n
  ·have ii:(i:Int)<n:=by omega
   have hl:i<cs.length:=by rw[← HN.o];exact hlt
   have HQ:Hid (∀ ao,ChsR w cs ao→∃ g off,ao=some ⟨g,off,none⟩∧∃ xo xc,Reads wr g (off+i*2) [.int .i64 cs[i].need,.slice xo cs[i].atoms.length xc]∧KidR wr (fun g=>g<wr.heap.size) cs[i].atoms xo):=ħ (fun ao hk=>by
    rcases hk.below hw.o with h | ⟨g,off,h1,h2,h3⟩
    ·rw[h] at hl;exact absurd hl (Nat.not_lt_zero _)
    ·obtain⟨xo,xc,h4,h5⟩:=h3 i cs[i] (List.getElem?_eq_getElem hl)
     exact⟨g,off,h1,xo,xc,h4,h5⟩)
   obtain⟨gk,off,hao,xo,xc,hrd,hkr⟩:=HQ.o ao HK.o
   obtain⟨gk',off',hbo,yo,yc,hrd',hkr'⟩:=HQ.o bo HK'.o
   clear HQ
   have hat:=HA.o cs[i] (List.getElem_mem hl)
   have HCL:=ħ (fun W (hW:Below wr.heap.size wr W)=>satoms_true W (fun g=>g<wr.heap.size) (fun g=>g<wr.heap.size) cs[i].atoms xo yo cs[i].atoms.length xc yc rfl hat.1 hat.2 (hkr.below hW) (hkr'.below hW))
   have s0:=hrd 0 _ rfl
   have s1:=hrd 1 _ rfl
   have t0:=hrd' 0 _ rfl
   have t1:=hrd' 1 _ rfl
   rw[Nat.add_zero] at s0 t0
   have HAO:=ħ hao
   have HBO:=ħ hbo
   clear hrd hrd' hkr hkr' hat
   subst hao hbo
   generalize cs[i].need=nd at *
   generalize cs[i].atoms.length=nl at *
   clear hl
   go_upto_region 6 with (fail)
   have r1:=regr wr (fun W hW=>HCL.o W hW)
   have a0':=cell_regrown s0
   have a1':=cell_regrown s1
   have b0':=cell_regrown t0
   have b1':=cell_regrown t1
   clear s0 s1 t0 t1
   refine wp_region_quiet_below (by kernel_rfl) (by kernel_rfl) ?_
   repeat (quiet_step (with_reducible (exact r1 _ _)))
   refine wpQuiet_nil ?_
   intro _ hw'
   obtain⟨⟨dq,osq⟩,hw''⟩:=hw'
   subst hw''
   have BB:=below_regrown wr dq osq
   have B3:=ħ (hw.o.trans (BB.mono hw.o.size))
   clear r1 a0' a1' b0' b1' BB hw
   generalize grow (redrawn wr dq) osq=wy at *
   go_wp2
   go_roundw
   case rel=>exact⟨i+1,by go_num,by omega,B3⟩
   case measure=>simp only[intOf];omega
  ·have ii:¬ ((i:Int)<n):=by omega
   go_wp2
   go_ret
   exact⟨rfl,hw.o⟩
end
section
open Go.RowKit Go.Sort
mutual
def couP (M:Nat):Nat→Prd→Nat
 | 0,_=>M+1
 | L+1,.mk _ _ _ _ ks=>couL M L 1 ks
def couL (M:Nat):Nat→Nat→List Prd→Nat
 | _,n,[]=>n
 | L,n,q::qs=>if n≤M then couL M L (n+couP M L q) qs else n
end
theorem couL_le (M L:Nat) (h:∀ q,couP M L q≤(L+1)*(M+1)):∀ (ks:List Prd) (n:Nat),n≤(L+2)*(M+1)→couL M L n ks≤(L+2)*(M+1)
 | [],n,hn=>by rw[couL];exact hn
 | q::qs,n,hn=>by
  rw[couL]
  have e:(L+2)*(M+1)=(L+1)*(M+1)+(M+1):=by rw[show L+2=(L+1)+1 from rfl,Nat.add_mul (L+1) 1,Nat.one_mul]
  split
  ·exact couL_le M L h qs _ (by have:=h q;omega)
  ·exact hn
theorem couP_le (M:Nat):∀ (L:Nat) (p:Prd),couP M L p≤(L+1)*(M+1)
 | 0,p=>by rw[couP];omega
 | L+1,.mk k l r c ks=>by
  rw[couP]
  exact couL_le M L (couP_le M L) ks 1 (Nat.le_trans (Nat.le_add_left 1 M) (Nat.le_mul_of_pos_left _ (by omega)))
theorem cou_zero (w:World) (κ:Int) (l r:ByteArray) (c:Int) (ao:Option Addr) (n cap M:Nat) (hM:M≤1000) :
  Calls Tryz.prog 82 #[.agg #[.int .i64 κ,.string l,.string r,.int .i64 c,.slice ao n cap],.int .i64 (M:Int),.int .i64 0] w fun e w'=>e = .returned (.int .i64 ((M+1:Nat):Int))∧Below w.heap.size w w':=by
 have B1:=ħ ((Below.refl w.heap.size w).alloc (Nat.le_refl _) (.cells #[.int .i64 κ,.string l,.string r,.int .i64 c,.slice ao n cap] 25))
 have ew:IntKind.i64.wrap ((M:Int)+1)=((M+1:Nat):Int):=IntWalk.i64_in _ (by omega)
 go_enter Tryz.func82,Tryz.ntmps82
 go_wp2
 go_ret
 exact⟨ret_int (by omega),B1.o⟩
theorem couL_drop (M L n:Nat) (ks:List Prd) (i:Nat) (q:Prd) (h:ks[i]?=some q):couL M L n (ks.drop i)=if n≤M then couL M L (n+couP M L q) (ks.drop (i+1)) else n:=by
 have h1:ks.drop i=q::ks.drop (i+1):=List.drop_eq_getElem?_toList_append .. |>.trans (by rw[h];rfl)
 rw[h1,couL]
theorem cou_node (w:World) (P:Nat→Prop) (κ:Int) (l r:List Nat) (c:Int) (ks:List Prd) (ao:Option Addr) (n cap M L:Nat) (hM:M≤1000) (hL:L≤1000) (hn:n=ks.length) (hbig:n≤9223372036854775807)
  (hk:ks=[]∨∃ g off,ao=some ⟨g,off,none⟩∧P g∧g<w.heap.size∧KidsC w P ks g off)
  (ih:∀ (q:Prd) (W:World) (vs:List Value),q∈ks→PredC W P q vs→Calls Tryz.prog 82 #[.agg vs.toArray,.int .i64 (M:Int),.int .i64 (L:Int)] W fun e w'=>e = .returned (.int .i64 (couP M L q:Nat))∧Below W.heap.size W w') :
  Calls Tryz.prog 82 #[.agg #[.int .i64 κ,.string (strN l),.string (strN r),.int .i64 c,.slice ao n cap],.int .i64 (M:Int),.int .i64 ((L+1:Nat):Int)] w fun e w'=>e = .returned (.int .i64 (couL M L 1 ks:Nat))∧Below w.heap.size w w':=by
 have bx:=(Below.refl w.heap.size w).alloc (Nat.le_refl _) (.cells #[.int .i64 κ,.string (strN l),.string (strN r),.int .i64 c,.slice ao n cap] 25)
 have B1:=ħ bx
 have X1:Hid (HasV (w.alloc (.cells #[.int .i64 κ,.string (strN l),.string (strN r),.int .i64 c,.slice ao n cap] 25)) w.heap.size 25 [.int .i64 κ,.string (strN l),.string (strN r),.int .i64 c,.slice ao n cap]):=ħ (heap_alloc_new w _)
 have HK:=ħ hk
 have HN:=ħ hn
 have IH:=ħ ih
 have HB:Hid (∀ q,couP M L q≤(L+1)*(M+1)):=ħ (couP_le M L)
 have HB2:(L+1)*(M+1)≤1002001:=Nat.mul_le_mul (show L+1≤1001 by omega) (show M+1≤1001 by omega)
 obtain⟨V,hV⟩:∃ V,couL M L 1 ks=V:=⟨_,rfl⟩
 have S0:Hid (V=couL M L 1 (ks.drop 0)):=ħ (by rw[List.drop_zero];exact hV.symm)
 rw[hV]
 have hl0:¬ ((L+1:Nat):Int)<1:=by omega
 have es:IntKind.i64.wrap (((L+1:Nat):Int)-1)=(L:Int):=by rw[IntWalk.i64_in _ (by omega)];omega
 clear bx hk ih hn hV
 generalize hΛ:((L+1:Nat):Int)=Λ at *
 clear hΛ
 generalize strN l=y at *
 generalize strN r=z at *
 go_enter Tryz.func82,Tryz.ntmps82
 go_upto_region 1 with (fail)
 generalize w.alloc (.cells #[.int .i64 κ,.string y,.string z,.int .i64 c,.slice ao n cap] 25)=w1 at *
 go_wp2_with fail
 go_loopw [7,8] (fun c1 c2 wr=>∃ (m i:Nat),c1 = .int .i64 m∧c2 = .int .i64 i∧i≤n∧m≤2004003∧Hid (V=couL M L m (ks.drop i))∧Hid (Below w.heap.size w wr)∧Hid (HasV wr w.heap.size 25 [.int .i64 κ,.string y,.string z,.int .i64 c,.slice ao n cap])) (fun _ c2 _=>(n-intOf c2).toNat)
 case atStart=>exact⟨1,0,rfl,rfl,by omega,by omega,S0,B1,X1⟩
 case round =>
  clear S0 B1 X1
  obtain⟨m,i,rfl,rfl,hi,hm,hs,hw,hx⟩:=hrel
  have x4:=hx.o.cell 4 _ rfl
  by_cases hlt:i<n
  ·have ii:(i:Int)<n:=by omega
   have e2:IntKind.i64.wrap ((i:Int)+1)=((i+1:Nat):Int):=IntWalk.i64_in _ (by omega)
   have HQ:Hid (∃ q,ks[i]?=some q∧∃ g off,ao=some ⟨g,off,none⟩∧∃ vs,PredC wr P q vs∧Reads wr g (off+i*5) vs):=ħ (by
    have hl:i<ks.length:=by rw[← HN.o];exact hlt
    refine⟨ks[i],List.getElem?_eq_getElem hl,?_⟩
    rcases HK.o with h | ⟨g,off,h1,h2,h3,h4⟩
    ·rw[h] at hl;exact absurd hl (Nat.not_lt_zero _)
    ·obtain⟨vs,hv1,hv2⟩:=KidsC.at ks g off i _ (List.getElem?_eq_getElem hl) h4
     exact⟨g,off,h1,vs,hv1.below hw.o,hv2.of_block (hw.o.block g h3)⟩)
   obtain⟨q,hqi,gk,off,hao,vs,hpc,hrd⟩:=HQ.o
   clear HQ
   have HST:=ħ (hs.o.trans (couL_drop M L m ks i q hqi))
   by_cases hmM:m≤M
   ·have hmM':(m:Int)≤(M:Int):=by omega
    obtain⟨xa,xn,xc,hvf,-⟩:=hpc.form
    rw[hvf] at hrd hpc
    have HCL:=ħ (IH.o q wr _ (List.mem_of_getElem? hqi) hpc)
    have HS2:Hid (V=couL M L (m+couP M L q) (ks.drop (i+1))):=ħ (by rw[HST.o,if_pos hmM])
    have hcq:=HB.o q
    have s0:=hrd 0 _ rfl
    have s1:=hrd 1 _ rfl
    have s2:=hrd 2 _ rfl
    have s3:=hrd 3 _ rfl
    have s4:=hrd 4 _ rfl
    rw[Nat.add_zero] at s0
    have HAO:=ħ hao
    clear hrd hpc hvf vs hqi hs HST
    subst hao
    generalize q.k=q0 at *
    generalize strN q.l=q1 at *
    generalize strN q.r=q2 at *
    generalize q.c=q3 at *
    generalize couP M L q=cq at *
    have e3:IntKind.i64.wrap ((m:Int)+(cq:Int))=((m+cq:Nat):Int):=IntWalk.i64_in _ (by omega)
    go_wp2_with fail
    refine HCL.o.mono ?_
    rintro e w3 ⟨rfl,b3⟩
    have W3:=ħ (hw.o.trans (b3.mono hw.o.size))
    have X3:=ħ (hx.o.step b3)
    clear b3 s0 s1 s2 s3 s4 x4 hw hx HCL
    go_wp2
    go_roundw
    case rel=>exact⟨m+cq,i+1,by go_num,by go_num,by omega,by omega,HS2,W3,X3⟩
    case measure=>simp only[intOf];omega
   ·have hmM':¬ (m:Int)≤(M:Int):=by omega
    have HF:Hid (V=m):=ħ (by rw[HST.o,if_neg hmM])
    go_wp2
    go_ret
    exact⟨ret_int (by rw[HF.o]),hw.o⟩
  ·have ii:¬ ((i:Int)<n):=by omega
   have HF:Hid (V=m):=ħ (by rw[hs.o,List.drop_eq_nil_of_le (by rw[← HN.o];omega),couL])
   go_wp2
   go_ret
   exact⟨ret_int (by rw[HF.o]),hw.o⟩
mutual
def LenP:Prd→Prop
 | .mk _ _ _ _ ks=>ks.length≤9223372036854775807∧LenL ks
def LenL:List Prd→Prop
 | []=>True
 | p::ps=>LenP p∧LenL ps
end
theorem LenL_iff:∀ ks:List Prd,LenL ks↔∀ q∈ks,LenP q
 | []=>by simp[LenL]
 | p::ps=>by simp[LenL,LenL_iff ps]
theorem cou_any (M:Nat) (hM:M≤1000):∀ (L:Nat) (p:Prd) (w:World) (P:Nat→Prop) (vs:List Value),L≤1000→LenP p→PredC w P p vs →
  Calls Tryz.prog 82 #[.agg vs.toArray,.int .i64 (M:Int),.int .i64 (L:Int)] w fun e w'=>e = .returned (.int .i64 (couP M L p:Nat))∧Below w.heap.size w w'
 | 0,.mk κ l r c ks,w,P,vs,_,_,h=>by
  unfold PredC at h
  obtain⟨ao,cap,rfl,-⟩:=h
  have:=cou_zero w κ (strN l) (strN r) c ao ks.length cap M hM
  rw[couP]
  exact this
 | L+1,.mk κ l r c ks,w,P,vs,hL,hlen,h=>by
  unfold PredC at h
  unfold LenP at hlen
  obtain⟨ao,cap,rfl,hk⟩:=h
  rw[couP]
  exact cou_node w P κ l r c ks ao ks.length cap M L hM (by omega) rfl hlen.1 hk (fun q W us hq hpc=>cou_any M hM L q W P us (by omega) ((LenL_iff ks).1 hlen.2 q hq) hpc)
def fewP (p:Prd) (M L:Nat):Bool:=decide (couP M L p≤M)
theorem few_any (p:Prd) (M L:Nat) (hM:M≤1000) (hL:L≤1000) (w:World) (P:Nat→Prop) (vs:List Value) (hlen:LenP p) (h:PredC w P p vs) :
  Calls Tryz.prog 19 #[.agg vs.toArray,.int .i64 (M:Int),.int .i64 (L:Int)] w fun e w'=>e = .returned (.bool (fewP p M L))∧Below w.heap.size w w':=by
 obtain⟨xa,xn,xc,rfl,-⟩:=h.form
 have bx:=(Below.refl w.heap.size w).alloc (Nat.le_refl _) (.cells #[.int .i64 p.k,.string (strN p.l),.string (strN p.r),.int .i64 p.c,.slice xa xn xc] 25)
 have B1:=ħ bx
 have X1:Hid (HasV (w.alloc (.cells #[.int .i64 p.k,.string (strN p.l),.string (strN p.r),.int .i64 p.c,.slice xa xn xc] 25)) w.heap.size 25 [.int .i64 p.k,.string (strN p.l),.string (strN p.r),.int .i64 p.c,.slice xa xn xc]):=ħ (heap_alloc_new w _)
 have HC:=ħ (fun W (hW:Below w.heap.size w W)=>cou_any M hM L p W P _ hL hlen (h.below hW))
 have HV:Hid (fewP p M L=decide (couP M L p≤M)):=ħ rfl
 obtain⟨V,hV⟩:∃ V,fewP p M L=V:=⟨_,rfl⟩
 rw[hV] at HV ⊢
 clear bx h hlen hV
 generalize couP M L p=cp at *
 generalize p.k=q0 at *
 generalize strN p.l=q1 at *
 generalize strN p.r=q2 at *
 generalize p.c=q3 at *
 go_enter Tryz.func19,Tryz.ntmps19
 go_upto_region 1 with (fail)
 generalize w.alloc (.cells #[.int .i64 q0,.string q1,.string q2,.int .i64 q3,.slice xa xn xc] 25)=w1 at *
 go_wp2_with (refine wpList_load_wanted (by rfl) 25 (.tmp 3) rfl w.heap.size (by rfl) 25 #[.int .i64 q0,.string q1,.string q2,.int .i64 q3,.slice xa xn xc] (0,0) _ X1.o Tryz.underlying25 rfl (inf_pred _ rfl) ?_)
 refine (HC.o w1 B1.o).mono ?_
 rintro e w2 ⟨rfl,b2⟩
 have B2:=ħ (B1.o.trans (b2.mono B1.o.size))
 clear b2 HC
 by_cases hle:cp≤M
 ·have h1:(cp:Int)≤(M:Int):=by omega
  have HX:Hid (V=true):=ħ (by rw[HV.o];exact decide_eq_true hle)
  clear hle
  go_wp2
  go_ret
  exact⟨ret_bool HX.o.symm,B2.o⟩
 ·have h1:¬ (cp:Int)≤(M:Int):=by omega
  have HX:Hid (V=false):=ħ (by rw[HV.o];exact decide_eq_false hle)
  go_wp2
  go_ret
  exact⟨ret_bool HX.o.symm,B2.o⟩
end
section
open Go.RowKit Go.Sort Go.Maps
theorem rfree_any (l:List Nat) (w:World) (hl:l.length≤1000000) (hb:∀ y∈l,y<256) :
  Calls Tryz.prog 85 #[.string (strN l)] w fun e w'=>e = .returned (.bool (freeB l))∧RowKit.Below w.heap.size w w':=by
 have H1:=ħ (rname_any l w hl hb)
 have H2:=ħ (fun (W:World) (g:Nat) (hr:HasV W g 9 (wordsL.map (fun s=>.string (strN s))))=>rhas_any g 0 8 8 wordsL l W rfl (by omega) (fun j u hj=>by rw[Nat.zero_add];exact hr.cell j u hj) hb words_byte)
 have HV:Hid (freeB l=(nameB l&&!hasL wordsL l)):=ħ rfl
 have B0:=ħ (RowKit.Below.refl w.heap.size w)
 clear hl hb
 generalize freeB l=V at *
 generalize nameB l=b1 at *
 generalize hasL wordsL l=b2 at *
 generalize strN l=t at *
 go_enter Tryz.func85,Tryz.ntmps85
 go_wp2_with fail
 refine H1.o.mono ?_
 rintro e w1 ⟨rfl,rfl⟩
 cases b1 with
 | false =>
  go_wp2
  go_ret
  exact⟨ret_bool (by rw[HV.o];rfl),B0.o⟩
 | true =>
  go_wp2_with fail
  refine (rwords_any w).mono ?_
  rintro e w2 ⟨rfl,hv,b2'⟩
  have HH:=ħ (H2.o w2 _ hv)
  have B2:=ħ b2'
  clear hv b2'
  go_wp2_with fail
  refine HH.o.mono ?_
  rintro e w3 ⟨rfl,rfl⟩
  go_wp2
  go_ret
  exact⟨ret_bool (by rw[HV.o];rfl),B2.o⟩
theorem dot_stop (l:List Nat) (i:Nat) (hi:i<l.length) (h:∀ j,j<i→l.getD j 0≠46) (h2:l.getD i 0=46):runN notDot l=i :=
 (runN_eq notDot l i (by omega) (fun j hj=>by unfold notDot;simpa using h j hj) (fun _=>by unfold notDot;rw[h2];rfl)).symm
theorem dot_none (l:List Nat) (h:∀ j,j<l.length→l.getD j 0≠46):runN notDot l=l.length :=
 (runN_eq notDot l l.length (by omega) (fun j hj=>by unfold notDot;simpa using h j hj) (fun h=>absurd h (by omega))).symm
theorem rvname_any (l:List Nat) (w:World) (hl:l.length≤1000000) (hb:∀ y∈l,y<256) :
  Calls Tryz.prog 22 #[.string (strN l)] w fun e w'=>e = .returned (.bool (validN l))∧RowKit.Below w.heap.size w w':=by
 have SZ:=ħ (strN_size l)
 have HX:Hid (∀ i:Nat,i<l.length→∀ w,(Instr.index 9 (.string (strN l)) (.int .i64 (i:Int))).run Tryz.prog w = .ok (.int .u8 ((l.getD i 0:Nat):Int)) w):=ħ (fun i hi w=>str_at l i hi hb w)
 have HS:Hid (∀ i:Nat,i≤l.length→∀ w,(Instr.slice 9 (.string (strN l)) (some (.int .i64 (i:Int))) none none).run Tryz.prog w = .ok (.string (strN (l.drop i))) w):=ħ (fun i hi w=>str_from l i hi w)
 have HU:Hid (∀ i:Nat,i≤l.length→∀ w,(Instr.slice 9 (.string (strN l)) none (some (.int .i64 (i:Int))) none).run Tryz.prog w = .ok (.string (strN (l.take i))) w):=ħ (fun i hi w=>str_upto l i hi w)
 have HF1:=ħ (fun (i:Nat) W=>rfree_any (l.take i) W (by rw[List.length_take];omega) (fun y hy=>hb y (List.mem_of_mem_take hy)))
 have HF2:=ħ (fun (i:Nat) W=>rfree_any (l.drop i) W (by rw[List.length_drop];omega) (fun y hy=>hb y (List.mem_of_mem_drop hy)))
 have HV:Hid (validN l=(decide (runN notDot l<l.length)&&(freeB (l.take (runN notDot l))&&freeB (l.drop (runN notDot l+1))))):=ħ rfl
 have HB:=ħ hb
 have B0:=ħ (RowKit.Below.refl w.heap.size w)
 clear hb
 generalize validN l=V at *
 generalize strN l=t at *
 go_enter Tryz.func22,Tryz.ntmps22
 go_wp2_with fail
 go_loop [3] (fun c=>∃ i:Nat,c = .int .i64 i∧i≤l.length∧Hid (∀ j,j<i→l.getD j 0≠46)) (fun c=>(l.length-intOf c).toNat)
 case atStart=>exact⟨0,rfl,by omega,ħ (fun j hj=>absurd hj (Nat.not_lt_zero j))⟩
 case round =>
  obtain⟨i,rfl,hi,hz⟩:=hrel
  have hsz:=SZ.o
  have e2:IntKind.i64.wrap ((i:Int)+1)=((i+1:Nat):Int):=IntWalk.i64_in _ (by omega)
  by_cases hlt:i<l.length
  ·have hx:=HX.o i hlt
   have ii:(i:Int)<l.length:=by omega
   obtain⟨v,hv⟩:∃ v,l.getD i 0=v:=⟨_,rfl⟩
   rw[hv] at hx
   have HVV:=ħ hv
   clear hv
   by_cases h46:v=46
   ·have c1:((v:Int)==46)=true:=by rw[beq_iff_eq];omega
    have HR:Hid (runN notDot l=i):=ħ (dot_stop l i hlt hz.o (by rw[HVV.o];exact h46))
    have HV2:Hid (V=(freeB (l.take i)&&freeB (l.drop (i+1)))):=ħ (by rw[HV.o,HR.o,decide_eq_true hlt,Bool.true_and])
    have hu:=HU.o i (by omega)
    have hs:∀ w,(Instr.slice 9 (.string t) (some (.int .i64 ((i:Int)+1))) none none).run Tryz.prog w = .ok (.string (strN (l.drop (i+1)))) w:=fun w=>by
     have h:=HS.o (i+1) (by omega) w
     rwa [show ((i+1:Nat):Int)=(i:Int)+1 from by omega] at h
    have F1:=ħ (HF1.o i)
    have F2:=ħ (HF2.o (i+1))
    clear h46 HR HV hz HVV
    generalize freeB (l.take i)=b1 at *
    generalize freeB (l.drop (i+1))=b2 at *
    generalize strN (l.take i)=s1 at *
    generalize strN (l.drop (i+1))=s2 at *
    go_wp2_with fail
    refine (F1.o w).mono ?_
    rintro e w1 ⟨rfl,b1'⟩
    have B1:=ħ b1'
    clear b1'
    cases b1 with
    | false =>
     go_wp2
     go_ret
     exact⟨ret_bool (by rw[HV2.o];rfl),B1.o⟩
    | true =>
     go_wp2_with fail
     refine (F2.o w1).mono ?_
     rintro e w2 ⟨rfl,b2'⟩
     have B2:=ħ (B1.o.trans (b2'.mono B1.o.size))
     clear b2' hu hs hx F1 F2
     cases b2 with
     | false =>
      go_wp2
      go_ret
      exact⟨ret_bool (by rw[HV2.o];rfl),B2.o⟩
     | true =>
      go_wp2
      go_ret
      exact⟨ret_bool (by rw[HV2.o];rfl),B2.o⟩
   ·have c1:((v:Int)==46)=false:=by rw[beq_eq_false_iff_ne];omega
    have HZ:Hid (∀ j,j<i+1→l.getD j 0≠46):=ħ (fun j hj=>by
     rcases Nat.lt_or_ge j i with h | h
     ·exact hz.o j h
     ·obtain rfl:j=i:=by omega
      rw[HVV.o];exact h46)
    clear h46 hz
    go_wp2
    go_round
    case rel=>exact⟨i+1,by go_num,by omega,HZ⟩
    case measure=>simp only[intOf];omega
  ·have ii:¬ ((i:Int)<l.length):=by omega
   have HX:Hid (V=false):=ħ (by rw[HV.o,dot_none l (fun j hj=>hz.o j (by omega)),decide_eq_false (by omega)];rfl)
   go_wp2
   go_ret
   exact⟨ret_bool HX.o.symm,B0.o⟩
end
end Go.Proofs.YtmkdfbelbcocpaaGreatDoor
