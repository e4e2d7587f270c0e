import Derived.Deep.Quiet
import Derived.Lib.QuietBelow
import Derived.WalkSmall
import Derived.Test.YtmkdfbelbcocpaaGreatDoorHP25
import Derived.Test.YtmkdfbelbcocpaaGreatDoorHP1
import Derived.Test.YtmkdfbelbcocpaaGreatDoorShelf
set_option linter.unusedVariables false
set_option linter.unusedSimpArgs false
set_option maxHeartbeats 8000000
set_option maxRecDepth 100000
namespace Go.Proofs.YtmkdfbelbcocpaaGreatDoor
section
open Go.RowKit Go.Sort
def attT (K:Nat) (l:List Nat):List (List Nat):=if l=[] then [] else [l.take K,[46],l.drop (K+1)]
structure AttS (w wr:World) (R:Nat) (ao:Option Addr) (s:ByteArray) (pos:Nat) (ts:List (List Nat)):Prop where
 iter:wr.heap[w.heap.size]?=some (.stringIter s pos)
 toks:∃ a1 c1,PrtS wr R a1 c1 ts∧(∀ g,blk a1=some g→blk ao=some g∨w.heap.size≤g)∧Only w wr (fun g=>g=R∨blk ao=some g)∧blk a1≠some w.heap.size
theorem AttS.next {w wr:World} {R:Nat} {ao:Option Addr} {s:ByteArray} {pos:Nat} {ts:List (List Nat)} (h:AttS w wr R ao s pos ts) (hR:R<w.heap.size) (p':Nat):AttS w (wr.iterAt w.heap.size s p') R ao s p' ts:=by
 obtain⟨a1,c1,h1,h2,h3,h4⟩:=h.toks
 have hb:Only wr (wr.iterAt w.heap.size s p') (fun g=>g=w.heap.size):=⟨rfl,rfl,rfl,by rw[Lib.iterAt_size];exact Nat.le_refl _,fun g hl hp=>Lib.iterAt_other _ _ _ _ _ hp⟩
 exact⟨Lib.iterAt_heap wr w.heap.size s pos p' h.iter,a1,c1,h1.only hb (by omega) (fun g e=>fun e'=>h4 (e' ▸ e)),h2,⟨h3.os,h3.tape,h3.output,Nat.le_trans h3.size hb.size,fun g hl hp=>(hb.block g (Nat.lt_of_lt_of_le hl h3.size) (by omega)).trans (h3.block g hl hp)⟩,h4⟩
theorem AttS.drewN {w wr:World} {R:Nat} {ao:Option Addr} {s:ByteArray} {pos:Nat} {ts:List (List Nat)} (h:AttS w wr R ao s pos ts) (wd:World) (hd:Below wr.heap.size wr wd):AttS w wd R ao s pos ts:=by
 obtain⟨a1,c1,h1,h2,h3,h4⟩:=h.toks
 have hl:w.heap.size<wr.heap.size:=(Array.getElem?_eq_some_iff.1 h.iter).1
 exact⟨(hd.block _ hl).trans h.iter,a1,c1,h1.step hd,h2,h3.step hd,h4⟩
theorem AttS.put {w wr w':World} {R:Nat} {ao a1:Option Addr} {s:ByteArray} {pos:Nat} {ts':List (List Nat)} (h0:wr.heap[w.heap.size]?=some (.stringIter s pos)) (h2:∀ g,blk a1=some g→blk ao=some g∨w.heap.size≤g) (h3:Only w wr (fun g=>g=R∨blk ao=some g)) (h4:blk a1≠some w.heap.size)
  (hR:R<w.heap.size) (hp:PutR wr R a1 ts' w'):AttS w w' R ao s pos ts':=by
 obtain⟨a2,c2,h5,h6,h7⟩:=hp
 have hl:w.heap.size<wr.heap.size:=(Array.getElem?_eq_some_iff.1 h0).1
 refine⟨(h7.block _ hl (fun hh=>?_)).trans h0,a2,c2,h5,fun g e=>?_,⟨h7.os.trans h3.os,h7.tape.trans h3.tape,h7.output.trans h3.output,Nat.le_trans h3.size h7.size,fun g hg hp=>?_⟩,fun e=>?_⟩
 ·rcases hh with hh | hh
  ·omega
  ·exact h4 hh
 ·rcases h6 g e with h | h
  ·exact h2 g h
  ·exact .inr (Nat.le_trans h3.size h)
 ·refine (h7.block g (Nat.lt_of_lt_of_le hg h3.size) (fun hh=>?_)).trans (h3.block g hg hp)
  rcases hh with hh | hh
  ·exact hp (.inl hh)
  ·rcases h2 g hh with h | h
   ·exact hp (.inr h)
   ·omega
 ·rcases h6 _ e with h | h
  ·exact h4 h
  ·omega
theorem put_att {w wx wd:World} {R:Nat} {ao:Option Addr} {s:ByteArray} {p:Nat} {ss:List (List Nat)} (ls:List (List Nat)) (hA:AttS w wx R ao s p ss) (hR:R<w.heap.size) (hb:Below wx.heap.size wx wd) (n c:Nat) (hn:n=ls.length) (cs:Array Value) (T:TypeId) (hv:wd.heap[wx.heap.size]?=some (.cells cs T (0,0))) (hcs:cs=(ls.map (fun s=>Value.string (strN s))).toArray) (hbig:ss.length+n≤1000000) :
  Calls Tryz.prog 86 #[.pointer (some ⟨R,0,none⟩),.slice (some ⟨wx.heap.size,0,none⟩) n c] wd fun e w'=>e = .returned (.tuple #[])∧AttS w w' R ao s p (ss++ls):=by
 have hl:w.heap.size<wx.heap.size:=(Array.getElem?_eq_some_iff.1 hA.iter).1
 obtain⟨a1,c1,h1,h2,h3,h4⟩:=hA.toks
 refine (put_at wd R a1 c1 ss ls (h1.step hb) wx.heap.size n c hn cs T hv hcs (by omega) (fun e=>by have:=h1.blk_lt _ e;omega) hbig).mono ?_
 rintro e w' ⟨he,hp⟩
 exact⟨he,AttS.put ((hb.block _ hl).trans hA.iter) h2 (h3.step hb) h4 hR hp⟩
theorem AttS.size {w wr:World} {R:Nat} {ao:Option Addr} {s:ByteArray} {pos:Nat} {ts:List (List Nat)} (h:AttS w wr R ao s pos ts):w.heap.size<wr.heap.size:=(Array.getElem?_eq_some_iff.1 h.iter).1
theorem attr_any (w:World) (R:Nat) (ao:Option Addr) (cap:Nat) (ss:List (List Nat)) (h:PrtS w R ao cap ss) (l:List Nat) (K:Nat) (hD:∀ i,i<l.length→((l.getD i 0=46)↔i=K)) (hK:l≠[]→K<l.length) (h128:∀ y∈l,y<128) (hl:l.length≤1000) (hbig:ss.length+3≤1000000) :
  Calls Tryz.prog 212 #[.pointer (some ⟨R,0,none⟩),.string (strN l)] w fun e w'=>e = .returned (.tuple #[])∧PutR w R ao (ss++attT K l) w':=by
 have hRl:=h.blk.lt
 have S0:Hid (AttS w (w.iter (strN l) 0) R ao (strN l) 0 ss):=ħ (by
  have hb:Below w.heap.size w (w.iter (strN l) 0):=(Below.refl _ _).alloc (Nat.le_refl _) _
  exact⟨World.iter_heap w _ 0,ao,cap,h.step hb,fun g e=>.inl e,Only.of_below hb,fun e=>by have:=h.blk_lt _ e;omega⟩)
 have HSZ:=ħ (strN_size l)
 have hsz:=strN_size l
 have HAT:Hid (∀ i (hi:i<(strN l).size),((strN l)[i]'hi).toNat=l.getD i 0∧l.getD i 0<128):=ħ (fun i hi=>by
  rw[hsz] at hi
  have hm:=h128 l[i] (List.getElem_mem hi)
  simp[strN,List.getD,hi,ByteArray.getElem_eq_getElem_data]
  omega)
 have HIX:Hid (∀ i:Nat,i<l.length→∀ w,(Instr.index 9 (.string (strN l)) (.int .i64 (i:Int))).run Tryz.prog w = .ok (.int .u8 ((l.getD i 0:Nat):Int)) w):=ħ (fun i hi w=>str_at l i hi (fun y hy=>by have:=h128 y hy;omega) w)
 have HD:=ħ hD
 have HK:=ħ hK
 have HE:Hid (attT K l=if l=[] then [] else [l.take K,[46],l.drop (K+1)]):=ħ rfl
 obtain⟨T,hT⟩:∃ T,attT K l=T:=⟨_,rfl⟩
 rw[hT] at HE ⊢
 have HSU:Hid (∀ w,K≤l.length→(Instr.slice 9 (.string (strN l)) none (some (.int .i64 (K:Int))) none).run Tryz.prog w = .ok (.string (strN (l.take K))) w):=ħ (fun w hi=>str_upto l K hi w)
 have HSF:Hid (∀ w,K+1≤l.length→(Instr.slice 9 (.string (strN l)) (some (.int .i64 ((K:Int)+1))) none none).run Tryz.prog w = .ok (.string (strN (l.drop (K+1)))) w):=ħ (fun w hi=>by have:=str_from l (K+1) hi w;rwa [Int.natCast_succ] at this)
 clear hD hK h128 h hT hsz
 generalize strN l=s at *
 go_enter Tryz.func212,Tryz.ntmps212
 go_wp2_with fail
 go_loopw [4] (fun _ wr=>∃ (pos:Nat),pos≤l.length∧Hid (AttS w wr R ao s pos (if pos≤K then ss else ss++T))) (fun _ wr=>l.length-wr.iterPos w.heap.size)
 case atStart=>exact⟨0,Nat.zero_le _,ħ (by rw[if_pos (Nat.zero_le _)];exact S0.o)⟩
 case round =>
  clear S0
  obtain⟨pos,hp,hr⟩:=hrel
  have hpos0:=iterPos_of hr.o.iter
  by_cases hlt:pos<l.length
  ·have hnx:∀ ty,(Instr.next (.pointer (some ⟨w.heap.size,0,none⟩)) true ty).run Tryz.prog wr=_:=fun ty=>Lib.run_next_ascii_at wr w.heap.size s pos ty hr.o.iter (by rw[HSZ.o];exact hlt) (by rw[(HAT.o pos (by rw[HSZ.o];exact hlt)).1];exact (HAT.o pos (by rw[HSZ.o];exact hlt)).2)
   rw[(HAT.o pos (by rw[HSZ.o];exact hlt)).1] at hnx
   have hr1:=ħ (hr.o.next hRl (pos+1))
   have hix:=HIX.o pos hlt
   obtain⟨v,hv⟩:∃ v,l.getD pos 0=v:=⟨_,rfl⟩
   have HDP:=ħ (HD.o pos hlt)
   rw[hv] at hnx hix HDP
   clear hv hr
   obtain⟨wx,hwx⟩:∃ wx,wr.iterAt w.heap.size s (pos+1)=wx:=⟨_,rfl⟩
   rw[hwx] at hnx hr1
   clear hwx
   by_cases h46:v=46
   ·subst h46
    have hpk:pos=K:=HDP.o.1 rfl
    subst hpk
    have e2:IntKind.i64.wrap ((pos:Int)+1)=((pos+1:Nat):Int):=IntWalk.i64_in _ (by omega)
    have HT3:Hid (T=[l.take pos,[46],l.drop (pos+1)]):=ħ (by rw[HE.o,if_neg (by rintro rfl;exact absurd hlt (Nat.not_lt_zero _))])
    go_upto_region 4 with (fail)
    have hsu:=fun W=>HSU.o W (by omega)
    have hsf:=fun W=>HSF.o W (by omega)
    refine wp_region_mst (.pointer (some ⟨R,0,none⟩)) 7 (by kernel_rfl) (by kernel_rfl) (fun _ _ _ h=>h) (Or.inl ⟨by rfl,fun _=>rfl⟩) ?_
    simp only[List.take_succ_cons,List.take_zero,List.drop_succ_cons,List.drop_zero]
    repeat still_step
    refine wpStill_nil ?_
    clear hsu hsf
    go_wp2_with fail
    have hb0:Below wx.heap.size wx ((wx.alloc (.cells #[.string (strN (l.take pos)),.string ⟨#[46]⟩,.string (strN (l.drop (pos+1)))] 9)).drew):=((Below.refl wx.heap.size wx).alloc (Nat.le_refl _) _).drew
    have HV:Hid (((wx.alloc (.cells #[.string (strN (l.take pos)),.string ⟨#[46]⟩,.string (strN (l.drop (pos+1)))] 9)).drew).heap[wx.heap.size]?=some (.cells #[.string (strN (l.take pos)),.string ⟨#[46]⟩,.string (strN (l.drop (pos+1)))] 9 (0,0))):=ħ (heap_alloc_new wx _)
    rw[if_pos (Nat.le_refl pos)] at hr1
    refine (put_att T hr1.o hRl hb0 3 3 (by rw[HT3.o];rfl) _ _ HV.o (by rw[HT3.o];rfl) hbig).mono ?_
    rintro e w3 ⟨rfl,h3⟩
    have H3:=ħ h3
    clear h3 HV hb0
    go_wp2
    go_roundw
    case rel=>exact⟨pos+1,by omega,ħ (by rw[if_neg (by omega)];exact H3.o)⟩
    case measure=>rw[iterPos_of H3.o.iter,hpos0];omega
   ·have hpk:pos≠K:=fun e=>h46 (HDP.o.2 e)
    have h46b:((v:Int)==46)=false:=by rw[beq_eq_false_iff_ne];omega
    clear h46
    go_wp2_with fail
    go_roundw
    case rel=>exact⟨pos+1,by omega,ħ (by
     have:=hr1.o
     by_cases hle:pos≤K
     ·rw[if_pos hle] at this
      rw[if_pos (by omega)]
      exact this
     ·rw[if_neg hle] at this
      rw[if_neg (by omega)]
      exact this)⟩
    case measure=>rw[iterPos_of hr1.o.iter,hpos0];omega
  ·have hnx:∀ ty,(Instr.next (.pointer (some ⟨w.heap.size,0,none⟩)) true ty).run Tryz.prog wr=_:=fun ty=>Lib.run_next_end_at wr w.heap.size s pos ty hr.o.iter (by rw[HSZ.o];exact hlt)
   have HF:Hid ((if pos≤K then ss else ss++T)=ss++T):=ħ (by
    by_cases hn:l=[]
    ·rw[HE.o,if_pos hn,List.append_nil,ite_self]
    ·have:=HK.o hn
     rw[if_neg (by omega)])
   go_wp2_with fail
   go_end0
   have hrr:=hr.o
   rw[HF.o] at hrr
   obtain⟨a1,c1,h1,h2,h3,h4⟩:=hrr.toks
   exact⟨rfl,a1,c1,h1,h2,h3⟩
end
section
open Go.RowKit Go.Sort
def Pow (w:World):Prop:=Lib.TabIs Tryz.prog w "internal/strconv.uint64pow10" .u64 Lib.pow10Tab
theorem Pow.keep {w w':World} (h:Pow w) (hb:w'.heap[(3:Nat)]?=w.heap[(3:Nat)]?):Pow w':=by
 unfold Pow Lib.TabIs World.var? at h ⊢
 have hg:Tryz.prog.globalNamed "internal/strconv.uint64pow10"=some 3:=by kernel_rfl
 rw[hg] at h ⊢
 simp only[Option.bind_some] at h ⊢
 rw[hb]
 exact h
structure PW (w:World) (R B:Nat) (ao:Option Addr) (W:World) (bs:List (Nat×TypeId×List Value)) (ts:List (List Nat)):Prop where
 toks:∃ a1 c1,PrtS W R a1 c1 ts∧(∀ g,blk a1=some g→blk ao=some g∨w.heap.size≤g)∧Only w W (fun g=>g=R∨blk ao=some g)∧∀ b∈bs,HasV W b.1 b.2.1 b.2.2∧b.1≠R∧blk a1≠some b.1
 lo:6≤B
 low:B≤w.heap.size
 loR:B≤R
 row:∀ g,blk ao=some g→B≤g
 pow:Pow W
theorem PW.start {w:World} {R B:Nat} {ao:Option Addr} {cap:Nat} {ss:List (List Nat)} (h:PrtS w R ao cap ss) (h8:6≤B) (hl:B≤w.heap.size) (hR:B≤R) (hr:∀ g,blk ao=some g→B≤g) (hp:Pow w):PW w R B ao w [] ss :=
 ⟨⟨ao,cap,h,fun g e=>.inl e,Only.refl _ _,fun b hb=>absurd hb List.not_mem_nil⟩,h8,hl,hR,hr,hp⟩
theorem PW.size {w W:World} {R B:Nat} {ao:Option Addr} {bs:List (Nat×TypeId×List Value)} {ts:List (List Nat)} (h:PW w R B ao W bs ts):w.heap.size≤W.heap.size:=by obtain⟨a1,c1,h1,h2,h3,h4⟩:=h.toks;exact h3.size
theorem PW.ltR {w W:World} {R B:Nat} {ao:Option Addr} {bs:List (Nat×TypeId×List Value)} {ts:List (List Nat)} (h:PW w R B ao W bs ts):R<W.heap.size:=by obtain⟨a1,c1,h1,h2,h3,h4⟩:=h.toks;exact h1.blk.lt
theorem PW.below {w W:World} {R B:Nat} {ao:Option Addr} {bs:List (Nat×TypeId×List Value)} {ts:List (List Nat)} (h:PW w R B ao W bs ts):Below B w W:=by
 obtain⟨a1,c1,h1,h2,h3,h4⟩:=h.toks
 exact h3.below h.low (fun g hg=>by
  rcases hg with hg | hg
  ·exact hg ▸ h.loR
  ·exact h.row g hg)
theorem PW.step {w W W':World} {R B:Nat} {ao:Option Addr} {bs:List (Nat×TypeId×List Value)} {ts:List (List Nat)} (h:PW w R B ao W bs ts) (hb:Below W.heap.size W W'):PW w R B ao W' bs ts:=by
 obtain⟨a1,c1,h1,h2,h3,h4⟩:=h.toks
 refine⟨⟨a1,c1,h1.step hb,h2,h3.step hb,fun b hb'=>⟨(h4 b hb').1.step hb,(h4 b hb').2⟩⟩,h.lo,h.low,h.loR,h.row,h.pow.keep (hb.block _ ?_)⟩
 have:=h.lo;have:=h.loR;have:=h1.blk.lt
 show 3<W.heap.size
 omega
theorem PW.box {w W W':World} {R B:Nat} {ao:Option Addr} {bs:List (Nat×TypeId×List Value)} {ts:List (List Nat)} (h:PW w R B ao W bs ts) (hb:Below W.heap.size W W') (X:Nat) (T:TypeId) (cs:List Value) (hX:W.heap.size≤X) (hv:HasV W' X T cs):PW w R B ao W' ((X,T,cs)::bs) ts:=by
 have h':=h.step hb
 obtain⟨a1,c1,h1,h2,h3,h4⟩:=h.toks
 refine⟨⟨a1,c1,h1.step hb,h2,h3.step hb,fun b hb'=>?_⟩,h.lo,h.low,h.loR,h.row,h'.pow⟩
 rcases List.mem_cons.1 hb' with rfl | hb'
 ·exact⟨hv,(by show X≠R;have:=h1.blk.lt;omega),fun e=>by have e':blk a1=some X:=e;have:=h1.blk_lt _ e';omega⟩
 ·exact⟨(h4 b hb').1.step hb,(h4 b hb').2⟩
theorem PW.sub {w W:World} {R B:Nat} {ao:Option Addr} {bs bs':List (Nat×TypeId×List Value)} {ts:List (List Nat)} (h:PW w R B ao W bs ts) (hs:∀ b∈bs',b∈bs):PW w R B ao W bs' ts:=by
 obtain⟨a1,c1,h1,h2,h3,h4⟩:=h.toks
 exact⟨⟨a1,c1,h1,h2,h3,fun b hb=>h4 b (hs b hb)⟩,h.lo,h.low,h.loR,h.row,h.pow⟩
theorem PW.has {w W:World} {R B:Nat} {ao:Option Addr} {bs:List (Nat×TypeId×List Value)} {ts:List (List Nat)} (h:PW w R B ao W bs ts) (b:Nat×TypeId×List Value) (hb:b∈bs):HasV W b.1 b.2.1 b.2.2:=by
 obtain⟨a1,c1,h1,h2,h3,h4⟩:=h.toks
 exact (h4 b hb).1
theorem PW.done {w W:World} {R B:Nat} {ao:Option Addr} {bs:List (Nat×TypeId×List Value)} {ts:List (List Nat)} (h:PW w R B ao W bs ts):PutR w R ao ts W:=by
 obtain⟨a1,c1,h1,h2,h3,h4⟩:=h.toks
 exact⟨a1,c1,h1,h2,h3⟩
theorem PW.call {w W:World} {R B:Nat} {ao:Option Addr} {bs:List (Nat×TypeId×List Value)} {ts ts':List (List Nat)} {f:FuncId} {args:Array Value} (h:PW w R B ao W bs ts)
  (hc:∀ a1 c1,PrtS W R a1 c1 ts→(∀ g,blk a1=some g→B≤g)→Calls Tryz.prog f args W fun e w'=>e = .returned (.tuple #[])∧PutR W R a1 ts' w') :
  Calls Tryz.prog f args W fun e w'=>e = .returned (.tuple #[])∧PW w R B ao w' bs ts':=by
 obtain⟨a1,c1,h1,h2,h3,h4⟩:=h.toks
 have hrow:∀ g,blk a1=some g→B≤g:=fun g e=>by
  rcases h2 g e with h' | h'
  ·exact h.row g h'
  ·exact Nat.le_trans h.low h'
 refine (hc a1 c1 h1 hrow).mono ?_
 rintro e w' ⟨he,hp⟩
 have hp2:=PutR.trans h2 h3 hp
 obtain⟨a2,c2,q1,q2,q3⟩:=hp
 obtain⟨a3,c3,q4,q5,q6⟩:=hp2
 have hl:B≤W.heap.size:=Nat.le_trans h.low h3.size
 refine⟨he,⟨a2,c2,q1,fun g e=>?_,q6,fun b hb=>⟨(h4 b hb).1.only q3 (fun hh=>?_),(h4 b hb).2.1,fun e=>?_⟩⟩,h.lo,h.low,h.loR,h.row,h.pow.keep (q3.block _ ?_ (fun hh=>?_))⟩
 ·rcases q2 g e with h' | h'
  ·exact h2 g h'
  ·exact .inr (Nat.le_trans h3.size h')
 ·rcases hh with hh | hh
  ·exact (h4 b hb).2.1 hh
  ·exact (h4 b hb).2.2 hh
 ·rcases q2 _ e with h' | h'
  ·exact (h4 b hb).2.2 h'
  ·have:=(h4 b hb).1.lt;omega
 ·have:=h.lo
  show 3<W.heap.size
  omega
 ·have h3':(3:Nat)<B:=Nat.lt_of_lt_of_le (by decide) h.lo
  rcases hh with hh | hh
  ·have hh':(3:Nat)=R:=hh
   have:=h.loR
   omega
  ·have hh':blk a1=some 3:=hh
   have:=hrow _ hh'
   omega
theorem PW.put {w W:World} {R B:Nat} {ao:Option Addr} {bs:List (Nat×TypeId×List Value)} {ts:List (List Nat)} (ls:List (List Nat)) (h:PW w R B ao W bs ts) (cs:Array Value) (n c:Nat) (hn:n=ls.length) (hcs:cs=(ls.map (fun s=>Value.string (strN s))).toArray) (hbig:ts.length+n≤1000000) :
  Calls Tryz.prog 86 #[.pointer (some ⟨R,0,none⟩),.slice (some ⟨W.heap.size,0,none⟩) n c] (W.alloc (.cells cs 9)) fun e w'=>e = .returned (.tuple #[])∧PW w R B ao w' bs (ts++ls):=by
 have hA:Below W.heap.size W (W.alloc (.cells cs 9)):=(Below.refl _ _).alloc (Nat.le_refl _) _
 obtain⟨a0,c0,p0,-⟩:=h.toks
 have h':=h.box hA W.heap.size 9 cs.toList (Nat.le_refl _) (heap_alloc_new W _)
 obtain⟨a9,c9,h1,h2,h3,h4⟩:=h'.toks
 have hb:=h4 _ (List.mem_cons_self ..)
 refine ((h'.call (f:=86) (ts':=ts++ls) (args:=#[.pointer (some ⟨R,0,none⟩),.slice (some ⟨W.heap.size,0,none⟩) n c]) (fun a1 c1 hp hr=>?_)).mono ?_)
 ·refine put_at _ R a1 c1 ts ls hp W.heap.size n c hn cs 9 (heap_alloc_new W _) hcs (by have:=p0.blk.lt;omega) (fun e=>?_) hbig
  have e9:=Eq.trans (Eq.symm hp.blk) h1.blk
  simp only[Option.some.injEq,Obj.cells.injEq,List.toArray_inj,List.cons.injEq,Value.slice.injEq,and_true,true_and] at e9
  have e8:a1=a9:=by injection e9 with e9;injection e9 with e9 _;injection e9
  rw[e8] at e
  exact hb.2.2 e
 ·rintro e w' ⟨he,hp⟩
  exact⟨he,hp.sub (fun b hb=>List.mem_cons_of_mem _ hb)⟩
end
section
open Go.RowKit Go.Sort
def itoaN (c:Int):List Nat:=(Lib.itoa c).map (·.toNat)
theorem itoaN_str (c:Int):strN (itoaN c)=⟨(Lib.itoa c).toArray⟩:=by
 unfold strN itoaN
 rw[List.map_map]
 congr 2
 have:∀ l:List UInt8,l.map (UInt8.ofNat ∘ (·.toNat))=l:=fun l=>by
  induction l with
  | nil=>rfl
  | cons x l ih=>rw[List.map_cons,ih];congr 1;simp
 exact this _
theorem below_gr (w:World) (k:Nat) (os:Array Obj):Below w.heap.size w (grow (w.drewN k) os) :=
 ⟨rfl,rfl,rfl,by simp[grow,World.drewN],fun j hj=>by simp[grow,World.drewN,Array.getElem?_append,hj]⟩
theorem itoa_any (c:Int) (h0:-9223372036854775808≤c) (h1:c≤9223372036854775807) (W:World) (hp:Pow W) :
  Calls Tryz.prog 151 #[.int .i64 c] W fun e w'=>e = .returned (.string (strN (itoaN c)))∧Below W.heap.size W w':=by
 refine (Tryz.strconv_Itoa c h0 h1 W hp).mono ?_
 rintro e w' ⟨he,k,os,rfl⟩
 exact⟨by rw[he,itoaN_str],below_gr W k os⟩
structure AttN (l:List Nat) (K:Nat):Prop where
 hD:∀ i,i<l.length→((l.getD i 0=46)↔i=K)
 hK:l≠[]→K<l.length
 h128:∀ y∈l,y<128
 hl:l.length≤1000
theorem notDot_iff (c:Nat):notDot c=true↔c≠46:=by simp[notDot]
theorem runN_pre (p:Nat→Bool) (a:List Nat) (c:Nat) (b:List Nat) (ha:∀ y∈a,p y=true) (hc:p c=false):runN p (a++c::b)=a.length:=by
 unfold runN
 rw[List.takeWhile_append_of_pos ha,List.takeWhile_cons,hc]
 simp
theorem attN_of {l:List Nat} (h:optN l=true):AttN l (runN notDot l):=by
 unfold optN at h
 rw[Bool.or_eq_true,beq_iff_eq] at h
 rcases h with rfl | h
 ·exact⟨fun i hi=>absurd hi (Nat.not_lt_zero i),fun h=>absurd rfl h,fun y hy=>absurd hy List.not_mem_nil,Nat.zero_le _⟩
 ·obtain⟨a,b,rfl,-,-,h1,h2,h3,h4⟩:=valid_parts h
  have hk:runN notDot (a++46::b)=a.length:=runN_pre notDot a 46 b (fun y hy=>(notDot_iff y).2 (h1 y hy).2) (by decide)
  rw[hk]
  refine⟨fun i hi=>?_,fun _=>by simp,fun y hy=>?_,by simp;omega⟩
  ·rcases Nat.lt_trichotomy i a.length with h | h | h
   ·have e:(a++46::b).getD i 0=a[i]:=by simp[List.getD,List.getElem?_append_left h,h]
    rw[e]
    exact⟨fun e=>absurd e (h1 _ (List.getElem_mem h)).2,fun e=>by omega⟩
   ·subst h
    simp[List.getD]
   ·obtain⟨j,rfl⟩:∃ j,i=a.length+(j+1):=⟨i-a.length-1,by omega⟩
    have hj:j<b.length:=by simp at hi;omega
    have e:(a++46::b).getD (a.length+(j+1)) 0=b[j]:=by
     simp[List.getD,List.getElem?_append_right,hj]
    rw[e]
    exact⟨fun e=>absurd e (h2 _ (List.getElem_mem hj)).2,fun e=>by omega⟩
  ·rcases List.mem_append.1 hy with hy | hy
   ·exact (h1 y hy).1
   ·rcases List.mem_cons.1 hy with rfl | hy
    ·decide
    ·exact (h2 y hy).1
def attL (l:List Nat):List (List Nat):=attT (runN notDot l) l
theorem PW.attr {w W:World} {R B:Nat} {ao:Option Addr} {bs:List (Nat×TypeId×List Value)} {ts:List (List Nat)} (h:PW w R B ao W bs ts) (l:List Nat) (hl:optN l=true) (hbig:ts.length+3≤1000000) :
  Calls Tryz.prog 212 #[.pointer (some ⟨R,0,none⟩),.string (strN l)] W fun e w'=>e = .returned (.tuple #[])∧PW w R B ao w' bs (ts++attL l):=by
 have hn:=attN_of hl
 exact h.call (fun a1 c1 hp hr=>attr_any W R a1 c1 ts hp l (runN notDot l) hn.hD hn.hK hn.h128 hn.hl hbig)
end
section
open Go.RowKit Go.Sort
def conT (r:List Nat) (c:Int):List (List Nat):=if c<0 then [[45],itoaN (-c)] else if r=[] then [itoaN c] else if 0<c then [[43],itoaN c] else []
def zerT (l:List Nat):List (List Nat):=if l=[] then [[48]] else []
def atomT (l r:List Nat) (c:Int):List (List Nat):=zerT l++attL l++[[60,61]]++attL r++conT r c
theorem attL_len (l:List Nat):(attL l).length≤3:=by unfold attL attT;split<;>simp
theorem patom_any (w:World) (R B:Nat) (ao:Option Addr) (cap:Nat) (ss:List (List Nat)) (h:PrtS w R ao cap ss) (h8:6≤B) (hB:B≤w.heap.size) (hR:B≤R) (hr:∀ g,blk ao=some g→B≤g) (hp:Pow w)
  (κ:Int) (l r:List Nat) (c:Int) (ka:Option Addr) (n kc:Nat) (hl:optN l=true) (hrn:optN r=true) (hc:inC c=true) (hbig:ss.length≤990000) :
  Calls Tryz.prog 150 #[.pointer (some ⟨R,0,none⟩),.agg #[.int .i64 κ,.string (strN l),.string (strN r),.int .i64 c,.slice ka n kc]] w fun e w'=>e = .returned (.tuple #[])∧PutR w R ao (ss++atomT l r c) w':=by
 have bx:=(Below.refl w.heap.size w).alloc (Nat.le_refl _) (.cells #[.int .i64 κ,.string (strN l),.string (strN r),.int .i64 c,.slice ka n kc] 25)
 have P1:Hid (PW w R B ao (w.alloc (.cells #[.int .i64 κ,.string (strN l),.string (strN r),.int .i64 c,.slice ka n kc] 25)) [(w.heap.size,25,[.int .i64 κ,.string (strN l),.string (strN r),.int .i64 c,.slice ka n kc])] ss):=ħ ((PW.start h h8 hB hR hr hp).box bx w.heap.size 25 _ (Nat.le_refl _) (heap_alloc_new w _))
 have HAL:Hid (∀ W bs ts,PW w R B ao W bs ts→ts.length+3≤1000000→Calls Tryz.prog 212 #[.pointer (some ⟨R,0,none⟩),.string (strN l)] W fun e w'=>e = .returned (.tuple #[])∧PW w R B ao w' bs (ts++attL l)):=ħ (fun W bs ts h hb=>h.attr l hl hb)
 have HAR:Hid (∀ W bs ts,PW w R B ao W bs ts→ts.length+3≤1000000→Calls Tryz.prog 212 #[.pointer (some ⟨R,0,none⟩),.string (strN r)] W fun e w'=>e = .returned (.tuple #[])∧PW w R B ao w' bs (ts++attL r)):=ħ (fun W bs ts h hb=>h.attr r hrn hb)
 have HLL:=attL_len l
 have HLR:=attL_len r
 have HT:Hid (atomT l r c=zerT l++attL l++[[60,61]]++attL r++conT r c):=ħ rfl
 have HZ:Hid (zerT l=if l=[] then [[48]] else []):=ħ rfl
 have HC:Hid (conT r c=if c<0 then [[45],itoaN (-c)] else if r=[] then [itoaN c] else if 0<c then [[43],itoaN c] else []):=ħ rfl
 have hcc:-1099511627776≤c∧c<1099511627776:=by unfold inC at hc;simpa using hc
 have HE:Hid ((strN l).toList.isEmpty=decide (l=[])∧(strN r).toList.isEmpty=decide (r=[])):=ħ (by
  have:∀ m:List Nat,(strN m).toList.isEmpty=decide (m=[]):=fun m=>by
   cases m with
   | nil=>exact strN_isE0.trans rfl
   | cons a b=>rw[strN_isE _ (by simp)];rfl
  exact⟨this l,this r⟩)
 have hle1:=HE.o.1
 have hle2:=HE.o.2
 obtain⟨T,hT⟩:∃ T,atomT l r c=T:=⟨_,rfl⟩
 rw[hT] at HT ⊢
 have ew:IntKind.i64.wrap (-c) = -c:=IntWalk.i64_in _ (by omega)
 clear bx hl hrn hc h hp hT HE hr
 generalize attL l=tl at *
 generalize attL r=tr at *
 generalize zerT l=z at *
 generalize conT r c=tc at *
 generalize strN l=y1 at *
 generalize strN r=y2 at *
 go_enter Tryz.func150,Tryz.ntmps150
 go_upto_region 1 with (fail)
 generalize w.alloc (.cells #[.int .i64 κ,.string y1,.string y2,.int .i64 c,.slice ka n kc] 25)=w1 at *
 have x1:=(P1.o.has _ (List.mem_singleton.2 rfl)).cell 1 _ rfl
 by_cases hl0:l=[]
 ·have hle1':y1.toList.isEmpty=true:=by rw[hle1];exact decide_eq_true hl0
  have HZ2:Hid (z=[[48]]):=ħ (by rw[HZ.o,if_pos hl0])
  clear hle1 HZ hl0
  have hput:=ħ (PW.put [[48]] P1.o #[.string ⟨#[48]⟩] 1 1 rfl rfl (by omega))
  go_wp2_with fail
  refine hput.o.mono ?_
  rintro e w2 ⟨rfl,p2⟩
  have PA:Hid (PW w R B ao w2 [(w.heap.size,25,[.int .i64 κ,.string y1,.string y2,.int .i64 c,.slice ka n kc])] (ss++z)):=ħ (by rw[HZ2.o];exact p2)
  have hzl:z.length≤1:=by rw[HZ2.o];exact Nat.le_refl _
  clear p2 x1 P1 hput HZ2
  go_upto_region 3 with (fail)
  have x1:=(PA.o.has _ (List.mem_singleton.2 rfl)).cell 1 _ rfl
  go_wp2_with fail
  refine (HAL.o _ _ _ PA.o (by rw[List.length_append];omega)).mono ?_
  rintro e w3 ⟨rfl,p3⟩
  have P3:=ħ p3
  clear p3 x1 PA HAL
  have hput:=ħ (PW.put [[60,61]] P3.o #[.string ⟨#[60,61]⟩] 1 1 rfl rfl (by rw[List.length_append,List.length_append];omega))
  go_wp2_with fail
  refine hput.o.mono ?_
  rintro e w4 ⟨rfl,p4⟩
  have P4:=ħ p4
  clear p4 P3 hput
  have x2:=(P4.o.has _ (List.mem_singleton.2 rfl)).cell 2 _ rfl
  go_wp2_with fail
  refine (HAR.o _ _ _ P4.o (by rw[List.length_append,List.length_append,List.length_append,List.length_singleton];omega)).mono ?_
  rintro e w5 ⟨rfl,p5⟩
  have P5:=ħ p5
  clear p5 P4 HAR x2
  have x2:=(P5.o.has _ (List.mem_singleton.2 rfl)).cell 2 _ rfl
  have x3:=(P5.o.has _ (List.mem_singleton.2 rfl)).cell 3 _ rfl
  have hlen:(ss++z++tl++[[60,61]]++tr).length≤999000:=by rw[List.length_append,List.length_append,List.length_append,List.length_append,List.length_singleton];omega
  have hpow:=P5.o.pow
  by_cases cn:c<0
  ·have HC2:Hid (tc=[[45],itoaN (-c)]):=ħ (by rw[HC.o,if_pos cn])
   have HIT:=ħ (itoa_any (-c) (by omega) (by omega) w5 hpow)
   clear HC hpow
   go_wp2_with fail
   refine HIT.o.mono ?_
   rintro e w6 ⟨rfl,b6⟩
   have P6:=ħ (P5.o.step b6)
   have HX:Hid (#[Value.string ⟨#[45]⟩,.string (strN (itoaN (-c)))]=(([[45],itoaN (-c)]:List (List Nat)).map (fun s=>Value.string (strN s))).toArray):=ħ rfl
   have hput:=ħ (PW.put [[45],itoaN (-c)] P6.o #[.string ⟨#[45]⟩,.string (strN (itoaN (-c)))] 2 2 rfl HX.o (by omega))
   clear b6 P5 x2 x3 HIT HX
   generalize strN (itoaN (-c))=yi at *
   go_wp2_with fail
   refine hput.o.mono ?_
   rintro e w7 ⟨rfl,p7⟩
   have P7:=ħ p7
   clear p7 P6 hput
   go_wp2
   go_end0
   exact⟨rfl,by rw[HT.o,HC2.o];have:=P7.o.done;simpa only[List.append_assoc] using this⟩
  ·by_cases hr0:r=[]
   ·have hle2':y2.toList.isEmpty=true:=by rw[hle2];exact decide_eq_true hr0
    have HC2:Hid (tc=[itoaN c]):=ħ (by rw[HC.o,if_neg cn,if_pos hr0])
    have HIT:=ħ (itoa_any c (by omega) (by omega) w5 hpow)
    clear HC hle2 hr0 hpow
    go_wp2_with fail
    refine HIT.o.mono ?_
    rintro e w6 ⟨rfl,b6⟩
    have P6:=ħ (P5.o.step b6)
    have HX:Hid (#[Value.string (strN (itoaN c))]=(([itoaN c]:List (List Nat)).map (fun s=>Value.string (strN s))).toArray):=ħ rfl
    have hput:=ħ (PW.put [itoaN c] P6.o #[.string (strN (itoaN c))] 1 1 rfl HX.o (by omega))
    clear b6 P5 x2 x3 HIT HX
    generalize strN (itoaN c)=yi at *
    go_wp2_with fail
    refine hput.o.mono ?_
    rintro e w7 ⟨rfl,p7⟩
    have P7:=ħ p7
    clear p7 P6 hput
    go_wp2
    go_end0
    exact⟨rfl,by rw[HT.o,HC2.o];have:=P7.o.done;simpa only[List.append_assoc] using this⟩
   ·have hle2':y2.toList.isEmpty=false:=by rw[hle2];exact decide_eq_false hr0
    by_cases cp:0<c
    ·have HC2:Hid (tc=[[43],itoaN c]):=ħ (by rw[HC.o,if_neg cn,if_neg hr0,if_pos cp])
     have HIT:=ħ (itoa_any c (by omega) (by omega) w5 hpow)
     clear HC hle2 hr0 hpow
     go_wp2_with fail
     refine HIT.o.mono ?_
     rintro e w6 ⟨rfl,b6⟩
     have P6:=ħ (P5.o.step b6)
     have HX:Hid (#[Value.string ⟨#[43]⟩,.string (strN (itoaN c))]=(([[43],itoaN c]:List (List Nat)).map (fun s=>Value.string (strN s))).toArray):=ħ rfl
     have hput:=ħ (PW.put [[43],itoaN c] P6.o #[.string ⟨#[43]⟩,.string (strN (itoaN c))] 2 2 rfl HX.o (by omega))
     clear b6 P5 x2 x3 HIT HX
     generalize strN (itoaN c)=yi at *
     go_wp2_with fail
     refine hput.o.mono ?_
     rintro e w7 ⟨rfl,p7⟩
     have P7:=ħ p7
     clear p7 P6 hput
     go_wp2
     go_end0
     exact⟨rfl,by rw[HT.o,HC2.o];have:=P7.o.done;simpa only[List.append_assoc] using this⟩
    ·have HC2:Hid (tc=[]):=ħ (by rw[HC.o,if_neg cn,if_neg hr0,if_neg cp])
     clear HC hle2 hr0 hpow
     go_wp2
     go_end0
     exact⟨rfl,by rw[HT.o,HC2.o];have:=P5.o.done;simpa only[List.append_assoc,List.append_nil] using this⟩
 ·have hle1':y1.toList.isEmpty=false:=by rw[hle1];exact decide_eq_false hl0
  have HZ2:Hid (z=[]):=ħ (by rw[HZ.o,if_neg hl0])
  have PA:Hid (PW w R B ao w1 [(w.heap.size,25,[.int .i64 κ,.string y1,.string y2,.int .i64 c,.slice ka n kc])] (ss++z)):=ħ (by rw[HZ2.o,List.append_nil];exact P1.o)
  have hzl:z.length≤1:=by rw[HZ2.o];exact Nat.zero_le _
  clear hle1 HZ hl0 P1 HZ2
  go_upto_region 3 with (fail)
  clear x1
  have x1:=(PA.o.has _ (List.mem_singleton.2 rfl)).cell 1 _ rfl
  go_wp2_with fail
  refine (HAL.o _ _ _ PA.o (by rw[List.length_append];omega)).mono ?_
  rintro e w3 ⟨rfl,p3⟩
  have P3:=ħ p3
  clear p3 x1 PA HAL
  have hput:=ħ (PW.put [[60,61]] P3.o #[.string ⟨#[60,61]⟩] 1 1 rfl rfl (by rw[List.length_append,List.length_append];omega))
  go_wp2_with fail
  refine hput.o.mono ?_
  rintro e w4 ⟨rfl,p4⟩
  have P4:=ħ p4
  clear p4 P3 hput
  have x2:=(P4.o.has _ (List.mem_singleton.2 rfl)).cell 2 _ rfl
  go_wp2_with fail
  refine (HAR.o _ _ _ P4.o (by rw[List.length_append,List.length_append,List.length_append,List.length_singleton];omega)).mono ?_
  rintro e w5 ⟨rfl,p5⟩
  have P5:=ħ p5
  clear p5 P4 HAR x2
  have x2:=(P5.o.has _ (List.mem_singleton.2 rfl)).cell 2 _ rfl
  have x3:=(P5.o.has _ (List.mem_singleton.2 rfl)).cell 3 _ rfl
  have hlen:(ss++z++tl++[[60,61]]++tr).length≤999000:=by rw[List.length_append,List.length_append,List.length_append,List.length_append,List.length_singleton];omega
  have hpow:=P5.o.pow
  by_cases cn:c<0
  ·have HC2:Hid (tc=[[45],itoaN (-c)]):=ħ (by rw[HC.o,if_pos cn])
   have HIT:=ħ (itoa_any (-c) (by omega) (by omega) w5 hpow)
   clear HC hpow
   go_wp2_with fail
   refine HIT.o.mono ?_
   rintro e w6 ⟨rfl,b6⟩
   have P6:=ħ (P5.o.step b6)
   have HX:Hid (#[Value.string ⟨#[45]⟩,.string (strN (itoaN (-c)))]=(([[45],itoaN (-c)]:List (List Nat)).map (fun s=>Value.string (strN s))).toArray):=ħ rfl
   have hput:=ħ (PW.put [[45],itoaN (-c)] P6.o #[.string ⟨#[45]⟩,.string (strN (itoaN (-c)))] 2 2 rfl HX.o (by omega))
   clear b6 P5 x2 x3 HIT HX
   generalize strN (itoaN (-c))=yi at *
   go_wp2_with fail
   refine hput.o.mono ?_
   rintro e w7 ⟨rfl,p7⟩
   have P7:=ħ p7
   clear p7 P6 hput
   go_wp2
   go_end0
   exact⟨rfl,by rw[HT.o,HC2.o];have:=P7.o.done;simpa only[List.append_assoc] using this⟩
  ·by_cases hr0:r=[]
   ·have hle2':y2.toList.isEmpty=true:=by rw[hle2];exact decide_eq_true hr0
    have HC2:Hid (tc=[itoaN c]):=ħ (by rw[HC.o,if_neg cn,if_pos hr0])
    have HIT:=ħ (itoa_any c (by omega) (by omega) w5 hpow)
    clear HC hle2 hr0 hpow
    go_wp2_with fail
    refine HIT.o.mono ?_
    rintro e w6 ⟨rfl,b6⟩
    have P6:=ħ (P5.o.step b6)
    have HX:Hid (#[Value.string (strN (itoaN c))]=(([itoaN c]:List (List Nat)).map (fun s=>Value.string (strN s))).toArray):=ħ rfl
    have hput:=ħ (PW.put [itoaN c] P6.o #[.string (strN (itoaN c))] 1 1 rfl HX.o (by omega))
    clear b6 P5 x2 x3 HIT HX
    generalize strN (itoaN c)=yi at *
    go_wp2_with fail
    refine hput.o.mono ?_
    rintro e w7 ⟨rfl,p7⟩
    have P7:=ħ p7
    clear p7 P6 hput
    go_wp2
    go_end0
    exact⟨rfl,by rw[HT.o,HC2.o];have:=P7.o.done;simpa only[List.append_assoc] using this⟩
   ·have hle2':y2.toList.isEmpty=false:=by rw[hle2];exact decide_eq_false hr0
    by_cases cp:0<c
    ·have HC2:Hid (tc=[[43],itoaN c]):=ħ (by rw[HC.o,if_neg cn,if_neg hr0,if_pos cp])
     have HIT:=ħ (itoa_any c (by omega) (by omega) w5 hpow)
     clear HC hle2 hr0 hpow
     go_wp2_with fail
     refine HIT.o.mono ?_
     rintro e w6 ⟨rfl,b6⟩
     have P6:=ħ (P5.o.step b6)
     have HX:Hid (#[Value.string ⟨#[43]⟩,.string (strN (itoaN c))]=(([[43],itoaN c]:List (List Nat)).map (fun s=>Value.string (strN s))).toArray):=ħ rfl
     have hput:=ħ (PW.put [[43],itoaN c] P6.o #[.string ⟨#[43]⟩,.string (strN (itoaN c))] 2 2 rfl HX.o (by omega))
     clear b6 P5 x2 x3 HIT HX
     generalize strN (itoaN c)=yi at *
     go_wp2_with fail
     refine hput.o.mono ?_
     rintro e w7 ⟨rfl,p7⟩
     have P7:=ħ p7
     clear p7 P6 hput
     go_wp2
     go_end0
     exact⟨rfl,by rw[HT.o,HC2.o];have:=P7.o.done;simpa only[List.append_assoc] using this⟩
    ·have HC2:Hid (tc=[]):=ħ (by rw[HC.o,if_neg cn,if_neg hr0,if_neg cp])
     clear HC hle2 hr0 hpow
     go_wp2
     go_end0
     exact⟨rfl,by rw[HT.o,HC2.o];have:=P5.o.done;simpa only[List.append_assoc,List.append_nil] using this⟩
end
end Go.Proofs.YtmkdfbelbcocpaaGreatDoor
