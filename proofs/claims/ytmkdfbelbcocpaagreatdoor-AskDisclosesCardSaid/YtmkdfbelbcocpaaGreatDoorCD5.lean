import Derived.Laws.BytesArg
import Derived.Test.YtmkdfbelbcocpaaGreatDoorCD4
set_option linter.unusedVariables false
set_option linter.unusedSimpArgs false
set_option maxHeartbeats 4000000
set_option maxRecDepth 100000
namespace Go.Proofs.YtmkdfbelbcocpaaGreatDoor
section
open Go.RowKit
theorem Zgb {o:Option TypeInfo} {z:Option Value} {s b:Nat} (h:o.map (fun i=>(i.zero,i.size,i.bytes))=some (z,s,b)):∃ i,o=some i∧i.zero=z∧i.size=s∧i.bytes=b:=by
 cases o with
 | none=>cases h
 | some i=>simp only[Option.map_some,Option.some.injEq,Prod.mk.injEq] at h;exact⟨i,rfl,h.1,h.2.1,h.2.2⟩
def Znm:Value:=.agg #[.int .i64 0,.string ⟨#[]⟩,.string ⟨#[]⟩,.int .i64 0,.slice none 0 0]
def Z9d:Value:=.agg #[.int .i64 0,.string ⟨#[]⟩,.int .i64 0,.int .i64 0]
theorem Zmv:(Tryz.prog.info? 5).map (fun i=>(i.zero,i.size,i.bytes))=some (some (.int .u8 0),1,1):=by kernel_rfl
theorem Z4s:(Tryz.prog.info? 169).map (fun i=>(i.zero,i.size,i.bytes))=some (some Z9d,4,40):=by kernel_rfl
theorem Zdo:(Tryz.prog.info? 25).map (fun i=>(i.zero,i.size,i.bytes))=some (some Znm,5,72):=by kernel_rfl
theorem Zd5:(Tryz.prog.info? 3).map (fun i=>(i.zero,i.size,i.bytes))=some (some (.int .i64 0),1,8):=by kernel_rfl
theorem Zfa {ops:Array Oper} {rest:List Oper} {o:Oper} {a:Act} {Q:Exit→Act→World→Prop} (T E:TypeId) (z:Value) (k bt:Nat)
  (hT:Tryz.prog.underlying T=some (.slice E)) (hE:(Tryz.prog.info? E).map (fun i=>(i.zero,i.size,i.bytes))=some (some z,k,bt)) (hz:z.cells.size=k) (hk:0<k) (hbt:bt≤1000)
  (w1:World) (B:Nat) (hg:o.guard=none) (s x:Operand) (hop:o.op=Op.call { callee:=Callee.builtin Builtin.append,args:=#[s,x],argTypes:=#[T,T] })
  (ao:Option Addr) (cap n:Nat) (xs:List Value) (hs:a.eval s = .slice ao n cap) (hO:OwnK w1 B k n cap xs ao) (hB:B≤w1.heap.size)
  (m c:Nat) (cs:Array Value) (te:TypeId) (hx:a.eval x = .slice (some ⟨w1.heap.size,0,none⟩) m c) (hm:cs.size=m*k) (hm0:0<m) (h1c:∀ u∈cs.toList,u.oneCell'=true)
  (b1:n+m≤1000000000)
  (hK:∀ g off cap' w',OwnK w' B k (n+m) cap' (xs++cs.toList) (some ⟨g,off,none⟩)→w1.grownBy w' (blk ao)→Below B w1 w'→(blk ao=some g∨w1.heap.size≤g)→wpList Tryz.prog ops Q rest (a.put o.dst (.slice (some ⟨g,off,none⟩) (n+m) cap')) w') :
  wpList Tryz.prog ops Q (o::rest) a (w1.alloc (.cells cs te)):=by
 obtain⟨i0,hi,hz0,hz1,hz2⟩:=Zgb hE
 exact Zi3 w1 B k hk hg s x T hop E i0 z bt hT hi hz0 hz1 hz2 hz ao cap xs n hs hO hB m c cs te hx hm hm0 h1c
  (by simp only[maxLen];omega) (Nat.le_trans (Nat.mul_le_mul b1 hbt) (by decide)) hK
def bv (l:List Nat):List Value:=l.map (fun (n:Nat)=>Value.int .u8 (n:Int))
theorem Zmw (l m:List Nat):bv l++bv m=bv (l++m):=by simp[bv]
theorem Z07 (l:List Nat):(bv l).length=l.length:=by simp[bv]
theorem Zry {w:World} {B n cap:Nat} {l:List Nat} {ao:Option Addr} (h:OwnK w B 1 n cap (bv l) ao) :
  (convert 227 9 (.slice ao n cap)).run Tryz.prog w = .ok (.string (Zad l)) w:=by
 have hc:=h.count
 rw[Z07,Nat.mul_one] at hc
 cases h with
 | nil h hn hc0 =>
  have hl:l=[]:=by cases l with
   | nil=>rfl
   | cons c l=>simp[bv] at h
  subst hl
  rw[run_convert_bytes_nil w 227 5 Tryz.underlying227 Tryz.underlying5 n cap 9 Tryz.underlying9]
  rfl
 | «at» g off h hn hcm hl =>
  rw[run_convert_bytes_arg w 227 5 Tryz.underlying227 Tryz.underlying5 g off n cap (l.map (fun (n:Nat)=>(n:Int))) (by rw[List.length_map];exact hc) (fun i hi=>by
   refine h.cells i _ ?_
   rw[bv,List.getElem?_map,List.getD,List.getElem?_map,List.getElem?_eq_getElem (by omega)]
   rfl) 9 Tryz.underlying9]
  congr 2
  apply ByteArray.ext
  simp[strOfNums,Zad]
end
section
open Go.RowKit
def Z4t (l:List Nat):List Nat:=match Zyh l with
 | some r=>r.1
 | none=>[]
def Z08 (l:List Nat):Nat:=match Zyh l with
 | some r=>r.2
 | none=>0
theorem Zi8 {l:List Nat} (h:Zen l [] 1=none):Z4t l=[]∧Z08 l=0:=by
 unfold Z4t Z08;rw[Zs4,h];exact⟨rfl,rfl⟩
theorem Z09 {l v:List Nat} {n:Nat} (h:Zen l [] 1=some (v,n)) (hv:400<v.length):Z4t l=[]∧Z08 l=0:=by
 unfold Z4t Z08;rw[Zs4,h];simp;rw[if_neg (by omega)];exact⟨rfl,rfl⟩
theorem Z1a {l v:List Nat} {n:Nat} (h:Zen l [] 1=some (v,n)) (hv:¬ 400<v.length):Z4t l=v∧Z08 l=n:=by
 unfold Z4t Z08;rw[Zs4,h];simp;rw[if_pos (by omega)];exact⟨rfl,rfl⟩
theorem Zon {a b:ByteArray} {c d:Int} (h:a=b) (h2:c=d):Ending.returned (.tuple #[.string a,.int .i64 c]) = .returned (.tuple #[.string b,.int .i64 d]):=by rw[h,h2]
theorem Z1b (l:List Nat):∀ u∈bv l,u.oneCell'=true:=by
 intro u hu
 obtain⟨x,_,rfl⟩:=List.mem_map.1 hu
 rfl
theorem Zw3 (l:List Nat) (w:World) (hl:l.length≤1000000) (hb:∀ y∈l,y<256) :
  Calls Tryz.prog 201 #[.string (Zad l)] w fun e w'=>e = .returned (.tuple #[.string (Zad (Z4t l)),.int .i64 (Z08 l:Nat)])∧Below w.heap.size w w':=by
 have SZ:=ħ (Zaq l)
 have HX:Hid (∀ i:Nat,i<l.length→∀ w,(Instr.index 9 (.string (Zad l)) (.int .i64 (i:Int))).run Tryz.prog w = .ok (.int .u8 ((l.getD i 0:Nat):Int)) w):=ħ (fun i hi w=>Zf1 l i hi hb w)
 have HB:Hid (∀ i:Nat,i<l.length→l.getD i 0<256):=ħ (fun i hi=>by rw[List.getD,List.getElem?_eq_getElem hi];exact hb _ (List.getElem_mem hi))
 clear hb
 generalize Zad l=t at *
 go_enter Tryz.func201,Tryz.ntmps201
 go_wp2_with fail
 go_step3
 go_wp2_with fail
 go_step3
 go_wp2_with fail
 go_loopw [4,5] (fun s c wr=>∃ (n k:Nat) (v:List Nat) (ao:Option Addr) (cp:Nat),s = .slice ao k cp∧c = .int .i64 n∧1≤n∧n≤l.length+1∧k≤n∧Hid (k=v.length)∧Hid (OwnK wr w.heap.size 1 k cp (bv v) ao)∧Hid (Below w.heap.size w wr)∧Hid (Zen l [] 1=Zen l v n)) (fun _ c _=>(l.length+1-intOf c).toNat)
 case atStart=>exact⟨1,0,[],none,0,rfl,rfl,by omega,by omega,by omega,ħ rfl,ħ (.nil rfl rfl rfl),ħ (Below.refl _ _),ħ rfl⟩
 case round =>
  obtain⟨n,k,v,ao,cp,rfl,rfl,h1,hn,hkn,hk,ho,hw,hz⟩:=hrel
  have hsz:=SZ.o
  have e2:IntKind.i64.wrap ((n:Int)+1)=(n:Int)+1:=IntWalk.i64_in _ (by omega)
  by_cases hlt:n<l.length
  ·have hx:=HX.o n hlt
   have ii:¬ ((l.length:Int)≤n):=by omega
   obtain⟨u,hu⟩:∃ v,l.getD n 0=v:=⟨_,rfl⟩
   rw[hu] at hx
   have HU:=ħ hu
   have hub:u<256:=by rw[← hu];exact HB.o n hlt
   clear hu
   obtain⟨q,hq⟩:∃ q,Z7p u=q:=⟨_,rfl⟩
   have HQ:=ħ hq
   clear hq
   go_wp2_with fail
   refine (Zxr u _).mono ?_
   rintro e w' ⟨rfl,rfl⟩
   rw[HQ.o]
   cases q with
   | false =>
    have hend:=Zi8 (hz.o.trans (Zyj l v n hlt (by rw[HU.o];exact HQ.o)))
    go_wp2
    (try rw[Exit.noGoto_ret]);go_ret2
    exact⟨Zon (by rw[hend.1];rfl) (by rw[hend.2];rfl),hw.o⟩
   | true =>
    by_cases h34:u=34
    ·have c1:((u:Int)==34)=true:=by rw[beq_iff_eq];omega
     have hend:=ħ (hz.o.trans (Z6f l v n hlt (by rw[HU.o];exact h34)))
     by_cases h400:400<k
     ·have i4:(400:Int)<k:=by omega
      have hend2:=Z09 hend.o (by rw[← hk.o];exact h400)
      go_wp2
      (try rw[Exit.noGoto_ret]);go_ret2
      exact⟨Zon (by rw[hend2.1];rfl) (by rw[hend2.2];rfl),hw.o⟩
     ·have i4:¬ ((400:Int)<k):=by omega
      have hend2:=ħ (Z1a hend.o (by rw[← hk.o];exact h400))
      have hcv:=Zry ho.o
      go_wp2
      (try rw[Exit.noGoto_ret]);go_ret2
      exact⟨Zon (by rw[hend2.o.1]) (by rw[hend2.o.2];omega),hw.o⟩
    ·have c1:((u:Int)==34)=false:=by rw[beq_eq_false_iff_ne];omega
     by_cases h92:u=92
     ·have c2:((u:Int)==92)=true:=by rw[beq_iff_eq];omega
      by_cases hl1:n+1<l.length
      ·have i1:¬ ((l.length:Int)≤(n:Int)+1):=by omega
       have hx1:∀ w,(Instr.index 9 (.string t) (.int .i64 ((n:Int)+1))).run Tryz.prog w = .ok (.int .u8 ((l.getD (n+1) 0:Nat):Int)) w:=HX.o (n+1) hl1
       obtain⟨d,hd⟩:∃ v,l.getD (n+1) 0=v:=⟨_,rfl⟩
       rw[hd] at hx1
       have HD:=ħ hd
       have hdb:d<256:=by rw[← hd];exact HB.o (n+1) hl1
       clear hd
       have e3:IntKind.i64.wrap ((n:Int)+1+1)=(n:Int)+2:=by rw[IntWalk.i64_in _ (by omega)];omega
       by_cases hd34:d=34
       ·have f1:((d:Int) != 34)=false:=by rw[hd34];rfl
        have HD34:=ħ hd34
        clear hd34
        have hch:=ħ (hz.o.trans (Zqr l v n hlt (by rw[HU.o];exact h92) hl1 (.inl (HD.o.trans HD34.o))))
        go_wp2_with (at_builtin;refine Zfa 227 5 (.int .u8 0) 1 1 Tryz.underlying227 Zmv rfl (by omega) (by omega) wr w.heap.size rfl (.tmp 46) (.tmp 50) rfl ao cp k (bv v) ?q1 ho.o hw.o.size 1 1 #[.int .u8 (d:Int)] 5 ?q2 rfl (by omega) ?q3 ?q4 ?_;(case q1=>rfl);(case q2=>rfl);(case q3=>exact Z1b [d]);(case q4=>omega);intro g4 off4 c4 wa o8 gr8 b8 or8;have O8:=ħ o8;have B8:=ħ b8;clear o8 gr8 b8 or8)
        go_roundw
        case rel=>exact⟨n+2,k+1,v++[d],some ⟨g4,off4,none⟩,c4,rfl,rfl,by omega,by omega,by omega,ħ (by rw[List.length_append,← hk.o];rfl),ħ (by rw[← Zmw];exact O8.o),ħ (hw.o.trans (B8.o.mono (Nat.le_refl _))),ħ (by rw[hch.o,HD.o])⟩
        case measure=>simp only[intOf];omega
       ·have f1:((d:Int) != 34)=true:=by rw[bne_iff_ne];omega
        by_cases hd92:d=92
        ·have f2:((d:Int) != 92)=false:=by rw[hd92];rfl
         have HD92:=ħ hd92
         clear hd92
         have hch:=ħ (hz.o.trans (Zqr l v n hlt (by rw[HU.o];exact h92) hl1 (.inr (HD.o.trans HD92.o))))
         go_wp2_with (at_builtin;refine Zfa 227 5 (.int .u8 0) 1 1 Tryz.underlying227 Zmv rfl (by omega) (by omega) wr w.heap.size rfl (.tmp 46) (.tmp 50) rfl ao cp k (bv v) ?q1 ho.o hw.o.size 1 1 #[.int .u8 (d:Int)] 5 ?q2 rfl (by omega) ?q3 ?q4 ?_;(case q1=>rfl);(case q2=>rfl);(case q3=>exact Z1b [d]);(case q4=>omega);intro g4 off4 c4 wa o8 gr8 b8 or8;have O8:=ħ o8;have B8:=ħ b8;clear o8 gr8 b8 or8)
         go_roundw
         case rel=>exact⟨n+2,k+1,v++[d],some ⟨g4,off4,none⟩,c4,rfl,rfl,by omega,by omega,by omega,ħ (by rw[List.length_append,← hk.o];rfl),ħ (by rw[← Zmw];exact O8.o),ħ (hw.o.trans (B8.o.mono (Nat.le_refl _))),ħ (by rw[hch.o,HD.o])⟩
         case measure=>simp only[intOf];omega
        ·have f2:((d:Int) != 92)=true:=by rw[bne_iff_ne];omega
         have hend:=Zi8 (hz.o.trans (Zv1 l v n hlt (by rw[HU.o];exact h92) hl1 (by rw[HD.o];omega)))
         clear hd34 hd92
         go_wp2
         (try rw[Exit.noGoto_ret]);go_ret2
         exact⟨Zon (by rw[hend.1];rfl) (by rw[hend.2];rfl),hw.o⟩
      ·have i1:(l.length:Int)≤(n:Int)+1:=by omega
       have hend:=Zi8 (hz.o.trans (Zv0 l v n hlt (by rw[HU.o];exact h92) hl1))
       go_wp2
       (try rw[Exit.noGoto_ret]);go_ret2
       exact⟨Zon (by rw[hend.1];rfl) (by rw[hend.2];rfl),hw.o⟩
     ·have c2:((u:Int)==92)=false:=by rw[beq_eq_false_iff_ne];omega
      have hch:=ħ (hz.o.trans (Zyk l v n hlt (by rw[HU.o];exact h34) (by rw[HU.o];exact h92) (by rw[HU.o];exact HQ.o)))
      go_wp2_with (at_builtin;refine Zfa 227 5 (.int .u8 0) 1 1 Tryz.underlying227 Zmv rfl (by omega) (by omega) wr w.heap.size rfl (.tmp 46) (.tmp 50) rfl ao cp k (bv v) ?q1 ho.o hw.o.size 1 1 #[.int .u8 (u:Int)] 5 ?q2 rfl (by omega) ?q3 ?q4 ?_;(case q1=>rfl);(case q2=>rfl);(case q3=>exact Z1b [u]);(case q4=>omega);intro g4 off4 c4 wa o8 gr8 b8 or8;have O8:=ħ o8;have B8:=ħ b8;clear o8 gr8 b8 or8)
      go_roundw
      case rel=>exact⟨n+1,k+1,v++[u],some ⟨g4,off4,none⟩,c4,rfl,rfl,by omega,by omega,by omega,ħ (by rw[List.length_append,← hk.o];rfl),ħ (by rw[← Zmw];exact O8.o),ħ (hw.o.trans (B8.o.mono (Nat.le_refl _))),ħ (by rw[hch.o,HU.o])⟩
      case measure=>simp only[intOf];omega
  ·have ii:(l.length:Int)≤n:=by omega
   have hend:=Zi8 (hz.o.trans (Zyi l v n hlt))
   go_wp2
   (try rw[Exit.noGoto_ret]);go_ret2
   exact⟨Zon (by rw[hend.1];rfl) (by rw[hend.2];rfl),hw.o⟩
end
end Go.Proofs.YtmkdfbelbcocpaaGreatDoor
