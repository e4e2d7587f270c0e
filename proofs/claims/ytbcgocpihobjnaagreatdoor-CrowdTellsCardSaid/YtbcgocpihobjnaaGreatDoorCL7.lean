import Derived.Laws.BytesArg
import Derived.Test.YtbcgocpihobjnaaGreatDoorCL6
set_option linter.all false
namespace Go.Proofs.YtbcgocpihobjnaaGreatDoor
open Go.RowKit
theorem eq{o:Option TypeInfo}{z:Option Value}{s b:Nat}(h:o.map (fun i=>(i.zero,i.size,i.bytes))=some (z,s,b)):∃ i,o=some i/\i.zero=z/\i.size=s/\i.bytes=b:=by
 cases o with
 | none=>cases h
 | some i=>simp only[Option.map_some,Option.some.injEq,Prod.mk.injEq] at h;exact⟨i,rfl,h.1,h.2.1,h.2.2⟩
theorem ep:(Tryz.prog.info? 9).map (fun i=>(i.zero,i.size,i.bytes))=some (some (.string ⟨#[]⟩),1,16):=by kernel_rfl
theorem sE:(Tryz.prog.info? 3).map (fun i=>(i.zero,i.size,i.bytes))=some (some (.int .i64 0),1,8):=by kernel_rfl
theorem jM {ops:Array Oper} {rest:List Oper} {o:Oper} {a:Act} {Q:Exit->Act->World->Prop} (T E:TypeId) (z:Value) (k bt:Nat)
  (hT:Tryz.prog.underlying T=some (.slice E)) (hE:(Tryz.prog.info? E).map (fun i=>(i.zero,i.size,i.bytes))=some (some z,k,bt)) (hz:z.cells.size=k) (hk:0<k) (mW:bt<=1000)
  (w1:World) (B:Nat) (hg:o.guard=none) (s x:Operand) (jP:o.op=Op.call { callee:=Callee.builtin Builtin.append,args:=#[s,x],argTypes:=#[T,T] })
  (ao:Option Addr) (cap n:Nat) (xs:List Value) (hs:a.eval s = .slice ao n cap) (hO:OwnK w1 B k n cap xs ao) (hB:B<=w1.heap.size)
  (m c:Nat) (cs:Array Value) (te:TypeId) (hx:a.eval x = .slice (some ⟨w1.heap.size,0,none⟩) m c) (hm:cs.size=m*k) (cN:0<m) (h1c:∀ u∈cs.toList,u.oneCell'=true)
  (b1:n+m<=1000000000)
  (hK:∀ g off cap' w',OwnK w' B k (n+m) cap' (xs++cs.toList) (some ⟨g,off,none⟩)->w1.grownBy w' (blk ao)->Below B w1 w'->(blk ao=some g\/w1.heap.size<=g)->wpList Tryz.prog ops Q rest (a.put o.dst (.slice (some ⟨g,off,none⟩) (n+m) cap')) w') :
  wpList Tryz.prog ops Q (o::rest) a (w1.alloc (.cells cs te)):=by
 obtain⟨i0,hi,Cn,nP,pH⟩:=eq hE
 exact Zhe w1 B k hk hg s x T jP E i0 z bt hT hi Cn nP pH hz ao cap xs n hs hO hB m c cs te hx hm cN h1c
  (by simp only[maxLen];omega) (Nat.le_trans (Nat.mul_le_mul b1 mW) (by decide)) hK
def bv(l:List Nat):List Value:=l.map (fun(n:Nat)=>Value.int .u8 (n:Int))
end Go.Proofs.YtbcgocpihobjnaaGreatDoor
