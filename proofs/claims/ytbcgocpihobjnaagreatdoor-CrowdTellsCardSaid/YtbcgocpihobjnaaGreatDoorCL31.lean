import Derived.Laws.CopyOwn
import Derived.Test.YtbcgocpihobjnaaGreatDoorCL26
set_option linter.all false
set_option maxHeartbeats 8000000
set_option maxRecDepth 100000
namespace Go.Proofs.YtbcgocpihobjnaaGreatDoor
open Go.RowKit Go.Sort
theorem WZ(x:Int)(n m k:Nat)(h:n+k<=n+m):splice (ivs (List.replicate n x++List.replicate m 0)) n (ivs (List.replicate k x))=ivs (List.replicate (n+k) x++List.replicate (m-k) 0):=by
 unfold splice ivs;simp only[List.map_append,List.map_replicate];rw[List.take_left' (by simp),List.length_replicate,List.drop_append,List.length_replicate];rw[List.drop_of_length_le (by simp),List.nil_append,show n+k-n=k by omega,List.drop_replicate,<- List.append_assoc,List.replicate_append_replicate]
theorem Ztx(w:World)(x:Int)(g o c N:Nat)(hg:w.cell? ⟨g,o,none⟩=some (.int .i64 x))(dT:g<w.heap.size)(hN:1<=N)(hN2:N<=1000) :
  Calls Tryz.prog 167 #[.slice (some ⟨g,o,none⟩) 1 c,.int .i64 (N:Int)] w fun e w'=>(∃ L,e = .returned (.slice (some ⟨L,0,none⟩) N N)/\aC w' L 3 (ivs (List.replicate N x))/\w.heap.size<=L)/\Below w.heap.size w w':=by
 have HM:=I (Tryz.bits_Mul 1 N (by omega) (by omega) w);have HG:=I hg;have uT:=I dT
 have n0:¬ (N:Int)<0:=by omega
 have Xn:(((1*N/18446744073709551616:Nat)):Int)=0:=by omega
 have IJ:(((1*N%18446744073709551616:Nat)):Int)=(N:Int):=by omega
 rw[Xn,IJ] at HM
 have em:(N:Int)%18446744073709551616=(N:Int):=by omega
 have ew:IntKind.u64.wrap (N:Int)=(N:Int):=IntWalk.u64_in _ (by omega);have Xo:IntKind.i64.wrap (N:Int)=(N:Int):=fU _ (by omega)
 have eb:¬ (9223372036854775807:Int)<(N:Int):=by omega
 have gW:=run_make_row' (P:=Tryz.prog) 33 3 (.int .i64 0) 8 Tryz.underlying33 sE rfl .i64 .i64 N (by omega) (by omega);rw[VW] at gW;have B0:=I (aG w.heap.size w);clear hg dT Xn IJ
 go_enter Tryz.func167,Tryz.ntmps167
 go_wp2_with fail
 refine HM.o.mono ?_;rintro e w' ⟨rfl,bM⟩;subst w';clear HM
 go_upto_region 7 with(fail)
 clear gW em ew Xo eb n0;obtain⟨C1,hC1⟩:=exq (ivs (List.replicate 1 x))
 have qC:C1.length=1:=by rw[<- hC1];rfl
 have rV:=I hC1;have bx:=bwA w (.cells (ivs (List.replicate N 0)).toArray 3);have V2:Hid (aC (w.alloc (.cells (ivs (List.replicate N 0)).toArray 3)) w.heap.size 3 (ivs (List.replicate N 0))):=I (heap_alloc_new _ _);have B2:=I bx;have G2:Hid ((w.alloc (.cells (ivs (List.replicate N 0)).toArray 3)).cell? ⟨g,o,none⟩=some (.int .i64 x)):=I (by rw[<- HG.o];exact bx.cell (p:=⟨g,o,none⟩) uT.o);clear bx hC1 B0;generalize w.alloc (.cells (ivs (List.replicate N 0)).toArray 3)=w2 at *
 go_wp2_with (refine wpList_copy_splice rfl (.tmp 31) (.tmp 32) 33 33 rfl 3 Tryz.underlying33 (by kernel_rfl) (some ⟨w.heap.size,0,none⟩) (some ⟨g,o,none⟩) N N 1 c rfl rfl w.heap.size 0 (ivs (List.replicate N 0)) 3 V2.o C1 (by rw[qC];exact(Nat.min_eq_left hN).symm) (fun _=>⟨rfl,_,rfl,fun j v hj=>by
  rw[<- rV.o] at hj
  match j,hj with
  | 0,hj=>cases hj;exact G2.o
  | j+1,hj=>simp[ivs] at hj⟩) (by rw[qC];simp[ivs];omega) (by rw[<- rV.o];simp[ivs,Value.oneCell']) w.heap.size w B2.o (aO _) ?_;intro w3 uX lL)
 have V3:Hid (aC w3 w.heap.size 3 (ivs (List.replicate 1 x++List.replicate (N-1) 0))):=I (by
  have h1:=uX.o;rw[<- rV.o] at h1;have h2:=WZ x 0 N 1 (by omega);simp only[List.replicate_zero,List.nil_append,Nat.zero_add] at h2;rw[h2] at h1
  exact h1)
 have B3:=I lL;clear uX lL V2 B2 G2 qC rV
 go_wp2_with fail
 go_loopw [8] (fun s wr=>∃ n:Nat,s = .int .i64 n/\1<=n/\n<=N/\Hid (aC wr w.heap.size 3 (ivs (List.replicate n x++List.replicate (N-n) 0)))/\Hid (Below w.heap.size w wr)) (fun s _=>(N-intOf s).toNat)
 case atStart=>exact⟨1,rfl,aO _,hN,V3,B3⟩
 case round =>
  clear V3 B3;obtain⟨n,rfl,sx,hnN,hv,hw⟩:=hrel;by_cases aE:n<N
  ·have ii:(n:Int)<N:=by omega
   obtain⟨k,hk⟩:=exq (Nat.min n (N-n))
   have hk1:k<=n:=by rw[<- hk];exact Nat.min_le_left _ _
   have sI:k<=N-n:=by rw[<- hk];exact Nat.min_le_right _ _
   have Fy:1<=k:=by rw[<- hk];exact Nat.le_min.2 ⟨sx,by omega⟩
   have HK:=I hk;obtain⟨C1,hC1⟩:=exq (ivs (List.replicate k x))
   have qC:C1.length=k:=by rw[<- hC1];simp[ivs]
   have rV:=I hC1
   have n1:¬ (n:Int)<0:=by omega
   have n2:¬ (N:Int)<n:=by omega
   have n3:¬ N<n:=by omega
   have n4:n<=N:=by omega
   have n5:¬ N=n:=by omega
   have ea:IntKind.i64.wrap ((n:Int)+k)=((n+k:Nat):Int):=fU _ (by omega);have Vd:=I (hv.o.step (aG _ _).drew);have Bd:=I hw.o.drew;clear hk hC1 hv hw
   go_upto_region 9 with(fail)
   go_region_law (refine step_copy_splice rfl (.tmp 41) (.tmp 44) 33 33 rfl 3 Tryz.underlying33 (by kernel_rfl) (some ⟨w.heap.size,n,none⟩) (some ⟨w.heap.size,0,none⟩) (N-n) (N-n) n N (by simp[Act.eval,Act.put]) (by simp[Act.eval,Act.put]) w.heap.size n (ivs (List.replicate n x++List.replicate (N-n) 0)) 3 Vd.o C1 (by rw[qC];exact HK.o.symm) (fun _=>⟨rfl,_,rfl,fun j v hj=>by
    rw[<- rV.o] at hj
    have Bo:j<k:=by have:=(fD.1 hj).1;simpa [ivs] using this
    have h1:=Vd.o.cell j (.int .i64 x) (by unfold ivs;rw[dK,List.getElem?_append_left (by simp;omega),List.getElem?_replicate,if_pos (by omega)];rfl)
    have h2:v = .int .i64 x:=by
     unfold ivs at hj;rw[dK,List.getElem?_replicate,if_pos Bo] at hj;cases hj;rfl
    rw[h2]
    cases j with
    | zero=>simpa [Addr.add] using h1
    | succ j=>simpa [Addr.add] using h1⟩) (by rw[qC];simp[ivs];omega) (by rw[<- rV.o];simp[ivs,Value.oneCell']) w.heap.size w Bd.o (aO _) ?_;intro w4 ia aK)
   have V4:Hid (aC w4 w.heap.size 3 (ivs (List.replicate (n+k) x++List.replicate (N-(n+k)) 0))):=I (by
    have h1:=ia.o;rw[<- rV.o,WZ x n (N-n) k (by omega),show N-n-k=N-(n+k) by omega] at h1
    exact h1)
   have B4:=I aK;clear ia aK Vd Bd rV
   go_wp2_with fail
   go_roundw
   case rel=>exact⟨n+k,by go_num,by omega,by omega,V4⟩
   case measure=>simp only[intOf];omega
  ·obtain rfl:n=N:=by omega
   have ii:¬ ((n:Int)<(n:Int)):=by omega
   go_wp2
   go_ret;exact⟨⟨_,rfl,by have:=hv.o;simpa using this,aO _⟩,hw.o⟩
end Go.Proofs.YtbcgocpihobjnaaGreatDoor
