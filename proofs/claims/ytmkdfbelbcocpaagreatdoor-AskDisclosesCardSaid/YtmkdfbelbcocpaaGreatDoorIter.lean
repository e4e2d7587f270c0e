import Derived.Shelf.SlIter.Nil
import Derived.Shelf.SortM.Plain
import Derived.Shelf.SortM.SortNone
import Derived.Ground.GgzProg
import Derived.Ground.SlgmProg
import Derived.Test.YtmkdfbelbcocpaaGreatDoorProg
namespace Go.Proofs
open Go.RowKit Go.Maps Go.Sort Go.Shelf
def Tryz.keys180_ren:Go.Shelf.Ren:=⟨fun | 7=>180 | 10=>238 | n=>n,fun | 23=>195 | 26=>9 | 3=>4 | 28=>203 | 0=>0 | 27=>202 | 33=>31 | 4=>4 | n=>n,fun | n=>n⟩
theorem Tryz.keys180:Go.Proofs.SlLaysZ.n7 Tryz.prog Tryz.keys180_ren:={
 mixed:=by kernel_rfl
 f7:=⟨Tryz.f180.name,by decide,Tryz.func180.trans (congrArg some (by kernel_rfl))⟩
 f10:=⟨Tryz.f238.name,by decide,Tryz.func238.trans (congrArg some (by kernel_rfl))⟩
 t0:=Tryz.underlying0
 a0:=Tryz.isAgg0
 z0:=Tryz.sizeOf0
 v0:=Tryz.zeroValue0
 t4:=Tryz.underlying4
 a4:=Tryz.isAgg4
 z4:=Tryz.sizeOf4
 v4:=Tryz.zeroValue4
 t23:=Tryz.underlying195
 a23:=Tryz.isAgg195
 z23:=Tryz.sizeOf195
 v23:=Tryz.zeroValue195
 t26:=Tryz.underlying9
 a26:=Tryz.isAgg9
 z26:=Tryz.sizeOf9
 v26:=Tryz.zeroValue9
 t27:=Tryz.underlying202
 a27:=Tryz.isAgg202
 z27:=Tryz.sizeOf202
 v27:=Tryz.zeroValue202
 t28:=Tryz.underlying203
 a28:=Tryz.isAgg203
 z28:=Tryz.sizeOf203
 v28:=Tryz.zeroValue203
 t33:=Tryz.underlying31
 a33:=Tryz.isAgg31
 z33:=Tryz.sizeOf31
 v33:=Tryz.zeroValue31 }
def Tryz.sorted179_ren:Go.Shelf.Ren:=⟨fun | 6=>179 | 8=>236 | 9=>237 | 11=>269 | 13=>240 | 12=>270 | 23=>279 | 24=>280 | 14=>321 | 15=>322 | 16=>323 | 17=>324 | 18=>325 | 19=>326 | 20=>267 | 21=>327 | 22=>328 | 25=>353 | 26=>330 | 27=>331 | 28=>354 | 29=>355 | 30=>263 | 31=>362 | n=>n,fun | 26=>9 | 28=>203 | 24=>59 | 0=>0 | 3=>3 | 37=>197 | 48=>246 | 50=>249 | 4=>4 | 40=>273 | 39=>272 | 45=>133 | 5=>5 | 9=>9 | 51=>318 | 55=>176 | 57=>335 | 58=>336 | 33=>31 | n=>n,fun | n=>n⟩
theorem Tryz.sorted179:Go.Proofs.SlLaysZ.n6 Tryz.prog Tryz.sorted179_ren:={
 mixed:=by kernel_rfl
 f6:=⟨Tryz.f179.name,by decide,Tryz.func179.trans (congrArg some (by kernel_rfl))⟩
 f8:=⟨Tryz.f236.name,by decide,Tryz.func236.trans (congrArg some (by kernel_rfl))⟩
 f11:=⟨Tryz.f269.name,by decide,Tryz.func269.trans (congrArg some (by kernel_rfl))⟩
 t0:=Tryz.underlying0
 a0:=Tryz.isAgg0
 z0:=Tryz.sizeOf0
 v0:=Tryz.zeroValue0
 t24:=Tryz.underlying59
 a24:=Tryz.isAgg59
 z24:=Tryz.sizeOf59
 v24:=Tryz.zeroValue59
 t26:=Tryz.underlying9
 a26:=Tryz.isAgg9
 z26:=Tryz.sizeOf9
 v26:=Tryz.zeroValue9
 t28:=Tryz.underlying203
 a28:=Tryz.isAgg203
 z28:=Tryz.sizeOf203
 v28:=Tryz.zeroValue203
 i26:=by kernel_rfl }
def Tryz.sort237_ren:Go.Shelf.Ren:=⟨fun | 6=>237 | 8=>240 | 9=>270 | 19=>279 | 20=>280 | 21=>321 | 22=>322 | 23=>323 | 24=>324 | 25=>325 | 26=>326 | 27=>267 | 28=>327 | 29=>328 | 36=>353 | 31=>330 | 32=>331 | 37=>354 | 38=>355 | 39=>263 | 41=>362 | n=>n,fun | 27=>59 | 29=>9 | 3=>3 | 32=>197 | 26=>59 | 0=>0 | 44=>246 | 46=>249 | 4=>4 | 36=>273 | 35=>272 | 41=>133 | 5=>5 | 9=>9 | 53=>318 | 57=>176 | 63=>335 | 64=>336 | n=>n,fun | n=>n⟩
theorem Tryz.sort237:Go.Proofs.SlLaysM.n6 Tryz.prog Tryz.sort237_ren:={
 mixed:=by kernel_rfl
 f6:=⟨Tryz.f237.name,by decide,Tryz.func237.trans (congrArg some (by kernel_rfl))⟩
 f8:=Tryz.func240.trans (congrArg some (by kernel_rfl))
 f9:=⟨Tryz.f270.name,by decide,Tryz.func270.trans (congrArg some (by kernel_rfl))⟩
 f19:=Tryz.func279.trans (congrArg some (by kernel_rfl))
 f20:=Tryz.func280.trans (congrArg some (by kernel_rfl))
 f21:=⟨Tryz.f321.name,by decide,Tryz.func321.trans (congrArg some (by kernel_rfl))⟩
 f22:=⟨Tryz.f322.name,by decide,Tryz.func322.trans (congrArg some (by kernel_rfl))⟩
 f23:=⟨Tryz.f323.name,by decide,Tryz.func323.trans (congrArg some (by kernel_rfl))⟩
 f24:=⟨Tryz.f324.name,by decide,Tryz.func324.trans (congrArg some (by kernel_rfl))⟩
 f25:=⟨Tryz.f325.name,by decide,Tryz.func325.trans (congrArg some (by kernel_rfl))⟩
 f26:=⟨Tryz.f326.name,by decide,Tryz.func326.trans (congrArg some (by kernel_rfl))⟩
 f27:=⟨Tryz.f267.name,by decide,Tryz.func267.trans (congrArg some (by kernel_rfl))⟩
 f28:=⟨Tryz.f327.name,by decide,Tryz.func327.trans (congrArg some (by kernel_rfl))⟩
 f29:=⟨Tryz.f328.name,by decide,Tryz.func328.trans (congrArg some (by kernel_rfl))⟩
 f31:=Tryz.func330.trans (congrArg some (by kernel_rfl))
 f32:=Tryz.func331.trans (congrArg some (by kernel_rfl))
 f36:=⟨Tryz.f353.name,by decide,Tryz.func353.trans (congrArg some (by kernel_rfl))⟩
 f37:=⟨Tryz.f354.name,by decide,Tryz.func354.trans (congrArg some (by kernel_rfl))⟩
 f38:=⟨Tryz.f355.name,by decide,Tryz.func355.trans (congrArg some (by kernel_rfl))⟩
 f39:=⟨Tryz.f263.name,by decide,Tryz.func263.trans (congrArg some (by kernel_rfl))⟩
 f41:=⟨Tryz.f362.name,by decide,Tryz.func362.trans (congrArg some (by kernel_rfl))⟩
 t0:=Tryz.underlying0
 a0:=Tryz.isAgg0
 z0:=Tryz.sizeOf0
 v0:=Tryz.zeroValue0
 t3:=Tryz.underlying3
 a3:=Tryz.isAgg3
 z3:=Tryz.sizeOf3
 v3:=Tryz.zeroValue3
 t4:=Tryz.underlying4
 a4:=Tryz.isAgg4
 z4:=Tryz.sizeOf4
 v4:=Tryz.zeroValue4
 t5:=Tryz.underlying5
 a5:=Tryz.isAgg5
 z5:=Tryz.sizeOf5
 v5:=Tryz.zeroValue5
 t9:=Tryz.underlying9
 a9:=Tryz.isAgg9
 z9:=Tryz.sizeOf9
 v9:=Tryz.zeroValue9
 t26:=Tryz.underlying59
 a26:=Tryz.isAgg59
 z26:=Tryz.sizeOf59
 v26:=Tryz.zeroValue59
 t27:=Tryz.underlying59
 a27:=Tryz.isAgg59
 z27:=Tryz.sizeOf59
 v27:=Tryz.zeroValue59
 t29:=Tryz.underlying9
 a29:=Tryz.isAgg9
 z29:=Tryz.sizeOf9
 v29:=Tryz.zeroValue9
 t32:=Tryz.underlying197
 a32:=Tryz.isAgg197
 z32:=Tryz.sizeOf197
 v32:=Tryz.zeroValue197
 t35:=Tryz.underlying272
 a35:=Tryz.isAgg272
 z35:=Tryz.sizeOf272
 v35:=Tryz.zeroValue272
 t36:=Tryz.underlying273
 a36:=Tryz.isAgg273
 z36:=Tryz.sizeOf273
 v36:=Tryz.zeroValue273
 t41:=Tryz.underlying133
 a41:=Tryz.isAgg133
 z41:=Tryz.sizeOf133
 v41:=Tryz.zeroValue133
 t44:=Tryz.underlying246
 a44:=Tryz.isAgg246
 z44:=Tryz.sizeOf246
 v44:=Tryz.zeroValue246
 t46:=Tryz.underlying249
 a46:=Tryz.isAgg249
 z46:=Tryz.sizeOf249
 v46:=Tryz.zeroValue249
 t53:=Tryz.underlying318
 a53:=Tryz.isAgg318
 z53:=Tryz.sizeOf318
 v53:=Tryz.zeroValue318
 t57:=Tryz.underlying176
 a57:=Tryz.isAgg176
 z57:=Tryz.sizeOf176
 v57:=Tryz.zeroValue176
 t63:=Tryz.underlying335
 a63:=Tryz.isAgg335
 z63:=Tryz.sizeOf335
 v63:=Tryz.zeroValue335
 t64:=Tryz.underlying336
 a64:=Tryz.isAgg336
 z64:=Tryz.sizeOf336
 v64:=Tryz.zeroValue336 }
theorem Tryz.sorts179 (m:Nat):AnyZ.SortsIn Tryz.prog Tryz.sorted179_ren Fence.wide m :=
 ⟨fun blk off cap ss W hH hblk hsz=>callsIn_wide.2 (AnyM.slices_Sort_string Tryz.sort237 blk off cap ss W hH hblk hsz),
  fun p cap W=>callsIn_wide.2 (AnyM.slices_Sort_string_none Tryz.sort237 p cap W)⟩
theorem Tryz.maps_Keys_180 (mb:Option Nat) (W:World):CallsIn Fence.wide 5 Tryz.prog 180 #[.map mb] W fun e w'=>e = .returned (.func (.func 238) #[] #[.pointer (some ⟨W.heap.size,0,none⟩)])∧w' = W.alloc (.cells #[.map mb] 195) :=
 AnyZ.keys_in Tryz.keys180 Fence.wide 5 trivial rfl mb W
set_option maxHeartbeats 1000000 in
theorem Tryz.slices_Sorted_keys_179_180 {H:Type} (b nn:Nat) (D0:DataW H) (R:Value→Option (DataW H × List MemPlace)) (w:World) (hown:w.ownsMap Tryz.prog 9 R b nn D0) (hmax:Maps.size D0≤maxLen) (hbytes:Maps.size D0 * 16≤140737488355328) :
  CallsIn Fence.wide 5 Tryz.prog 179 #[.func (.func 238) #[] #[.pointer (some ⟨w.heap.size,0,none⟩)]] (w.alloc (.cells #[.map (some b)] 195)) fun e w'=>∃ (v:Value) (ss:List (List UInt8)),e = .returned v∧ss.Perm (strKeys D0) ∧
   w'.ownsRow (w.alloc (.cells #[.map (some b)] 195)).heap.size 9 1 v ss.length ((ss.mergeSort (fun x y=>decide (x≤y))).map encStr)∧(v = .slice none 0 0 ↔ ss = [])∧Below (w.alloc (.cells #[.map (some b)] 195)).heap.size (w.alloc (.cells #[.map (some b)] 195)) w':=by
 have hbl:=hown.lt
 have hseq:SeqGives Fence.wide 2 Tryz.prog 238 #[.pointer (some ⟨w.heap.size,0,none⟩)] encStr (fun ss=>ss.Perm (strKeys D0)) (Maps.size D0) (w.alloc (.cells #[.map (some b)] 195)) :=
  AnyZ.keys_gives (ρ:=Tryz.keys180_ren) { Tryz.keys180 with } Fence.wide _ trivial rfl (by omega) w.heap.size b nn D0 _ (by simp) (by simp) (by
   obtain ⟨es,clock,hb,Ft,hs,hD⟩:=hown
   exact ⟨es,clock,(Below.heap_alloc _ _ b hbl).trans hb,Ft,hs,hD⟩)
 exact AnyZ.sorted_in Tryz.sorted179 Fence.wide 5 trivial trivial trivial trivial rfl (by omega) (Tryz.sorts179 _) (enters_of Tryz.func237 (by kernel_rfl) rfl) 238 #[.pointer (some ⟨w.heap.size,0,none⟩)] trivial (enters_of Tryz.func238 (by kernel_rfl) rfl) _ _ hmax hbytes _ hseq
end Go.Proofs
