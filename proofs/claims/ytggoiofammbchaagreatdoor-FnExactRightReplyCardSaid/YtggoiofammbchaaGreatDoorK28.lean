/- Part 28 of a chain that ends in the statement named in GOCLAIM.json; no condition. -/
import Derived.Test.YtggoiofammbchaaGreatDoorK27
import Derived.RangeFuncBox
import Derived.RangeFuncNested
import Derived.RangeFuncBound
import Derived.RangeFuncCalls
import Derived.RangeFuncLeaves
import Derived.Shelf.Abstract
import Derived.WalkKit
import Derived.OwnWalkIn
import Derived.TacticsInMore
import Derived.LoopNIn
import Derived.LoopIn
set_option maxRecDepth 100000
set_option maxHeartbeats 2000000
set_option linter.all false
namespace Go.Proofs.YtggoiofammbchaaGreatDoor.Bk
open Go
open Go Go.RowKit Go.Shelf
attribute [local go_sem] Oper.semAt_some
def upto {α:Type} (f:Nat->α) (k:Nat):List α:=(List.range k).map f
theorem mj {α:Type} (f:Nat->α) (k:Nat):upto f (k+1)=upto f k++[f k]:=by simp [upto,List.range_succ]
theorem vC {α:Type} (f:Nat->α) (k:Nat):(upto f k).length=k:=by simp [upto]
theorem ug {a b:ByteArray}:(a.toList == b.toList)=true↔a=b:=by
 rw [Loc.toList_eq];constructor
 ·intro h;cases a;cases b;simp only [ByteArray.mk.injEq];exact Array.toList_inj.1 h
 ·rintro rfl;rfl
def bk (zs:List ByteArray) (k:Nat):Nat×ByteArray:=(zs.length - 1 - k,zs[zs.length - 1 - k]?.getD ByteArray.empty)
theorem B5 (F:Fence) (n:Nat) (h8:F.fn 267) (hro:F.round=none) (hn:1<=n) (l Bs n₀ b off cap:Nat) (zs:List ByteArray) (hreach:zs.length * 16<=140737488351232) (hb:b < n₀) (J Jx:List (Nat×ByteArray)->World->Prop)
  (hY:∀ pre x W,J pre W->pre.length < zs.length->YieldAt F (n - 1) Tryz.prog l #[.int .i64 (x.1:Int),.string x.2] W fun e W' =>
   (e= .returned (.bool true)/\J (pre++[x]) W'/\Below n₀ W W')\/(e= .returned (.bool false)/\Jx (pre++[x]) W'))
  (W:World) (hBs:W.cell? ⟨Bs,0,none⟩=some (.slice (some ⟨b,off,none⟩) zs.length cap)) (hc:∀ j,j < zs.length->W.cell? ⟨b,off+j,none⟩=some (.string (zs[j]?.getD ByteArray.empty))) (hBn:Bs < n₀) (h0:J [] W) :
  CallsIn F n Tryz.prog 267 #[.func (.yield l) #[] #[],.pointer (some ⟨Bs,0,none⟩)] W fun e W'=>(∃ v,e= .returned v) /\
   ((∃ ys,ys=upto (bk zs) zs.length/\J ys W')\/(∃ pre,(∃ k,k<=zs.length/\pre=upto (bk zs) k)/\Jx pre W')):=by
 refine callsIn_of_wp Tryz.func267 rfl h8 ?_ hro;simp only [Tryz.ntmps267,List.size_toArray,aT,c6,Nat.reduceAdd,Nat.reduceSub,Array.replicate_succ,Array.replicate_zero,List.push_toArray,List.append_toArray,dG,cN]
 gi_wp2
 gi_loopw [3] (fun i wr=>∃ (k:Nat) (m:Int),k<=zs.length/\m=(zs.length:Int) - 1 - k/\i= .int .i64 m/\J (upto (bk zs) k) wr/\Below n₀ W wr)
  (fun i _=>(intOf i+1).toNat)
 case atStart=>exact ⟨0,_,Nat.zero_le _,by omega,rfl,h0,Below.refl _ _⟩
 case round =>
  obtain ⟨k,m,hk,hm,rfl,hJs,hnx⟩:=hrel;have hBs':wr.cell? ⟨Bs,0,none⟩=some (.slice (some ⟨b,off,none⟩) zs.length cap):=(hnx.cell (p:=⟨Bs,0,none⟩) hBn).trans hBs;by_cases hlt:k < zs.length
  ·obtain ⟨j,rfl⟩:∃ j:Nat,m=j:=⟨m.toNat,by omega⟩
   have hj:j < zs.length:=by omega
   have hjk:j=zs.length - 1 - k:=by omega
   have hcx:wr.cell? ⟨b,off+j,none⟩=some (.string (zs[j]?.getD ByteArray.empty)):=(hnx.cell (p:=⟨b,off+j,none⟩) hb).trans (hc j hj);obtain ⟨fn,tmps,assign,body,hy,hR⟩:=hY _ (bk zs k) wr hJs (by rw [vC];exact hlt);rw [show bk zs k=(j,zs[j]?.getD ByteArray.empty) by rw [bk,<- hjk]] at hy;dsimp only at hy;generalize zs[j]?.getD ByteArray.empty=sv at hcx hy;have HM:=Loc.Asd.mk hm;clear hm hjk
   gi_wp2
   refine hR.mono ?_;rintro e W3 (⟨rfl,hJ3,hk3⟩ | ⟨rfl,hJx3⟩)
   ·gi_wp2
    go_roundw
    case rel=>exact ⟨k+1,(j:Int) - 1,by omega,by have:=HM.out;omega,rfl,by rw [mj];exact hJ3,hnx.trans hk3⟩
    case measure=>simp [intOf]
   ·gi_wp2
    refine bodyPost_ret (results_none rfl _ _ _) rfl ?_;exact ⟨⟨_,rfl⟩,.inr ⟨_,⟨k+1,by omega,(mj _ _).symm⟩,hJx3⟩⟩
  ·obtain rfl:k=zs.length:=by omega
   obtain rfl:m= -1:=by omega
   gi_wp2
   go_end0
   exact ⟨⟨_,rfl⟩,.inl ⟨_,rfl,hJs⟩⟩
def Strs (n₀:Nat) (W:World) (sv:Value) (zs:List ByteArray):Prop :=
 (∃ a cap,sv= .slice a 0 cap/\zs=[])\/∃ b off cap,sv= .slice (some ⟨b,off,none⟩) zs.length cap/\b < n₀/\∀ j,j < zs.length->W.cell? ⟨b,off+j,none⟩=some (.string (zs[j]?.getD ByteArray.empty))
theorem Strs.below {n₀:Nat} {A B:World} (h:Below n₀ A B) {sv:Value} {zs:List ByteArray}:Strs n₀ A sv zs->Strs n₀ B sv zs
 | .inl e=> .inl e
 | .inr ⟨b,off,cap,e,hb,hc⟩=> .inr ⟨b,off,cap,e,hb,fun j hj=>(h.cell (p:=⟨b,off+j,none⟩) hb).trans (hc j hj)⟩
theorem vm (F:Fence) (n:Nat) (h7:F.fn 267) (hro:F.round=none) (l Bs:Nat) (a:Option Addr) (cap:Nat) (J:List (Nat×ByteArray)->World->Prop) (W:World) (hBs:W.cell? ⟨Bs,0,none⟩=some (.slice a 0 cap)) (h0:J [] W) :
  CallsIn F n Tryz.prog 267 #[.func (.yield l) #[] #[],.pointer (some ⟨Bs,0,none⟩)] W fun e W'=>(∃ v,e= .returned v)/\J [] W':=by
 refine callsIn_of_wp Tryz.func267 rfl h7 ?_ hro;simp only [Tryz.ntmps267,List.size_toArray,aT,c6,Nat.reduceAdd,Nat.reduceSub,Array.replicate_succ,Array.replicate_zero,List.push_toArray,List.append_toArray,dG,cN]
 gi_wp2
 gi_loopw [3] (fun i wr=>i= .int .i64 (-1)/\J [] wr) (fun _ _=>0)
 case atStart=>exact ⟨rfl,h0⟩
 case round =>
  obtain ⟨rfl,hJs⟩:=hrel
  gi_wp2
  go_end0
  exact ⟨⟨_,rfl⟩,hJs⟩
theorem zb (F:Fence) (n:Nat) (h5:F.fn 246) (hro:F.round=none) (a:Option Addr) (len cap:Nat) (w:World) :
  CallsIn F n Tryz.prog 246 #[.slice a len cap] w fun e w'=>e= .returned (.func (.func 267) #[] #[.pointer (some ⟨w.heap.size,0,none⟩)])/\w'=w.alloc (.cells #[.slice a len cap] 44):=by
 refine callsIn_of_wp Tryz.func246 rfl h5 ?_ hro;simp only [Tryz.ntmps246,List.size_toArray,aT,c6,Nat.reduceAdd,Nat.reduceSub,Array.replicate_succ,Array.replicate_zero,List.push_toArray,List.append_toArray,dG,cN]
 gi_wp2
 go_ret
 exact ⟨rfl,rfl⟩
theorem sn (F:Fence) (n:Nat) (h7:F.fn 267) (hro:F.round=none) (hn:1<=n) (Bs n₀:Nat) (sv:Value) (zs:List ByteArray) (hreach:zs.length * 16<=140737488351232) (w:World) (hBs:Bs < w.heap.size) (hn₀:n₀<=w.heap.size) (hBn:Bs < n₀)
  (hc:w.cell? ⟨Bs,0,none⟩=some sv) (hI:Strs n₀ w sv zs) :
  SeqStopsK F n Tryz.prog 267 #[.pointer (some ⟨Bs,0,none⟩)] (fun x:Nat×ByteArray=>#[Value.int .i64 (x.1:Int),Value.string x.2]) (Below n₀) (fun ys=>ys=upto (bk zs) zs.length)
   (fun pre=>∃ k,k<=zs.length/\pre=upto (bk zs) k) zs.length w:=fun l J Jx W hW _ _ hY h0=>by
 have hc':=(hW.cell (p:=⟨Bs,0,none⟩) hBs).trans hc;rcases hI.below (hW.mono hn₀) with ⟨a,cap,rfl,rfl⟩ | ⟨b,off,cap,rfl,hb,hcs⟩
 ·exact (vm F n h7 hro l Bs a cap J W hc' h0).mono fun e W' ⟨he,hj⟩=>⟨he,.inl ⟨_,rfl,hj⟩⟩
 ·exact B5 F n h7 hro hn l Bs n₀ b off cap zs hreach hb J Jx hY W hc' hcs hBn h0
theorem xD (F:Fence) (n:Nat) (h4:F.fn 264) (h6:F.fn 246) (h8:F.fn 267) (hro:F.round=none) (hn:3<=n) (sb so:Nat) (a:Option Addr) (cap:Nat) (t:ByteArray) (zs:List ByteArray) (hreach:zs.length * 16<=140737488351232) (w:World)
  (hs:w.cell? ⟨sb,so+2,none⟩=some (.slice a zs.length cap)) (hI:Strs w.heap.size w (.slice a zs.length cap) zs) :
  CallsIn F n Tryz.prog 264 #[.pointer (some ⟨sb,so,none⟩),.string t] w fun e W' =>
   ((e= .returned (.int .i64 (-1))/\∀ j,j < zs.length->zs[j]?.getD ByteArray.empty≠t)\/(∃ k:Nat,k < zs.length/\e= .returned (.int .i64 k)/\zs[k]?.getD ByteArray.empty=t/\∀ j,k < j->j < zs.length->zs[j]?.getD ByteArray.empty≠t))/\Below w.heap.size w W':=by
 have h1:1<=n:=by omega
 have hs2:((w.alloc (.cells #[.string t] 9)).alloc (.cells #[.int .i64 0] 3)).cell? ⟨sb,so+2,none⟩=some (.slice a zs.length cap):=Lib.cell?_alloc_some _ (Lib.cell?_alloc_some _ hs);refine callsIn_of_wp_marks Tryz.func264 rfl h4 ?_ hro;simp only [Tryz.ntmps264,List.size_toArray,aT,c6,Nat.reduceAdd,Nat.reduceSub,Array.replicate_succ,Array.replicate_zero,List.push_toArray,List.append_toArray,dG,cN]
 gi_wp2_with (gi_at_call 246;refine (zb F (n - 1) h6 hro _ _ _ _).mono ?_;rintro e w' ⟨rfl,rfl⟩)
 have bT:=Boxed.new w 9 (.string t);have bR:=Boxed.new (w.alloc (.cells #[.string t] 9)) 3 (.int .i64 0);have bN:=Boxed.new ((w.alloc (.cells #[.string t] 9)).alloc (.cells #[.int .i64 0] 3)) 44 (.slice a zs.length cap);rw [World.size_alloc] at bR;rw [World.size_alloc,World.size_alloc] at bN;have hB0:Below w.heap.size w (((w.alloc (.cells #[.string t] 9)).alloc (.cells #[.int .i64 0] 3)).alloc (.cells #[.slice a zs.length cap] 44)):=(((Below.refl _ w).alloc (al _) _).alloc (by simp) _).alloc (by simp;omega) _;have hIw:Strs (w.heap.size+3) (((w.alloc (.cells #[.string t] 9)).alloc (.cells #[.int .i64 0] 3)).alloc (.cells #[.slice a zs.length cap] 44)) (.slice a zs.length cap) zs:=by
  rcases hI.below hB0 with h | ⟨b,o,c,e,hb,hc⟩
  ·exact .inl h
  ·exact .inr ⟨b,o,c,e,by omega,hc⟩
 refine wpIn_rangeFunc_ownG hro h1 (gf:=267) (lb:=#[.pointer (some ⟨w.heap.size+1+1,0,none⟩)]) rfl h8 (enters_of Tryz.func267 (by kernel_rfl) rfl)
  (sn F (n - 1) h8 hro (by omega) (w.heap.size+1+1) (w.heap.size+3) _ zs hreach _ (by simp) (by simp) (by omega) bN.cell hIw) belowK_t (belowK_b (by simp)) (Below.refl _ _) (fun _=>rfl)
  (fun pre W=>((∀ p∈pre,p.2≠t)/\W.cell? ⟨w.heap.size,0,none⟩=some (.string t)/\W.cell? ⟨w.heap.size+1,0,none⟩=some (.int .i64 0)/\W.frozen? ⟨w.heap.size+1,0,none⟩=false)/\Below w.heap.size w W)
  (fun c pre W=>(c= .ret/\∃ ini last,pre=ini++[last]/\(∀ p∈ini,p.2≠t)/\last.2=t/\W.cell? ⟨w.heap.size+1,0,none⟩=some (.int .i64 (last.1:Int)))/\Below w.heap.size w W)
  (OwnFrom.and (Own.from (fun s A B row hs hg hr=>⟨hs.1,cell_kept hs.2.1 hg hr,cell_kept hs.2.2.1 hg hr,(frozen_kept hs.2.2.1 hg hr).trans hs.2.2.2⟩) _) (ownFrom_below (al _) (by simp;omega)))
  (fun c=>OwnFrom.and (Own.from (fun s A B row hs hg hr=>by obtain ⟨hc,ini,last,e1,e2,e3,e4⟩:=hs;exact ⟨hc,ini,last,e1,e2,e3,cell_kept e4 hg hr⟩) _) (ownFrom_below (al _) (by simp;omega)))
  ⟨⟨by simp,((bT.alloc _).alloc _).cell,(bR.alloc _).cell,(bR.alloc _).frozen⟩,hB0⟩
  (fun x=>{tmps:=#[.pointer (some ⟨sb,so,none⟩),.string t,undef,.pointer (some ⟨w.heap.size,0,none⟩),.pointer (some ⟨w.heap.size+1,0,none⟩),.int .i64 (x.1:Int),.string x.2,.pointer (some ⟨sb,so,none⟩),.pointer (some ⟨sb,so,none⟩),.pointer (some ⟨sb,so+2,none⟩),.slice a zs.length cap,.func (.func 267) #[] #[.pointer (some ⟨w.heap.size+1+1,0,none⟩)],.int .i64 (x.1:Int),.string x.2,undef,undef,undef,undef],defers:=[]}) ?assign ?body ?done ?stop
 case assign =>
  intro l x W K hK
  gi_wp2
  exact hK
 case body =>
  rintro l pre x W ⟨⟨hp,hct,hcr,hfr⟩,hB⟩ _
  gi_wp2
  ·rename_i hx;have hx:=ug.1 hx;exact ⟨(KeepsOthers.setCell _ _ _).from _,⟨rfl,pre,x,rfl,hp,hx,World.cell?_setCell_same' _ _ _ (by rw [hcr];rfl)⟩,hB.setCell (p:=⟨w.heap.size+1,0,none⟩) (by simp) _⟩
  ·rename_i hx;have hx:x.2≠t:=fun e=>by rw [ug.2 e] at hx;cases hx
   exact ⟨KeepsFrom.refl _ _,Below.refl _ _,⟨fun p hp'=>(bL.1 hp').elim (hp p) (fun e=>by simp at e;subst e;exact hx),hct,hcr,hfr⟩,hB⟩
 case done =>
  rintro D ys W hD rfl ⟨⟨hne,hct,hcr,hfr⟩,hB⟩ hK
  gi_wp2
  have hK':=(KeepsOthers.setCell W ⟨w.heap.size+1,0,none⟩ (.int .i64 (-1))).same D _ hK rfl;refine ⟨by simp,.inl ⟨_,_,rfl,run_takeDeferred hK',?_⟩⟩;have hc5:=cell_kept (World.cell?_setCell_same' W ⟨w.heap.size+1,0,none⟩ (.int .i64 (-1)) (by rw [hcr];rfl)) (grownBy_putObj' _ D (.deferred none)) (fun r e=>by cases e;exact ⟨_,hK',rfl⟩);refine ⟨.int .i64 (-1),?_,.inl ⟨rfl,fun j hj=>?_⟩,(hB.setCell (p:=⟨w.heap.size+1,0,none⟩) (by simp) _).trans (belowK_b (w:=w) (al _) _ D _ _ (by simp at hD;omega) hK' rfl rfl)⟩
  ·simp [results,Tryz.f264,go_sem,hc5]
  ·have:=hne (bk zs (zs.length - 1 - j)) (by simp only [upto,List.mem_map,List.mem_range];exact ⟨_,by omega,rfl⟩);rw [bk,show zs.length - 1 - (zs.length - 1 - j)=j by omega] at this;exact this
 case stop =>
  rintro D c pre W hD ⟨k,hk,rfl⟩ ⟨⟨rfl,ini,last,e1,e2,e3,hcr⟩,hB⟩ hK
  gi_wp2
  refine ⟨by simp,.inl ⟨_,_,rfl,run_takeDeferred hK,?_⟩⟩;have hc5:=cell_kept hcr (grownBy_putObj' _ D (.deferred none)) (fun r e=>by cases e;exact ⟨_,hK,rfl⟩);obtain ⟨k',rfl⟩:∃ k',k=k'+1:=by
   cases k with
   | zero=>simp [upto] at e1
   | succ k'=>exact ⟨k',rfl⟩
  rw [mj] at e1;obtain ⟨rfl,e5⟩:=List.append_inj' e1 rfl;obtain rfl:bk zs k'=last:=by simpa using e5
  refine ⟨.int .i64 ((zs.length - 1 - k':Nat):Int),?_,.inr ⟨zs.length - 1 - k',by omega,rfl,e3,fun j hj1 hj2=>?_⟩,hB.trans (belowK_b (w:=w) (al _) W D _ _ (by simp at hD;omega) hK rfl rfl)⟩
  ·have hc5':=hc5;rw [bk] at hc5';simp [results,Tryz.f264,go_sem,hc5']
  ·have:=e2 (bk zs (zs.length - 1 - j)) (by simp only [upto,List.mem_map,List.mem_range];exact ⟨_,by omega,rfl⟩);rw [bk,show zs.length - 1 - (zs.length - 1 - j)=j by omega] at this;exact this
theorem xE (F:Fence) (n:Nat) (h4:F.fn 214) (h6:F.fn 246) (h8:F.fn 267) (hro:F.round=none) (hn:3<=n) (sb so:Nat) (a:Option Addr) (cap:Nat) (t:ByteArray) (zs:List ByteArray) (hreach:zs.length * 16<=140737488351232) (w:World)
  (hs:w.cell? ⟨sb,so+2,none⟩=some (.slice a zs.length cap)) (hI:Strs w.heap.size w (.slice a zs.length cap) zs) :
  CallsIn F n Tryz.prog 214 #[.pointer (some ⟨sb,so,none⟩),.string t] w fun e W' =>
   ((e= .returned (.int .i64 0)/\∀ j,j < zs.length->zs[j]?.getD ByteArray.empty≠t)\/(∃ k:Nat,k < zs.length/\e= .returned (.int .i64 k)/\zs[k]?.getD ByteArray.empty=t/\∀ j,k < j->j < zs.length->zs[j]?.getD ByteArray.empty≠t))/\Below w.heap.size w W':=by
 have h1:1<=n:=by omega
 have hs2:((w.alloc (.cells #[.string t] 9)).alloc (.cells #[.int .i64 0] 3)).cell? ⟨sb,so+2,none⟩=some (.slice a zs.length cap):=Lib.cell?_alloc_some _ (Lib.cell?_alloc_some _ hs);refine callsIn_of_wp_marks Tryz.func214 rfl h4 ?_ hro;simp only [Tryz.ntmps214,List.size_toArray,aT,c6,Nat.reduceAdd,Nat.reduceSub,Array.replicate_succ,Array.replicate_zero,List.push_toArray,List.append_toArray,dG,cN]
 gi_wp2_with (gi_at_call 246;refine (zb F (n - 1) h6 hro _ _ _ _).mono ?_;rintro e w' ⟨rfl,rfl⟩)
 have bT:=Boxed.new w 9 (.string t);have bR:=Boxed.new (w.alloc (.cells #[.string t] 9)) 3 (.int .i64 0);have bN:=Boxed.new ((w.alloc (.cells #[.string t] 9)).alloc (.cells #[.int .i64 0] 3)) 44 (.slice a zs.length cap);rw [World.size_alloc] at bR;rw [World.size_alloc,World.size_alloc] at bN;have hB0:Below w.heap.size w (((w.alloc (.cells #[.string t] 9)).alloc (.cells #[.int .i64 0] 3)).alloc (.cells #[.slice a zs.length cap] 44)):=(((Below.refl _ w).alloc (al _) _).alloc (by simp) _).alloc (by simp;omega) _;have hIw:Strs (w.heap.size+3) (((w.alloc (.cells #[.string t] 9)).alloc (.cells #[.int .i64 0] 3)).alloc (.cells #[.slice a zs.length cap] 44)) (.slice a zs.length cap) zs:=by
  rcases hI.below hB0 with h | ⟨b,o,c,e,hb,hc⟩
  ·exact .inl h
  ·exact .inr ⟨b,o,c,e,by omega,hc⟩
 refine wpIn_rangeFunc_ownG hro h1 (gf:=267) (lb:=#[.pointer (some ⟨w.heap.size+1+1,0,none⟩)]) rfl h8 (enters_of Tryz.func267 (by kernel_rfl) rfl)
  (sn F (n - 1) h8 hro (by omega) (w.heap.size+1+1) (w.heap.size+3) _ zs hreach _ (by simp) (by simp) (by omega) bN.cell hIw) belowK_t (belowK_b (by simp)) (Below.refl _ _) (fun _=>rfl)
  (fun pre W=>((∀ p∈pre,p.2≠t)/\W.cell? ⟨w.heap.size,0,none⟩=some (.string t)/\W.cell? ⟨w.heap.size+1,0,none⟩=some (.int .i64 0)/\W.frozen? ⟨w.heap.size+1,0,none⟩=false)/\Below w.heap.size w W)
  (fun c pre W=>(c= .ret/\∃ ini last,pre=ini++[last]/\(∀ p∈ini,p.2≠t)/\last.2=t/\W.cell? ⟨w.heap.size+1,0,none⟩=some (.int .i64 (last.1:Int)))/\Below w.heap.size w W)
  (OwnFrom.and (Own.from (fun s A B row hs hg hr=>⟨hs.1,cell_kept hs.2.1 hg hr,cell_kept hs.2.2.1 hg hr,(frozen_kept hs.2.2.1 hg hr).trans hs.2.2.2⟩) _) (ownFrom_below (al _) (by simp;omega)))
  (fun c=>OwnFrom.and (Own.from (fun s A B row hs hg hr=>by obtain ⟨hc,ini,last,e1,e2,e3,e4⟩:=hs;exact ⟨hc,ini,last,e1,e2,e3,cell_kept e4 hg hr⟩) _) (ownFrom_below (al _) (by simp;omega)))
  ⟨⟨by simp,((bT.alloc _).alloc _).cell,(bR.alloc _).cell,(bR.alloc _).frozen⟩,hB0⟩
  (fun x=>{tmps:=#[.pointer (some ⟨sb,so,none⟩),.string t,undef,.pointer (some ⟨w.heap.size,0,none⟩),.pointer (some ⟨w.heap.size+1,0,none⟩),.int .i64 (x.1:Int),.string x.2,.pointer (some ⟨sb,so,none⟩),.pointer (some ⟨sb,so,none⟩),.pointer (some ⟨sb,so+2,none⟩),.slice a zs.length cap,.func (.func 267) #[] #[.pointer (some ⟨w.heap.size+1+1,0,none⟩)],.int .i64 (x.1:Int),.string x.2,undef,undef,undef,undef],defers:=[]}) ?assign ?body ?done ?stop
 case assign =>
  intro l x W K hK
  gi_wp2
  exact hK
 case body =>
  rintro l pre x W ⟨⟨hp,hct,hcr,hfr⟩,hB⟩ _
  gi_wp2
  ·rename_i hx;have hx:=ug.1 hx;exact ⟨(KeepsOthers.setCell _ _ _).from _,⟨rfl,pre,x,rfl,hp,hx,World.cell?_setCell_same' _ _ _ (by rw [hcr];rfl)⟩,hB.setCell (p:=⟨w.heap.size+1,0,none⟩) (by simp) _⟩
  ·rename_i hx;have hx:x.2≠t:=fun e=>by rw [ug.2 e] at hx;cases hx
   exact ⟨KeepsFrom.refl _ _,Below.refl _ _,⟨fun p hp'=>(bL.1 hp').elim (hp p) (fun e=>by simp at e;subst e;exact hx),hct,hcr,hfr⟩,hB⟩
 case done =>
  rintro D ys W hD rfl ⟨⟨hne,hct,hcr,hfr⟩,hB⟩ hK
  gi_wp2
  have hK':=(KeepsOthers.setCell W ⟨w.heap.size+1,0,none⟩ (.int .i64 0)).same D _ hK rfl;refine ⟨by simp,.inl ⟨_,_,rfl,run_takeDeferred hK',?_⟩⟩;have hc5:=cell_kept (World.cell?_setCell_same' W ⟨w.heap.size+1,0,none⟩ (.int .i64 0) (by rw [hcr];rfl)) (grownBy_putObj' _ D (.deferred none)) (fun r e=>by cases e;exact ⟨_,hK',rfl⟩);refine ⟨.int .i64 0,?_,.inl ⟨rfl,fun j hj=>?_⟩,(hB.setCell (p:=⟨w.heap.size+1,0,none⟩) (by simp) _).trans (belowK_b (w:=w) (al _) _ D _ _ (by simp at hD;omega) hK' rfl rfl)⟩
  ·simp [results,Tryz.f214,go_sem,hc5]
  ·have:=hne (bk zs (zs.length - 1 - j)) (by simp only [upto,List.mem_map,List.mem_range];exact ⟨_,by omega,rfl⟩);rw [bk,show zs.length - 1 - (zs.length - 1 - j)=j by omega] at this;exact this
 case stop =>
  rintro D c pre W hD ⟨k,hk,rfl⟩ ⟨⟨rfl,ini,last,e1,e2,e3,hcr⟩,hB⟩ hK
  gi_wp2
  refine ⟨by simp,.inl ⟨_,_,rfl,run_takeDeferred hK,?_⟩⟩;have hc5:=cell_kept hcr (grownBy_putObj' _ D (.deferred none)) (fun r e=>by cases e;exact ⟨_,hK,rfl⟩);obtain ⟨k',rfl⟩:∃ k',k=k'+1:=by
   cases k with
   | zero=>simp [upto] at e1
   | succ k'=>exact ⟨k',rfl⟩
  rw [mj] at e1;obtain ⟨rfl,e5⟩:=List.append_inj' e1 rfl;obtain rfl:bk zs k'=last:=by simpa using e5
  refine ⟨.int .i64 ((zs.length - 1 - k':Nat):Int),?_,.inr ⟨zs.length - 1 - k',by omega,rfl,e3,fun j hj1 hj2=>?_⟩,hB.trans (belowK_b (w:=w) (al _) W D _ _ (by simp at hD;omega) hK rfl rfl)⟩
  ·have hc5':=hc5;rw [bk] at hc5';simp [results,Tryz.f214,go_sem,hc5']
  ·have:=e2 (bk zs (zs.length - 1 - j)) (by simp only [upto,List.mem_map,List.mem_range];exact ⟨_,by omega,rfl⟩);rw [bk,show zs.length - 1 - (zs.length - 1 - j)=j by omega] at this;exact this
end Go.Proofs.YtggoiofammbchaaGreatDoor.Bk
namespace Go.Proofs.YtggoiofammbchaaGreatDoor.Loc
open Go
theorem yw (t:List UInt8):∀ (n:Nat) (l:List (List UInt8)),l.length=n->((∀ j:Nat,l[j]?≠some t)->au l t= -1)/\∀ k:Nat,l[k]?=some t->(∀ j:Nat,k < j->l[j]?≠some t)->au l t=k
 | 0,l,h=>by
  obtain rfl:=List.eq_nil_of_length_eq_zero h;exact ⟨fun _=>rfl,fun k hk=>by simp at hk⟩
 | n+1,l,h=>by
  obtain ⟨l',w,rfl⟩:∃ l' w,l=l'++[w]:=⟨l.dropLast,l.getLast (by intro e;rw [e] at h;cases h),(List.dropLast_concat_getLast _).symm⟩
  have hl:l'.length=n:=by simpa using h
  obtain ⟨ih1,ih2⟩:=yw t n l' hl;rw [lL];refine ⟨fun hj=>?_,fun k hk hj=>?_⟩
  ·have hw:w≠t:=fun e=>hj l'.length (by simp [e])
   rw [ab hw];refine ih1 fun j hjt=>hj j ?_
   rw [bU (af.1 hjt).1];exact hjt
  ·by_cases hw:w=t
   ·rw [aj hw];have h1:k < (l'++[w]).length:=(af.1 hk).1;rw [aH,aU] at h1;by_cases hkl:k=l'.length
    ·rw [hkl]
    ·exact absurd (by simp [hw]) (hj l'.length (by omega))
   ·rw [ab hw];have h1:k < (l'++[w]).length:=(af.1 hk).1;rw [aH,aU] at h1;have hkl:k < l'.length:=by
     rcases Nat.lt_or_ge k l'.length with h2 | h2
     ·exact h2
     ·obtain rfl:k=l'.length:=by omega
      exact absurd (by simpa using hk) hw
    refine ih2 k (by rwa [bU hkl] at hk) fun j hkj hjt=>hj j hkj ?_
    rw [bU (af.1 hjt).1];exact hjt
theorem v8 {C:Ctx} {e:Emb} {F:Fz} {g:Sto} {w:World} (hR:Rel C e F g w) {i:Nat} {x:O} {W:Win} (hg:g i=some x) (hW:e i=some W) (hx:x.gone=false) {o:Nat} {l:List (List UInt8)} (hc:x.cell 0 o=some (.own false 1 (bd l))) :
  ∃ a cap,w.cell? ⟨W.b,W.base+o,none⟩=some (.slice a l.length cap)/\Bk.Strs w.heap.size w (.slice a l.length cap) (l.map fun s=>⟨s.toArray⟩):=by
 obtain ⟨Sub,_,_,h3⟩:=(Hid.plain hx).1 (hR.hid i x W hg hW);obtain ⟨u,hu,hT⟩:=h3 0 o _ _ _ hc;rw [Nat.zero_mul,cr] at hu;generalize hr:bd l=rows at hT;have hlen:rows.length=l.length:=by rw [<- hr];simp [bd]
 cases hT with
 | nil _ _ a _ =>
  have hl:l=[]:=List.eq_nil_of_length_eq_zero (by rw [<- hlen];rfl);subst hl;exact ⟨a,0,hu,.inl ⟨a,0,rfl,rfl⟩⟩
 | mk _ _ _ b p cap _ Sub us h0 hcap hw hS hu' hd hp ho hs ha =>
  rw [hlen] at hu;by_cases hl0:l=[]
  ·subst hl0;exact ⟨_,cap,hu,.inl ⟨_,cap,rfl,rfl⟩⟩
  refine ⟨_,cap,hu,.inr ⟨b,p,cap,by simp,?_,?_⟩⟩
  ·have hj:0 < l.length:=List.length_pos_iff.2 hl0;have hrow:(rows[0]?.bind (·[0]?))=some (.str l[0]):=by rw [<- hr];simp [bd,aa hj]
   exact iE (hu' 0 0 _ hrow)
  ·intro j hj;rw [aJ] at hj;have hrow:(rows[j]?.bind (·[0]?))=some (.str l[j]):=by rw [<- hr];simp [bd,aa hj]
   have h1:=hu' j 0 _ hrow;rw [kE (hd j 0 _ hrow rfl)] at h1;rw [show p+j=p+j * 1+0 by omega,h1];simp [hj]
theorem nL {l:List (List UInt8)} {t:List UInt8}:((∀ j,j < (l.map fun s=>(⟨s.toArray⟩:ByteArray)).length->(l.map fun s=>(⟨s.toArray⟩:ByteArray))[j]?.getD ByteArray.empty≠⟨t.toArray⟩)->au l t= -1) /\
  ∀ k:Nat,k < (l.map fun s=>(⟨s.toArray⟩:ByteArray)).length->(l.map fun s=>(⟨s.toArray⟩:ByteArray))[k]?.getD ByteArray.empty=⟨t.toArray⟩->(∀ j,k < j->j < (l.map fun s=>(⟨s.toArray⟩:ByteArray)).length->(l.map fun s=>(⟨s.toArray⟩:ByteArray))[j]?.getD ByteArray.empty≠⟨t.toArray⟩)->au l t=k:=by
 obtain ⟨h1,h2⟩:=yw t l.length l rfl;have conv:∀ j:Nat,l[j]?=some t↔j < (l.map fun s=>(⟨s.toArray⟩:ByteArray)).length/\(l.map fun s=>(⟨s.toArray⟩:ByteArray))[j]?.getD ByteArray.empty=⟨t.toArray⟩:=by
  intro j;rw [aJ];by_cases hj:j < l.length
  ·simp [hj,ByteArray.mk.injEq]
  ·simp [hj]
 refine ⟨fun h=>h1 fun j hj=>?_,fun k hk e h=>h2 k ((conv k).2 ⟨hk,e⟩) fun j hkj hj=>?_⟩
 ·obtain ⟨a,b⟩:=(conv j).1 hj;exact h j a b
 ·obtain ⟨a,b⟩:=(conv j).1 hj;exact h j hkj a b
section
variable {C:Ctx} (hP:C.P=Tryz.prog)
include hP
theorem GY (s:Sc) (ns:List Nd) (root:Int) (es:List (D×Int)) (t:List UInt8) (hl:s.names.length<=1073741824):Fn C 264 [.ptr 0 0 0,.d (.str t)] [s.enc,bz ns root,.mp es] (.d (.int .i64 (au s.names t))) [some s.enc,some (bz ns root),some (.mp es)]:=by
 refine Fn.kept (os:=[s.enc,bz ns root,.mp es]) ⟨_,_,hP▸Tryz.func264,by kernel_rfl,rfl⟩ fun e F w xs hR ha=>?_
 rcases ha with _ | ⟨⟨W,hW,rfl⟩,_ | ⟨h2,_ | _⟩⟩
 rw [kE h2,hP];obtain ⟨a,cap,h3,h4⟩:=v8 hR (i:=0) (x:=s.enc) (W:=W) rfl hW rfl (o:=2) (l:=s.names) rfl;simp only [Nat.zero_mul,cr];have:=Bk.xD Fence.wide 3 trivial trivial trivial rfl (by omega) W.b W.base a cap ⟨t.toArray⟩ (s.names.map fun s=>⟨s.toArray⟩) (by rw [aJ];omega) w (by rw [aJ];exact h3) (by rw [aJ];exact h4);refine (callsIn_wide.1 this).mono ?_;rintro en w' ⟨⟨rfl,h5⟩ | ⟨k,hk,rfl,h5,h6⟩,hb⟩
 ·exact ⟨_,rfl,by rw [nL.1 h5];exact bj.int _ _,hb⟩
 ·exact ⟨_,rfl,by rw [nL.2 k hk h5 h6];exact bj.int _ _,hb⟩
theorem G4 (fn:List (List UInt8)) (g:Gs) (ns:List Nd) (root:Int) (t:List UInt8) (hl:g.names.length<=1073741824):Fn C 214 [.ptr 0 0 0,.d (.str t)] [g.enc fn,bz ns root] (.d (.int .i64 (slI g.names t))) [some (g.enc fn),some (bz ns root)]:=by
 refine Fn.kept (os:=[g.enc fn,bz ns root]) ⟨_,_,hP▸Tryz.func214,by kernel_rfl,rfl⟩ fun e F w xs hR ha=>?_
 rcases ha with _ | ⟨⟨W,hW,rfl⟩,_ | ⟨h2,_ | _⟩⟩
 rw [kE h2,hP];obtain ⟨a,cap,h3,h4⟩:=v8 hR (i:=0) (x:=g.enc fn) (W:=W) rfl hW rfl (o:=2) (l:=g.names) rfl;simp only [Nat.zero_mul,cr];have:=Bk.xE Fence.wide 3 trivial trivial trivial rfl (by omega) W.b W.base a cap ⟨t.toArray⟩ (g.names.map fun s=>⟨s.toArray⟩) (by rw [aJ];omega) w (by rw [aJ];exact h3) (by rw [aJ];exact h4);refine (callsIn_wide.1 this).mono ?_;rintro en w' ⟨⟨rfl,h5⟩ | ⟨k,hk,rfl,h5,h6⟩,hb⟩
 ·exact ⟨_,rfl,by rw [slI,nL.1 h5];exact bj.int _ _,hb⟩
 ·exact ⟨_,rfl,by rw [slI,nL.2 k hk h5 h6,ab (by omega)];exact bj.int _ _,hb⟩
theorem Cr (hG:∀ w,C.G w->Gl w):jE C where
 s1:=⟨GZ hP,G0 hP hG⟩
 s2:=⟨s67 hP hG⟩
 s3:=⟨GY hP⟩
 s4:=⟨G5 hP⟩
 s5:=⟨G4 hP⟩
 s6:=⟨Fu hP⟩
 s7:=⟨G3 hP⟩
end
end Go.Proofs.YtggoiofammbchaaGreatDoor.Loc
