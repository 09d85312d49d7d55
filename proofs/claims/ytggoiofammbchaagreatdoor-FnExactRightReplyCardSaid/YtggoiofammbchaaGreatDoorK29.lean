/- Part 29 of a chain that ends in the statement named in GOCLAIM.json; no condition. -/
import Derived.Test.YtggoiofammbchaaGreatDoorK28
import Derived.Test.YtggoiofammbchaaGreatDoorCards
import Derived.Test.YtggoiofammbchaaGreatDoorTie
import Derived.WalkKit
import Derived.ProofKit
import Derived.LaidMore
import Derived.OpenShut
import Derived.ChangeOld
import Derived.ChangeMaps5
import Derived.Below
import Derived.Carry
import Derived.Lib.SmallJoins
import Derived.Stop.Joined
import Derived.Stop.LaidErr
import Derived.SevenTiedAt
set_option maxRecDepth 100000
set_option maxHeartbeats 2000000
set_option linter.all false
namespace Go.Proofs.YtggoiofammbchaaGreatDoor.Loc
open Go
variable {C:Ctx} {w:World}
theorem gES:Tryz.prog.globalNamed "strconv.ErrSyntax"=some 4:=by kernel_rfl
theorem gER:Tryz.prog.globalNamed "strconv.ErrRange"=some 5:=by kernel_rfl
noncomputable def ctx:Ctx where
 P:=Tryz.prog
 ng:=6
 G:=Gl
 uj:=fun w w' h hg=>by
  obtain ⟨tp,p,h1⟩:=hg.syn;obtain ⟨tp',p',h2⟩:=hg.ran;exact ⟨var_stays Dm hg.tab (h 0 (by omega)),⟨tp,p,var_stays gES h1 (h 4 (by omega))⟩,⟨tp',p',var_stays gER h2 (h 5 (by omega))⟩⟩
theorem Rel.Ha (hg:C.G w) (hn:C.ng<=w.heap.size):Rel C (fun _=>none) ⟨fun _ _=>none,fun _ _ _=>False⟩ (fun (i:Nat)=>([]:List O)[i]?) w where
 np:=hg
 ng:=hn
 dom:=fun i x h=>by simp at h
 fit:=fun i x W h=>by simp at h
 cells:=fun i x W h=>by simp at h
 own:=fun i x W h=>by simp at h
 mp:=fun i x W h=>by simp at h
 wd:=fun i x W h=>by simp at h
 wv:=fun i x W h=>by simp at h
 apart:=fun i x W i' x' W' h=>by simp at h
 hid:=fun i x W h=>by simp at h
 dY:=fun i x h=>by simp at h
 hap:=fun i x i' x' W' h=>by simp at h
 wo:=fun i x W h=>by simp at h
 fz:=fun b o u h=>by cases h
 dJ:=fun b o u h=>by cases h
theorem ua {e:Emb} {F:Fz}:∀ l:List (List UInt8),cK (b6 e F) (l.map fun s=>V.d (.str s)) (l.map fun s=>Value.string ⟨s.toArray⟩)
 | []=> .nil
 | s::l=> .cons (mC s) (ua l)
theorem r9 {f:FuncId} {l:List (List UInt8)} (h:Fn C f (l.map fun s=>V.d (.str s)) [] (.d (.bool true)) []) (w:World) (hg:C.G w) (hn:C.ng<=w.heap.size) :
  Calls C.P f (l.map fun s=>Value.string ⟨s.toArray⟩).toArray w fun e w'=>e= .returned (.bool true)/\RowKit.Below w.heap.size w w':=by
 refine (h.2 _ _ w _ (Rel.Ha hg hn) (fun _ _=>rfl) (ua l)).mono ?_;rintro en w' ⟨e',F',x,rfl,hv,_,hx⟩
 have hv:bj F' (.bool true) x:=hv;cases hv;refine ⟨rfl,(hx.up.mono ?_).below⟩;rintro b o ⟨i,x,W,hi,_⟩
 simp at hi
theorem Gl.lt (h:Gl w):6<=w.heap.size:=by
 obtain ⟨tp,p,h1⟩:=h.ran;exact At gER h1
open Go.RowKit Go.Joins Go.ChangeShapes Go.WideShapes Go.ChangeAt
theorem own:ownKnob Tryz.prog.godebug=none:=by kernel_rfl
abbrev l3 {H:Type}:List (String×DataW H):=[("math/bits.deBruijn32tab",Rows.laid_math_bits_deBruijn32tab),("math/bits.deBruijn64tab",Rows.laid_math_bits_deBruijn64tab),("internal/strconv.uint64pow10",Rows.laid_internal_strconv_uint64pow10),("strconv.ErrRange",Rows.laid_strconv_ErrRange),("strconv.ErrSyntax",Rows.laid_strconv_ErrSyntax)]
theorem rR (os:Os) (args:Array Value):laidMetH Tryz.prog l3 ((World.doorLaid Tryz.prog 400 os).forCall (fun _ _=>0) ⟨#[],args,[]⟩).memory:=by
 rw [MakeChecks.laidMetH_plain _ _ _ (by kernel_rfl)];exact laidMet_of_run' 8 (by kernel_rfl) (by kernel_rfl)
theorem CV:(Tryz.prog.globals[0]?).map (·.type)=some 247:=by kernel_rfl
theorem tES:(Tryz.prog.globals[4]?).map (·.type)=some 261:=by kernel_rfl
theorem tER:(Tryz.prog.globals[5]?).map (·.type)=some 261:=by kernel_rfl
theorem BW:Tryz.prog.cellsOf 291=1:=by kernel_rfl
theorem BX:Tryz.prog.cellsOf 9=1:=by kernel_rfl
theorem star: "*"++ "errors.errorString"= "*errors.errorString":=by decide
theorem Fx (u:TypeId) (h:Tryz.prog.typeName? 3 u=some "*errors.errorString"):u=289 :=
 typeName_ptr_named (nm:= "errors.errorString") (by rw [star];kernel_rfl) (by kernel_rfl) (by decide) u (by rw [star];exact h)
theorem BG {W:World} (h:laidMetH Tryz.prog l3 W):Gl W:=by
 rw [MakeChecks.laidMetH_plain _ _ _ (by kernel_rfl)] at h;have h3:=laidMet.tail (laidMet.tail h);have h4:=laidMet.tail h3;have h5:=laidMet.tail h4;obtain ⟨a0,s0,hv0,-,-,-⟩:=laid_sentinel h4 gER tER Tryz.underlying261 Fx Tryz.underlying289 Tryz.underlying291 rfl rfl Tryz.underlying9 BW BX;obtain ⟨a1,s1,hv1,-,-,-⟩:=laid_sentinel h5 gES tES Tryz.underlying261 Fx Tryz.underlying289 Tryz.underlying291 rfl rfl Tryz.underlying9 BW BX;exact ⟨Lib.tabIs_of_head Dm CV Tryz.underlying247 Tryz.underlying232 (by kernel_rfl) (by kernel_rfl) h3,⟨_,_,hv1⟩,⟨_,_,hv0⟩⟩
theorem sh:jE ctx:=Cr (C:=ctx) rfl (fun _ h=>h)
theorem Fb {a b:Bool} (h:a=true) (k:b=true):(a&&b)=true:=by rw [h,k];rfl
theorem xR:Tryz.prog.stopsHeard=true:=by kernel_rfl
theorem xS:Tryz.prog.mayEnter=true:=by kernel_rfl
theorem xP:mapsRowed Tryz.prog=true:=by kernel_rfl
theorem EI:laidOutB Tryz.prog=true:=by kernel_rfl
theorem B1:Tryz.pinned.checked.prog.mainIs=some (true,"9f526b0afcea9f6f6f5399081bc8a1ce9c66197a540853f9ec4053e40f0fdfb7".toList):=by kernel_rfl
theorem yc:true=Tryz.pinned.checked.prog.looks []:=by kernel_rfl
theorem B0:([9].all fun u=>!Tryz.prog.wantsStandIn u)=true:=by kernel_rfl
end Go.Proofs.YtggoiofammbchaaGreatDoor.Loc
