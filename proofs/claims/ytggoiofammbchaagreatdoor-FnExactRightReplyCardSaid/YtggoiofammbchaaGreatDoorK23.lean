/- Part 23 of a chain that ends in the statement named in GOCLAIM.json; no condition. -/
import Derived.Test.YtggoiofammbchaaGreatDoorK22
set_option maxRecDepth 100000
set_option maxHeartbeats 2000000
set_option linter.all false
namespace Go.Proofs.YtggoiofammbchaaGreatDoor.Loc
open Go
section
variable {C:Ctx} (hP:C.P=Tryz.prog)
include hP
theorem k91 (P:List Fc) (hPk:mi P) (m:bI) (f:Frm) (l:List Frm) (hfs:m.fs=f::l) (hf:Fits m.fs) {fc:Fc} {sl:Nat} {H:Hs} {i:Ins} (hh:xt P f fc sl H i) (hcl:fc.code.length<=1000) (hu:m.used<=1000000) (hPl:P.length<=1000) :
  Fn C 91 [.agg [.d (.imm 4 (P.map Fc.enc))],.ptr 0 0 0] [m.enc] (.tup []) [some (iG P m).enc]:=by
 obtain ⟨fs,st,vl,us⟩:=m;have hfs:fs=f::l:=hfs;subst hfs;have e:iG P ⟨f::l,st,vl,us⟩=bE P i {f with pc:=f.pc+1} l ⟨f::l,st,vl,min (us+1) 1000000⟩:=by
  unfold iG;simp only;rw [hh.pJ]
 rw [e];have hu:us<=1000000:=hu;obtain ⟨h6,hs1,hs2⟩:=hf.cons;have hpl:f.pc < fc.code.length:=(af.1 hh.ins).1;have hfn:f.fn < P.length:=(af.1 hh.get).1;have hr1:(P.map Fc.enc)[((f.fn:Nat):Int).toNat]?=some fc.enc:=by simp [hh.get]
 have hr2:(fc.code.map Ins.enc)[((f.pc:Nat):Int).toNat]?=some i.enc:=by simp [hh.ins]
 have hus:(if IntKind.i64.wrap (((⟨f::l,st,vl,us⟩:bI).used:Int)+1) < (1000000:Int) then IntKind.i64.wrap (((⟨f::l,st,vl,us⟩:bI).used:Int)+1) else (1000000:Int))=((min (us+1) 1000000:Nat):Int):=by
  show (if IntKind.i64.wrap ((us:Int)+1) < (1000000:Int) then IntKind.i64.wrap ((us:Int)+1) else (1000000:Int))=((min (us+1) 1000000:Nat):Int);rw [aC (by omega)];split<;>omega
 generalize min (us+1) 1000000=us' at hus ⊢;have hfl:=hh.sK;have hvs:=hh.vs;have hvt:=hh.vt;have hslots:=hh.aL;have hset1:(a7 (f::l)).set l.length [.int .i64 f.fn,.int .i64 ((f.pc+1:Nat):Int),.own false 3 (f.aL.map Val.enc),.own false 3 (f.stack.map Val.enc),.own false 2 (f.tries.map tryD)]=a7 ({f with pc:=f.pc+1}::l):=fG f {f with pc:=f.pc+1} l;have hf1:Fits ({f with pc:=f.pc+1}::l):=by
  refine ⟨hf.1,fun g hg=>?_⟩;rcases aQ.1 hg with rfl | hg
  ·exact hf.2 f (by simp)
  ·exact hf.2 g (aM _ hg)
 refine eN hP c91 ⟨?_⟩;rw [bu];have hW:IntKind.i64.wrap ((((⟨f::l,st,vl,us⟩:bI).fs.length:Nat):Int) - 1)=((l.length:Nat):Int):=by
  rw [eo (n:=(f::l).length) (by simp) (by simp only [aT];omega)];simp
 rw [hW];refine ah.dR ?_ ?_
 ·exact ⟨by omega,by simp only [aT];omega⟩
 rw [show 0+((l.length:Nat):Int).toNat=l.length by simp];refine gG ⟨?_⟩;repeat' (first | refine gN (by simp [ew]) ⟨?_⟩ | fail)
 refine gD (aE f l) ⟨gD hr1 ⟨gD hr2 ⟨?_⟩⟩⟩;repeat' (first | refine gN (by simp [ew]) ⟨?_⟩ | fail)
 rw [hus,aC (n:=f.pc) (by omega)];cases hfl with
 | push v h t a b c =>
  obtain ⟨x1,x2⟩:=hh.high b;have hN:0<=f.stack.length:=by omega
  have ee:bE P (fN v) {f with pc:=f.pc+1} l ⟨f::l,st,vl,us'⟩=bI.made (v,0) ⟨(({f with pc:=f.pc+1}:Frm).pop 0)::l,st,vl,us'⟩:=by
   rfl
  rw [ee];have hfit:=hf1.pop 0;have c131:=mL hP {f with pc:=f.pc+1} 0 hN hs1;generalize hg:({f with pc:=f.pc+1}:Frm).pop 0=g at c131 hfit ⊢
  (repeat' (first | refine gY ⟨?_⟩ | refine gX ⟨?_⟩ | fail))
  have hg1:g={f with pc:=f.pc+1}:=by rw [<- hg];simp [Frm.pop]
  subst hg1;exact gD (aE f l) ⟨gC [0] (zN hP ⟨{f with pc:=f.pc+1}::l,st,vl,us'⟩ v 0 hfit (by simp)) ⟨lW ⟨⟨rfl,trivial⟩,rfl⟩⟩ rfl rfl (congrArg (fun R=>some [O.st [V.own true 5 R,.d (.int .i64 st),.d (.int .i64 vl.kind),.d (.int .i64 vl.n),.d (.str vl.t),.d (.int .i64 us')]]) (cB rfl (dw rfl rfl rfl rfl rfl)))⟩
 | un x h t b c =>
  obtain ⟨x1,x2⟩:=hh.high b;have hN:1<=f.stack.length:=by omega
  have ee:bE P (iOp 4 0 0 x) {f with pc:=f.pc+1} l ⟨f::l,st,vl,us'⟩=bI.made (vUn x (arg (f.stack.drop (f.stack.length - 1)) 0)) ⟨(({f with pc:=f.pc+1}:Frm).pop 1)::l,st,vl,us'⟩:=by
   simp [bE,iOp,dB,Frm.pop,Frm.top]
  rw [ee];have hfit:=hf1.pop 1;have c131:=mL hP {f with pc:=f.pc+1} 1 hN hs1;generalize hg:({f with pc:=f.pc+1}:Frm).pop 1=g at c131 hfit ⊢
  (repeat' (first | refine gY ⟨?_⟩ | refine gX ⟨?_⟩ | fail))
  exact gC [3] c131 ⟨gD (lr (f:={f with pc:=f.pc+1}) (n:=1) (k:=0) (by omega) hN) ⟨gO (HX hP x (arg (f.stack.drop (f.stack.length - 1)) 0) (gu (l:=f.stack.drop (f.stack.length - 1)) (k:=0) (fun v hv=>hvt v (br hv))).1) ⟨gD (aE f l) ⟨gC [0] (zN hP ⟨g::l,st,vl,us'⟩ (vUn x (arg (f.stack.drop (f.stack.length - 1)) 0)).1 (vUn x (arg (f.stack.drop (f.stack.length - 1)) 0)).2 hfit (by simp)) ⟨lW ⟨⟨rfl,trivial⟩,rfl⟩⟩ rfl rfl (congrArg (fun R=>some [O.st [V.own true 5 R,.d (.int .i64 st),.d (.int .i64 vl.kind),.d (.int .i64 vl.n),.d (.str vl.t),.d (.int .i64 us')]]) (cB rfl (dw rfl rfl rfl rfl rfl)))⟩⟩⟩⟩
 | bin x h t b c =>
  obtain ⟨x1,x2⟩:=hh.high b;have hN:2<=f.stack.length:=by omega
  have ee:bE P (iOp 5 0 0 x) {f with pc:=f.pc+1} l ⟨f::l,st,vl,us'⟩=bI.made (mI x (arg (f.stack.drop (f.stack.length - 2)) 0) (arg (f.stack.drop (f.stack.length - 2)) 1)) ⟨(({f with pc:=f.pc+1}:Frm).pop 2)::l,st,vl,us'⟩:=by
   simp [bE,iOp,dB,Frm.pop,Frm.top]
  rw [ee];have hfit:=hf1.pop 2;have c131:=mL hP {f with pc:=f.pc+1} 2 hN hs1;generalize hg:({f with pc:=f.pc+1}:Frm).pop 2=g at c131 hfit ⊢
  (repeat' (first | refine gY ⟨?_⟩ | refine gX ⟨?_⟩ | fail))
  exact gC [3] c131 ⟨gD (lr (f:={f with pc:=f.pc+1}) (n:=2) (k:=0) (by omega) hN) ⟨gD (lr (f:={f with pc:=f.pc+1}) (n:=2) (k:=1) (by omega) hN) ⟨gO (HW hP x (arg (f.stack.drop (f.stack.length - 2)) 0) (arg (f.stack.drop (f.stack.length - 2)) 1) (gu (l:=f.stack.drop (f.stack.length - 2)) (k:=0) (fun v hv=>hvt v (br hv))).1 (gu (l:=f.stack.drop (f.stack.length - 2)) (k:=1) (fun v hv=>hvt v (br hv))).1 (gu (l:=f.stack.drop (f.stack.length - 2)) (k:=0) (fun v hv=>hvt v (br hv))).2.2 (gu (l:=f.stack.drop (f.stack.length - 2)) (k:=1) (fun v hv=>hvt v (br hv))).2.2) ⟨gD (aE f l) ⟨gC [0] (zN hP ⟨g::l,st,vl,us'⟩ (mI x (arg (f.stack.drop (f.stack.length - 2)) 0) (arg (f.stack.drop (f.stack.length - 2)) 1)).1 (mI x (arg (f.stack.drop (f.stack.length - 2)) 0) (arg (f.stack.drop (f.stack.length - 2)) 1)).2 hfit (by simp)) ⟨lW ⟨⟨rfl,trivial⟩,rfl⟩⟩ rfl rfl (congrArg (fun R=>some [O.st [V.own true 5 R,.d (.int .i64 st),.d (.int .i64 vl.kind),.d (.int .i64 vl.n),.d (.str vl.t),.d (.int .i64 us')]]) (cB rfl (dw rfl rfl rfl rfl rfl)))⟩⟩⟩⟩⟩
 | bi x ks nk h t a z b c =>
  obtain ⟨x1,x2⟩:=hh.high b;have hN:nk<=f.stack.length:=by omega
  have ee:bE P (iOp 11 nk 0 x) {f with pc:=f.pc+1} l ⟨f::l,st,vl,us'⟩=bI.made (vBi x (f.stack.drop (f.stack.length - nk))) ⟨(({f with pc:=f.pc+1}:Frm).pop nk)::l,st,vl,us'⟩:=by
   simp [bE,iOp,dB,Frm.pop,Frm.top]
  rw [ee];have hfit:=hf1.pop nk;have c131:=mL hP {f with pc:=f.pc+1} nk hN hs1;generalize hg:({f with pc:=f.pc+1}:Frm).pop nk=g at c131 hfit ⊢
  (repeat' (first | refine gY ⟨?_⟩ | refine gX ⟨?_⟩ | fail))
  have htop:=jo (l:=f.stack) (n:=f.stack.length - nk) (m:=nk) (by omega);exact gC [3] c131 ⟨gO (HV hP x ks (f.stack.drop (f.stack.length - nk)) a (by rw [htop.1,z]) (fun v hv=>hvt v (br hv))) ⟨gD (aE f l) ⟨gC [0] (zN hP ⟨g::l,st,vl,us'⟩ (vBi x (f.stack.drop (f.stack.length - nk))).1 (vBi x (f.stack.drop (f.stack.length - nk))).2 hfit (by simp)) ⟨lW ⟨⟨rfl,trivial⟩,rfl⟩⟩ rfl rfl (congrArg (fun R=>some [O.st [V.own true 5 R,.d (.int .i64 st),.d (.int .i64 vl.kind),.d (.int .i64 vl.n),.d (.str vl.t),.d (.int .i64 us')]]) (cB rfl (dw rfl rfl rfl rfl rfl)))⟩⟩⟩
 | load a h t hsl b c =>
  obtain ⟨x1,x2⟩:=hh.high b;have hN:0<=f.stack.length:=by omega
  have ee:bE P (iOp 2 a 0 []) {f with pc:=f.pc+1} l ⟨f::l,st,vl,us'⟩=bI.made (arg f.aL a,0) ⟨(({f with pc:=f.pc+1}:Frm).pop 0)::l,st,vl,us'⟩:=by
   simp [bE,iOp,dB,Frm.pop,Frm.top]
  rw [ee];have hfit:=hf1.pop 0;have c131:=mL hP {f with pc:=f.pc+1} 0 hN hs1;generalize hg:({f with pc:=f.pc+1}:Frm).pop 0=g at c131 hfit ⊢
  (repeat' (first | refine gY ⟨?_⟩ | refine gX ⟨?_⟩ | fail))
  have hg1:g={f with pc:=f.pc+1}:=by rw [<- hg];simp [Frm.pop]
  subst hg1;have hsr:(f.aL.map Val.enc)[0+(a:Int).toNat]?=some (arg f.aL a).enc:=by
   simp only [aW,bt,bf,aa (show a < f.aL.length by omega),aS,arg,bc];rfl
  have c130:=zN hP ⟨{f with pc:=f.pc+1}::l,st,vl,us'⟩ (arg f.aL a) 0 hfit (by simp);rw [aJ];refine gN ?_ ⟨?_⟩
  ·exact ⟨by simp only [iOp];omega,by simp only [iOp];omega⟩
  exact gD hsr ⟨gC [0,2,3,5] (tw hP ⟨f::l,st,vl,us'⟩ f {f with pc:=f.pc+1} l (bI.made (arg f.aL a,0) ⟨{f with pc:=f.pc+1}::l,st,vl,us'⟩) c130.1 rfl (fun _=>rfl) (fun _=>rfl) rfl c130) ⟨lW ⟨⟨rfl,trivial⟩,rfl⟩⟩⟩
 | store a h t hsl b c =>
  obtain ⟨x1,x2⟩:=hh.high b;have hN:1<=f.stack.length:=by omega
  have ee:bE P (iOp 3 a 0 []) {f with pc:=f.pc+1} l ⟨f::l,st,vl,us'⟩=⟨{(({f with pc:=f.pc+1}:Frm).pop 1) with aL:=f.aL.set a (arg (f.stack.drop (f.stack.length - 1)) 0)}::l,st,vl,us'⟩:=by
   simp [bE,iOp,dB,Frm.pop,Frm.top]
  rw [ee];have hfit:=hf1.pop 1;have c131:=mL hP {f with pc:=f.pc+1} 1 hN hs1;generalize hg:({f with pc:=f.pc+1}:Frm).pop 1=g at c131 hfit ⊢
  (repeat' (first | refine gY ⟨?_⟩ | refine gX ⟨?_⟩ | fail))
  have hsr:(f.aL.map Val.enc)[0+(a:Int).toNat]?=some (arg f.aL a).enc:=by
   simp only [aW,bt,bf,aa (show a < f.aL.length by omega),aS,arg,bc];rfl
  have c131x:=Ga hP {f with pc:=f.pc+1} 1 hN hs1;rw [aJ,aJ];refine gC [3,7,6,5] c131x ⟨gD (lr (f:={f with pc:=f.pc+1}) (n:=1) (k:=0) (by omega) hN) ⟨gN ?_ ⟨?_⟩⟩⟩
  ·exact ⟨by simp only [iOp];omega,by simp only [iOp];omega⟩
  refine gD hsr ⟨?_⟩;repeat' (refine ah.dR ?_ ?_;simp [ew];refine gG ⟨?_⟩)
  refine ah.dR ⟨rfl,trivial⟩ ?_;refine gG ⟨gD (aE f l) ⟨?_⟩⟩;have hgf:g.aL=f.aL/\g.stack=f.stack.take (f.stack.length - 1):=by rw [<- hg];exact ⟨rfl,rfl⟩
  refine lW ⟨⟨?_,trivial⟩,rfl⟩;(conv=>lhs;whnf);refine congrArg (fun R=>some (O.st [V.own true 5 R,.d (.int .i64 st),.d (.int .i64 vl.kind),.d (.int .i64 vl.n),.d (.str vl.t),.d (.int .i64 us')])) (cB rfl ?_);exact dw (by rw [<- hg];rfl) (by rw [<- hg];rfl) (by rw [aq,ae (by simp),aW,List.map_set];rfl) (by rw [hgf.2];exact kH) (by rw [<- hg];rfl)
 | jump n h t lo hi b c =>
  obtain ⟨x1,x2⟩:=hh.high b;have hN:0<=f.stack.length:=by omega
  have ee:bE P (iOp 6 n 0 []) {f with pc:=f.pc+1} l ⟨f::l,st,vl,us'⟩=⟨{(({f with pc:=f.pc+1}:Frm).pop 0) with pc:=n}::l,st,vl,us'⟩:=by
   simp [bE,iOp,dB,Frm.pop,Frm.top]
  rw [ee];have hfit:=hf1.pop 0;have c131:=mL hP {f with pc:=f.pc+1} 0 hN hs1;generalize hg:({f with pc:=f.pc+1}:Frm).pop 0=g at c131 hfit ⊢
  (repeat' (first | refine gY ⟨?_⟩ | refine gX ⟨?_⟩ | fail))
  have hg1:g={f with pc:=f.pc+1}:=by rw [<- hg];simp [Frm.pop]
  subst hg1;refine gD (aE f l) ⟨lW ⟨⟨?_,trivial⟩,rfl⟩⟩;(conv=>lhs;whnf);refine congrArg (fun R=>some (O.st [V.own true 5 R,.d (.int .i64 st),.d (.int .i64 vl.kind),.d (.int .i64 vl.n),.d (.str vl.t),.d (.int .i64 us')])) (cB rfl ?_);exact dw rfl rfl rfl rfl rfl
 | wT n h t lo hi b c d =>
  obtain ⟨x1,x2⟩:=hh.high b;have hN:1<=f.stack.length:=by omega
  have ee:bE P (iOp 7 n 0 []) {f with pc:=f.pc+1} l ⟨f::l,st,vl,us'⟩=⟨(if ((arg (f.stack.drop (f.stack.length - 1)) 0)).ig=true then (({f with pc:=f.pc+1}:Frm).pop 1) else {(({f with pc:=f.pc+1}:Frm).pop 1) with pc:=n})::l,st,vl,us'⟩:=by
   simp [bE,iOp,dB,Frm.pop,Frm.top]
  rw [ee];have hfit:=hf1.pop 1;have c131:=mL hP {f with pc:=f.pc+1} 1 hN hs1;generalize hg:({f with pc:=f.pc+1}:Frm).pop 1=g at c131 hfit ⊢
  (repeat' (first | refine gY ⟨?_⟩ | refine gX ⟨?_⟩ | fail))
  refine gC [3] c131 ⟨gD (lr (f:={f with pc:=f.pc+1}) (n:=1) (k:=0) (by omega) hN) ⟨?_⟩⟩;have p8:=Dc hP (arg (f.stack.drop (f.stack.length - 1)) 0);generalize ((arg (f.stack.drop (f.stack.length - 1)) 0)).ig=tb at p8 ⊢;refine gO p8 ⟨gD (aE f l) ⟨?_⟩⟩;have hsetg:(a7 (f::l)).set l.length [.int .i64 g.fn,.int .i64 g.pc,.own false 3 (List.map Val.enc g.aL),.own false 3 (g.stack.map Val.enc),.own false 2 (g.tries.map tryD)]=a7 (g::l):=fG f g l;rw [hsetg];cases tb with
  | true =>
   refine gX ⟨lW ⟨⟨?_,trivial⟩,rfl⟩⟩;(conv=>lhs;whnf);refine congrArg (fun R=>some (O.st [V.own true 5 R,.d (.int .i64 st),.d (.int .i64 vl.kind),.d (.int .i64 vl.n),.d (.str vl.t),.d (.int .i64 us')])) (show List.take (l.length+1) (List.drop 0 (a7 (g::l)))=a7 (g::l) by rw [aq,ae (by rw [bu];simp)])
  | false =>
   refine gY ⟨gD (aE g l) ⟨gD (aE g l) ⟨lW ⟨⟨?_,trivial⟩,rfl⟩⟩⟩⟩;(conv=>lhs;whnf);refine congrArg (fun R=>some (O.st [V.own true 5 R,.d (.int .i64 st),.d (.int .i64 vl.kind),.d (.int .i64 vl.n),.d (.str vl.t),.d (.int .i64 us')])) (cB rfl ?_);exact dw rfl rfl rfl rfl rfl
 | both k n h t hk lo hi b c d =>
  rcases hk with rfl | rfl
  ·obtain ⟨x1,x2⟩:=hh.high b;have hN:1<=f.stack.length:=by omega
   have ee:bE P (iOp 8 n 0 []) {f with pc:=f.pc+1} l ⟨f::l,st,vl,us'⟩=⟨(if ((arg (f.stack.drop (f.stack.length - 1)) 0)).ig=decide ((8:Int)=9) then {(({f with pc:=f.pc+1}:Frm).pop 1) with stack:=((({f with pc:=f.pc+1}:Frm).pop 1)).stack++[(arg (f.stack.drop (f.stack.length - 1)) 0)],pc:=n} else (({f with pc:=f.pc+1}:Frm).pop 1))::l,st,vl,us'⟩:=by
    simp [bE,iOp,dB,Frm.pop,Frm.top]
   rw [ee];have hfit:=hf1.pop 1;have c131:=mL hP {f with pc:=f.pc+1} 1 hN hs1;generalize hg:({f with pc:=f.pc+1}:Frm).pop 1=g at c131 hfit ⊢
   (repeat' (first | refine gY ⟨?_⟩ | refine gX ⟨?_⟩ | fail))
   have hlen:0 < f.stack.length:=by omega
   have hlast:(f.stack.map Val.enc)[0+((f.stack.length - 1:Nat):Int).toNat]?=some ((arg (f.stack.drop (f.stack.length - 1)) 0)).enc:=by
    simp only [aW,bt,bf,aa (show f.stack.length - 1 < f.stack.length by omega),aS,arg,bc,dF,cr];rfl
   have hback:f.stack.take (f.stack.length - 1)++[(arg (f.stack.drop (f.stack.length - 1)) 0)]=f.stack:=by
    have h1:(arg (f.stack.drop (f.stack.length - 1)) 0)=f.stack[f.stack.length - 1]:=by
     simp only [arg,bc,dF,cr,aa (show f.stack.length - 1 < f.stack.length by omega),gx]
    rw [h1];have:=aG (show f.stack.length - 1 < f.stack.length by omega);rw [<- this,ae (by omega)]
   rw [aJ,eo (n:=f.stack.length) hlen (by omega)];refine gN ?_ ⟨?_⟩
   ·exact ⟨by omega,by omega⟩
   refine gD hlast ⟨?_⟩;have p8:=Dc hP (arg (f.stack.drop (f.stack.length - 1)) 0);generalize (arg (f.stack.drop (f.stack.length - 1)) 0)=v at p8 hback ⊢;generalize v.ig=tb at p8 ⊢;refine gO p8 ⟨?_⟩;repeat' (first | refine gN (by simp [ew]) ⟨?_⟩ | fail)
   refine gD (aE f l) ⟨?_⟩;have hsetf:(a7 (f::l)).set l.length [.int .i64 f.fn,.int .i64 ((f.pc+1:Nat):Int),.own false 3 (f.aL.map Val.enc),.own false 3 (List.take f.stack.length (List.drop 0 (f.stack.map Val.enc))),.own false 2 (f.tries.map tryD)]=a7 ({f with pc:=f.pc+1}::l):=by
    rw [je rfl];exact hset1
   rw [hsetf];by_cases htb:tb=decide ((8:Int)=9)
   ·rw [aj htb];refine gY ⟨gD (aE {f with pc:=f.pc+1} l) ⟨gD (aE {f with pc:=f.pc+1} l) ⟨lW ⟨⟨?_,trivial⟩,rfl⟩⟩⟩⟩ (by rw [htb];rfl);(conv=>lhs;whnf);refine congrArg (fun R=>some (O.st [V.own true 5 R,.d (.int .i64 st),.d (.int .i64 vl.kind),.d (.int .i64 vl.n),.d (.str vl.t),.d (.int .i64 us')])) (cB rfl ?_);rw [<- hg];exact dw rfl rfl rfl (by rw [show (({f with pc:=f.pc+1}:Frm).pop 1).stack=f.stack.take (f.stack.length - 1) from rfl,hback]) rfl
   ·rw [ab htb];refine gX ⟨gD (aE {f with pc:=f.pc+1} l) ⟨gC [6] c131 ⟨gD (aE {f with pc:=f.pc+1} l) ⟨lW ⟨⟨?_,trivial⟩,rfl⟩⟩⟩⟩⟩ (by revert htb;cases tb<;>simp [iOp]);(conv=>lhs;whnf);refine congrArg (fun R=>some (O.st [V.own true 5 R,.d (.int .i64 st),.d (.int .i64 vl.kind),.d (.int .i64 vl.n),.d (.str vl.t),.d (.int .i64 us')])) (cB rfl ?_);exact dw rfl rfl rfl rfl rfl
  ·obtain ⟨x1,x2⟩:=hh.high b;have hN:1<=f.stack.length:=by omega
   have ee:bE P (iOp 9 n 0 []) {f with pc:=f.pc+1} l ⟨f::l,st,vl,us'⟩=⟨(if ((arg (f.stack.drop (f.stack.length - 1)) 0)).ig=decide ((9:Int)=9) then {(({f with pc:=f.pc+1}:Frm).pop 1) with stack:=((({f with pc:=f.pc+1}:Frm).pop 1)).stack++[(arg (f.stack.drop (f.stack.length - 1)) 0)],pc:=n} else (({f with pc:=f.pc+1}:Frm).pop 1))::l,st,vl,us'⟩:=by
    simp [bE,iOp,dB,Frm.pop,Frm.top]
   rw [ee];have hfit:=hf1.pop 1;have c131:=mL hP {f with pc:=f.pc+1} 1 hN hs1;generalize hg:({f with pc:=f.pc+1}:Frm).pop 1=g at c131 hfit ⊢
   (repeat' (first | refine gY ⟨?_⟩ | refine gX ⟨?_⟩ | fail))
   have hlen:0 < f.stack.length:=by omega
   have hlast:(f.stack.map Val.enc)[0+((f.stack.length - 1:Nat):Int).toNat]?=some ((arg (f.stack.drop (f.stack.length - 1)) 0)).enc:=by
    simp only [aW,bt,bf,aa (show f.stack.length - 1 < f.stack.length by omega),aS,arg,bc,dF,cr];rfl
   have hback:f.stack.take (f.stack.length - 1)++[(arg (f.stack.drop (f.stack.length - 1)) 0)]=f.stack:=by
    have h1:(arg (f.stack.drop (f.stack.length - 1)) 0)=f.stack[f.stack.length - 1]:=by
     simp only [arg,bc,dF,cr,aa (show f.stack.length - 1 < f.stack.length by omega),gx]
    rw [h1];have:=aG (show f.stack.length - 1 < f.stack.length by omega);rw [<- this,ae (by omega)]
   rw [aJ,eo (n:=f.stack.length) hlen (by omega)];refine gN ?_ ⟨?_⟩
   ·exact ⟨by omega,by omega⟩
   refine gD hlast ⟨?_⟩;have p8:=Dc hP (arg (f.stack.drop (f.stack.length - 1)) 0);generalize (arg (f.stack.drop (f.stack.length - 1)) 0)=v at p8 hback ⊢;generalize v.ig=tb at p8 ⊢;refine gO p8 ⟨?_⟩;repeat' (first | refine gN (by simp [ew]) ⟨?_⟩ | fail)
   refine gD (aE f l) ⟨?_⟩;have hsetf:(a7 (f::l)).set l.length [.int .i64 f.fn,.int .i64 ((f.pc+1:Nat):Int),.own false 3 (f.aL.map Val.enc),.own false 3 (List.take f.stack.length (List.drop 0 (f.stack.map Val.enc))),.own false 2 (f.tries.map tryD)]=a7 ({f with pc:=f.pc+1}::l):=by
    rw [je rfl];exact hset1
   rw [hsetf];by_cases htb:tb=decide ((9:Int)=9)
   ·rw [aj htb];refine gY ⟨gD (aE {f with pc:=f.pc+1} l) ⟨gD (aE {f with pc:=f.pc+1} l) ⟨lW ⟨⟨?_,trivial⟩,rfl⟩⟩⟩⟩ (by rw [htb];rfl);(conv=>lhs;whnf);refine congrArg (fun R=>some (O.st [V.own true 5 R,.d (.int .i64 st),.d (.int .i64 vl.kind),.d (.int .i64 vl.n),.d (.str vl.t),.d (.int .i64 us')])) (cB rfl ?_);rw [<- hg];exact dw rfl rfl rfl (by rw [show (({f with pc:=f.pc+1}:Frm).pop 1).stack=f.stack.take (f.stack.length - 1) from rfl,hback]) rfl
   ·rw [ab htb];refine gX ⟨gD (aE {f with pc:=f.pc+1} l) ⟨gC [6] c131 ⟨gD (aE {f with pc:=f.pc+1} l) ⟨lW ⟨⟨?_,trivial⟩,rfl⟩⟩⟩⟩⟩ (by revert htb;cases tb<;>simp [iOp]);(conv=>lhs;whnf);refine congrArg (fun R=>some (O.st [V.own true 5 R,.d (.int .i64 st),.d (.int .i64 vl.kind),.d (.int .i64 vl.n),.d (.str vl.t),.d (.int .i64 us')])) (cB rfl ?_);exact dw rfl rfl rfl rfl rfl
 | tr n t lo hi b c d =>
  obtain ⟨x1,x2⟩:=hh.high b;have hN:0<=f.stack.length:=by omega
  have ee:bE P (iOp 14 n 0 []) {f with pc:=f.pc+1} l ⟨f::l,st,vl,us'⟩=⟨{(({f with pc:=f.pc+1}:Frm).pop 0) with tries:=f.tries++[(n,f.stack.length)]}::l,st,vl,us'⟩:=by
   simp [bE,iOp,dB,Frm.pop,Frm.top]
  rw [ee];have hfit:=hf1.pop 0;have c131:=mL hP {f with pc:=f.pc+1} 0 hN hs1;generalize hg:({f with pc:=f.pc+1}:Frm).pop 0=g at c131 hfit ⊢
  (repeat' (first | refine gY ⟨?_⟩ | refine gX ⟨?_⟩ | fail))
  have hg1:g={f with pc:=f.pc+1}:=by rw [<- hg];simp [Frm.pop]
  subst hg1;rw [aJ,aJ];refine gN ?_ ⟨?_⟩
  ·simp only [Sh.len];omega
  refine gN ?_ ⟨?_⟩
  ·simp only [Sh.len,aU];omega
  repeat' (first | refine gN (by simp [ew]) ⟨?_⟩ | fail)
  refine gD (aE f l) ⟨lW ⟨⟨?_,trivial⟩,rfl⟩⟩;(conv=>lhs;whnf);refine congrArg (fun R=>some (O.st [V.own true 5 R,.d (.int .i64 st),.d (.int .i64 vl.kind),.d (.int .i64 vl.n),.d (.str vl.t),.d (.int .i64 us')])) (cB rfl ?_);exact dw rfl rfl rfl (je rfl) (by simp only [Sh.len];exact (mZ (v:=(n,f.stack.length)) rfl (al _) rfl).trans (by rw [b8]))
 | don h t b c =>
  obtain ⟨x1,x2⟩:=hh.high b;have hN:0<=f.stack.length:=by omega
  have ee:bE P (iOp 15 0 0 []) {f with pc:=f.pc+1} l ⟨f::l,st,vl,us'⟩=⟨{(({f with pc:=f.pc+1}:Frm).pop 0) with tries:=f.tries.dropLast}::l,st,vl,us'⟩:=by
   simp [bE,iOp,dB,Frm.pop,Frm.top]
  rw [ee];have hfit:=hf1.pop 0;have c131:=mL hP {f with pc:=f.pc+1} 0 hN hs1;generalize hg:({f with pc:=f.pc+1}:Frm).pop 0=g at c131 hfit ⊢
  (repeat' (first | refine gY ⟨?_⟩ | refine gX ⟨?_⟩ | fail))
  have hg1:g={f with pc:=f.pc+1}:=by rw [<- hg];simp [Frm.pop]
  subst hg1;rw [aJ,eo (n:=f.tries.length) (by omega) (by omega)];refine gN ?_ ⟨?_⟩
  ·exact ⟨by omega,by omega⟩
  repeat' (first | refine gN (by simp [ew]) ⟨?_⟩ | fail)
  refine gD (aE f l) ⟨lW ⟨⟨?_,trivial⟩,rfl⟩⟩;(conv=>lhs;whnf);refine congrArg (fun R=>some (O.st [V.own true 5 R,.d (.int .i64 st),.d (.int .i64 vl.kind),.d (.int .i64 vl.n),.d (.str vl.t),.d (.int .i64 us')])) (cB rfl ?_);exact dw rfl rfl rfl rfl (by rw [show ct f.tries.length none (some ((f.tries.length - 1:Nat):Int))=f.tries.length - 1 by simp only [ct,eA,bH];omega];exact kH.trans (by rw [<- List.dropLast_eq_take]))
 | pop h t b c =>
  obtain ⟨x1,x2⟩:=hh.high b;have hN:1<=f.stack.length:=by omega
  have ee:bE P (iOp 16 0 0 []) {f with pc:=f.pc+1} l ⟨f::l,st,vl,us'⟩=⟨(({f with pc:=f.pc+1}:Frm).pop 1)::l,st,vl,us'⟩:=by
   simp [bE,iOp,dB,Frm.pop,Frm.top]
  rw [ee];have hfit:=hf1.pop 1;have c131:=mL hP {f with pc:=f.pc+1} 1 hN hs1;generalize hg:({f with pc:=f.pc+1}:Frm).pop 1=g at c131 hfit ⊢
  (repeat' (first | refine gY ⟨?_⟩ | refine gX ⟨?_⟩ | fail))
  refine gC [3] c131 ⟨gD (aE f l) ⟨lW ⟨⟨?_,trivial⟩,rfl⟩⟩⟩;(conv=>lhs;whnf);refine congrArg (fun R=>some (O.st [V.own true 5 R,.d (.int .i64 st),.d (.int .i64 vl.kind),.d (.int .i64 vl.n),.d (.str vl.t),.d (.int .i64 us')])) (cB rfl ?_);exact dw rfl rfl rfl rfl rfl
 | ret h t b =>
  obtain ⟨x1,x2⟩:=hh.high b;have vi:=F8 hP P ⟨{f with pc:=f.pc+1}::l,st,vl,us'⟩ {f with pc:=f.pc+1} l rfl hf1 (by simp only;omega);have ee:bE P (iOp 12 0 0 []) {f with pc:=f.pc+1} l ⟨f::l,st,vl,us'⟩=bI.sD (arg (f.stack.drop (f.stack.length - 1)) 0) ⟨(({f with pc:=f.pc+1}:Frm).pop 1)::l,st,vl,us'⟩:=by
   simp [bE,iOp,dB,Frm.pop,Frm.top]
  rw [ee]
  (repeat' (first | refine gY ⟨?_⟩ | refine gX ⟨?_⟩ | fail))
  exact gD (aE f l) ⟨gC [0,2] vi ⟨lW ⟨⟨rfl,trivial⟩,rfl⟩⟩ rfl rfl (congrArg (fun R=>some [O.st [V.arr 2 0 (l.length+1),.d (.int .i64 st),.d (.int .i64 vl.kind),.d (.int .i64 vl.n),.d (.str vl.t),.d (.int .i64 us')],O.oa 5 R]) hset1)⟩
 | thr h t b =>
  obtain ⟨x1,x2⟩:=hh.high b;have vi:=F7 hP P ⟨{f with pc:=f.pc+1}::l,st,vl,us'⟩ {f with pc:=f.pc+1} l rfl hf1 (by simp only;omega);have ee:bE P (iOp 13 0 0 []) {f with pc:=f.pc+1} l ⟨f::l,st,vl,us'⟩=bI.throw (arg (f.stack.drop (f.stack.length - 1)) 0) ⟨(({f with pc:=f.pc+1}:Frm).pop 1)::l,st,vl,us'⟩:=by
   simp [bE,iOp,dB,Frm.pop,Frm.top]
  rw [ee]
  (repeat' (first | refine gY ⟨?_⟩ | refine gX ⟨?_⟩ | fail))
  exact gD (aE f l) ⟨gC [0,2] vi ⟨lW ⟨⟨rfl,trivial⟩,rfl⟩⟩ rfl rfl (congrArg (fun R=>some [O.st [V.arr 2 0 (l.length+1),.d (.int .i64 st),.d (.int .i64 vl.kind),.d (.int .i64 vl.n),.d (.str vl.t),.d (.int .i64 us')],O.oa 5 R]) hset1)⟩
 | call j nk h t a b c =>
  obtain ⟨x1,x2⟩:=hh.high b;obtain ⟨fc',k0,k1,k2⟩:=a;obtain ⟨sl',H',hfc⟩:=hPk.fns fc' (aP k1);obtain ⟨jn,rfl⟩:=Int.eq_ofNat_of_zero_le k0;have hs':slotsOf P ((jn:Int)).toNat=sl':=by unfold slotsOf;rw [k1];simp only;rw [hfc.aL];simp
  have hle:nk<=sl':=by have:=hfc.aL;omega
  have h20:=hfc.few;have vi:=F9 hP P ⟨{f with pc:=f.pc+1}::l,st,vl,us'⟩ {f with pc:=f.pc+1} l rfl hf1 fc' jn nk sl' (by simpa using k1) hfc.aL (by omega) (by simp only;omega) hle;have ee:bE P (iOp 10 jn nk []) {f with pc:=f.pc+1} l ⟨f::l,st,vl,us'⟩=if l.length+1=6 then (⟨({f with pc:=f.pc+1}:Frm).pop nk::l,st,vl,us'⟩:bI).throw (j0 9) else ⟨cC sl' jn (({f with pc:=f.pc+1}:Frm).top nk)::({f with pc:=f.pc+1}:Frm).pop nk::l,st,vl,us'⟩:=by
   rw [<- hs'];simp [bE,iOp,Frm.pop,Frm.top]
  rw [ee]
  (repeat' (first | refine gY ⟨?_⟩ | refine gX ⟨?_⟩ | fail))
  exact gD (aE f l) ⟨gC [0,2] vi ⟨lW ⟨⟨rfl,trivial⟩,rfl⟩⟩ rfl rfl (congrArg (fun R=>some [O.st [V.arr 2 0 (l.length+1),.d (.int .i64 st),.d (.int .i64 vl.kind),.d (.int .i64 vl.n),.d (.str vl.t),.d (.int .i64 us')],O.oa 5 R]) hset1)⟩
end
end Go.Proofs.YtggoiofammbchaaGreatDoor.Loc
