/- Part 21 of a chain that ends in the statement named in GOCLAIM.json; no condition. -/
import Derived.Test.YtggoiofammbchaaGreatDoorK20
set_option maxRecDepth 100000
set_option maxHeartbeats 2000000
set_option linter.all false
namespace Go.Proofs.YtggoiofammbchaaGreatDoor.Loc
open Go
theorem Fits.pop {f:Frm} {l:List Frm} (n:Nat) (h:Fits (f::l)):Fits (f.pop n::l):=by
 refine ⟨h.1,fun g hg=>?_⟩;rcases aQ.1 hg with rfl | hg
 ·obtain ⟨h1,h2,h3⟩:=h.2 f (by simp);exact ⟨by simp only [Frm.pop,bh];omega,h2,h3⟩
 ·exact h.2 g (aM _ hg)
section
variable {C:Ctx} (hP:C.P=Tryz.prog)
include hP
theorem HQ (hS7:pq C) (P:List Fc) (m:bI) (f:Frm) (l:List Frm) (hfs:m.fs=f::l) (hf:Fits m.fs) (fc:Fc) (j nk sl:Nat) (hj:P[j]?=some fc) (hsl:fc.aL=sl) (hs2:sl<=1000) (hn:nk<=f.stack.length) (hns:nk<=sl) :
  Fn C 149 [.ptr 0 0 0,.ptr 1 0 0,(iOp 10 j nk []).v] [m.enc,ky P] (.tup []) [some (if l.length+1=6 then ({m with fs:=f.pop nk::l}:bI).throw (j0 9) else {m with fs:=cC sl j (f.top nk)::f.pop nk::l}).enc,some (ky P)]:=by
 obtain ⟨fs,st,vl,us⟩:=m;have hfs:fs=f::l:=hfs;subst hfs;have c58:=k58 hP 9;have c99:=k99 hP (eC 9);have yg:=Ey hP ⟨f.pop nk::l,st,vl,us⟩ (j0 9) (hf.pop nk);obtain ⟨h6,hs1,_⟩:=hf.cons;have c148:=Bq hP ⟨f::l,st,vl,us⟩ (a7 (f::l)) (l.length+1) (by omega) (by omega);rw [show l.length+1 - 1=l.length from rfl] at c148;have eM:=mK hP hS7 f l nk hn (by omega);have c98:=k98 hP P fc j sl (f.top nk) hj hsl hs2 (by simp only [Frm.top,bD];omega);refine eN hP E5 ⟨?_⟩;rw [bu];refine gC [0,3] c148 ⟨?_⟩;refine gC [3] eM ⟨?_⟩;have hall:List.take (l.length+1) (List.drop 0 (a7 (f.pop nk::l)))=a7 (f.pop nk::l):=by rw [aq,ae (by rw [bu];simp)]
 by_cases h66:l.length+1=6
 ·rw [aj h66];refine gY ⟨?_⟩ (by simp;omega);refine gO c58 ⟨?_⟩;refine gO c99 ⟨?_⟩;rw [hall];refine gC [0] yg ⟨?_⟩;exact lW ⟨⟨rfl,rfl,trivial⟩,rfl⟩
 ·rw [ab h66];refine gX ⟨?_⟩ (by simp;omega);refine gC [1] c98 ⟨?_⟩;refine gN ?_ ⟨?_⟩
  ·omega
  repeat' (first | refine gN (by simp [ew]) ⟨?_⟩ | fail)
  refine lW ⟨⟨?_,rfl,trivial⟩,rfl⟩;(conv=>lhs;whnf);rw [hall];refine congrArg (fun R=>some (O.st [V.own true 5 R,.d (.int .i64 st),.d (.int .i64 vl.kind),.d (.int .i64 vl.n),.d (.str vl.t),.d (.int .i64 us)])) ?_;rw [show [D.int .i64 (j:Nat),.int .i64 0,.own false 3 (List.take sl (List.drop 0 (List.map Val.enc (cC sl j (f.top nk)).aL))),.own false 3 [],.own false 2 []]=(cC sl j (f.top nk)).enc from
   dw rfl rfl (je (by simp only [cC,Frm.top,aH,List.length_replicate,bD];omega)) rfl rfl]
  rw [aq,ae (by rw [aH,bu];simp),<- ia]
def Frm.oS (k:Nat) (f:Frm):O:= .st [.d (.int .i64 f.fn),.d (.int .i64 f.pc),.arr k 0 f.aL.length,.own false 3 (f.stack.map Val.enc),.own false 2 (f.tries.map tryD)]
theorem tw {fn:Nat} {args:List V} {v:V} (m:bI) (f0 f:Frm) (l:List Frm) (m':bI) (hcall:km C.P fn) (hb:j9 1 args=true) (hx:∀ nx,args=j2 [0] 1 nx args) (hv:∀ nx,v.nO [0] 1 nx=v) (hvb:v.vj 1=true) (hc:Fn C fn args [({m with fs:=f::l}:bI).enc] v [some m'.enc]) :
  Fn C fn args [m.wV (l.length+1),.rest 5 (a7 (f0::l)) l.length 0 5 2,f.oS 3,.da 3 (f.aL.map Val.enc)] v [some m'.enc,none,none,none]:=by
 obtain ⟨fs,st,vl,us⟩:=m;refine Fn.pre [0,2] (fun i hi=>?_) [(none,.cls (.t 1) 2 3 false),(some 1,.inn (.t 1)),(none,.cls (.t 0) 0 5 true)] rfl hcall ?_
 ·simp only [aQ,List.not_mem_nil,or_false] at hi;rcases hi with rfl | rfl<;>exact ⟨_,rfl⟩
 ·(conv=>whnf);refine ⟨trivial,f0.enc,_,aE f0 l,rfl,?_⟩;(conv=>whnf);have hrow:List.take (l.length+1) (List.drop 0 ((a7 (f0::l)).set l.length [.int .i64 f.fn,.int .i64 f.pc,.own false 3 (List.take f.aL.length (List.drop 0 (List.map Val.enc f.aL))),.own false 3 (f.stack.map Val.enc),.own false 2 (f.tries.map tryD)]))=a7 (f::l) :=
   cB rfl (dw rfl rfl (je rfl) rfl rfl)
  refine ⟨⟨v.nO [0] 1 _,dQ [0] 1 _ 0 [some m'.enc],0,[0].zip (gp [0] 1 _ [({fs:=f::l,state:=st,val:=vl,used:=us}:bI).enc])⟩,⟨⟨args,[0],[({fs:=f::l,state:=st,val:=vl,used:=us}:bI).enc],v,[some m'.enc],hc,rfl,al _,rfl,hx _,?_,?_,rfl,rfl,rfl,rfl⟩⟩,hv _,?_⟩
  ·exact congrArg (fun R=>some [O.st [V.own true 5 R,.d (.int .i64 st),.d (.int .i64 vl.kind),.d (.int .i64 vl.n),.d (.str vl.t),.d (.int .i64 us)]]) hrow
  ·show (j9 1 args&&true&&v.vj 1&&true)=true;rw [hb,hvb];rfl
  ·intro i y hy
   match i,hy with
   | 0,hy=>cases hy;rfl
   | 1,hy=>cases hy
   | 2,hy=>cases hy
   | 3,hy=>cases hy
   | i+4,hy=>simp at hy
theorem H6 (hS7:pq C) (hS2:lu C) (P:List Fc) (hPk:mi P) (m:bI) (f:Frm) (l:List Frm) (hfs:m.fs=f::l) (hf:Fits m.fs) {fc:Fc} {sl:Nat} {H:Hs} {i:Ins} (hh:xt P f fc sl H i) (hcl:fc.code.length<=1000) (hu:m.used<=1000000) (hPl:P.length<=1000) :
  Fn C 100 [.ptr 0 0 0,.ptr 1 0 0] [m.enc,ky P] (.tup []) [some (iG P m).enc,some (ky P)]:=by
 obtain ⟨fs,st,vl,us⟩:=m;have hfs:fs=f::l:=hfs;subst hfs;have e:iG P ⟨f::l,st,vl,us⟩=bE P i {f with pc:=f.pc+1} l ⟨f::l,st,vl,min (us+1) 1000000⟩:=by
  unfold iG;simp only;rw [hh.pJ]
 rw [e];have hu:us<=1000000:=hu;obtain ⟨h6,hs1,hs2⟩:=hf.cons;have c148:=Bq hP ⟨f::l,st,vl,us⟩ (a7 (f::l)) (l.length+1) (by omega) (by omega);rw [show l.length+1 - 1=l.length from rfl] at c148;have hpl:f.pc < fc.code.length:=(af.1 hh.ins).1;have hfn:f.fn < P.length:=(af.1 hh.get).1;have hr1:(P.map Fc.enc)[((f.fn:Nat):Int).toNat]?=some fc.enc:=by simp [hh.get]
 have hr2:(fc.code.map Ins.enc)[((f.pc:Nat):Int).toNat]?=some i.enc:=by simp [hh.ins]
 have hus:(if (1000000:Int) < IntKind.i64.wrap ((us:Int)+1) then (1000000:Int) else IntKind.i64.wrap ((us:Int)+1))=((min (us+1) 1000000:Nat):Int):=by
  rw [aC (by omega)];split<;>omega
 generalize min (us+1) 1000000=us' at hus ⊢;have hfl:=hh.sK;have hvs:=hh.vs;have hvt:=hh.vt;have hslots:=hh.aL;refine eN hP E8 ⟨?_⟩;rw [bu];refine gC [0,2] c148 ⟨?_⟩;refine gD (aE f l) ⟨?_⟩;refine gD hr1 ⟨?_⟩;refine gD hr2 ⟨?_⟩;have hus':(if (1000000:Int) < IntKind.i64.wrap (((⟨f::l,st,vl,us⟩:bI).used:Int)+1) then (1000000:Int) else IntKind.i64.wrap (((⟨f::l,st,vl,us⟩:bI).used:Int)+1))=((us':Nat):Int):=hus;rw [hus',aC (n:=f.pc) (by omega)];have hset1:(a7 (f::l)).set l.length [.int .i64 f.fn,.int .i64 ((f.pc+1:Nat):Int),.own false 3 (f.aL.map Val.enc),.own false 3 (f.stack.map Val.enc),.own false 2 (f.tries.map tryD)]=a7 ({f with pc:=f.pc+1}::l):=fG f {f with pc:=f.pc+1} l;have hf1:Fits ({f with pc:=f.pc+1}::l):=by
  refine ⟨hf.1,fun g hg=>?_⟩;rcases aQ.1 hg with rfl | hg
  ·exact hf.2 f (by simp)
  ·exact hf.2 g (aM _ hg)
 cases hfl with
 | push v h t a b c =>
  obtain ⟨x1,x2⟩:=hh.high b;have hN:0<=f.stack.length:=by omega
  have ee:bE P (fN v) {f with pc:=f.pc+1} l ⟨f::l,st,vl,us'⟩=bI.made (v,0) ⟨(({f with pc:=f.pc+1}:Frm).pop 0)::l,st,vl,us'⟩:=by
   rfl
  rw [ee];obtain ⟨x0,gR⟩:∃ xq:Int,Fn C 150 [(fN v).v] [] (.tup [.d (.int .i64 ((0:Nat):Int)),.d (.int .i64 xq)]) []:=by
   obtain ⟨w0,o0,q1,x9,rfl,rfl⟩:=nj hP (fN v);exact ⟨x9,q1⟩
  have eM:=mK hP hS7 {f with pc:=f.pc+1} l 0 hN (by simp only;omega);have hfit:=hf1.pop 0;have htop:=jo (l:=f.stack) (n:=f.stack.length - 0) (m:=0) (by omega);generalize hg:({f with pc:=f.pc+1}:Frm).pop 0=g at eM hfit ⊢;have hall:List.take (l.length+1) (List.drop 0 (a7 (g::l)))=a7 (g::l):=by rw [aq,ae (by rw [bu];simp)]
  (repeat' (first | refine gY ⟨?_⟩ | refine gX ⟨?_⟩ | fail))
  refine gO gR ⟨?_⟩;refine gD (aE f l) ⟨?_⟩;refine gC [2] eM ⟨?_⟩ rfl rfl (congrArg (fun R=>some [O.oa 5 R]) hset1)
  (repeat' (first | refine gY ⟨?_⟩ | refine gX ⟨?_⟩ | fail))
  refine gC [0] (Bo hP ⟨g::l,st,vl,us'⟩ v 0 hfit (by simp)) ⟨?_⟩ rfl rfl (congrArg (fun R=>some [O.st [V.own true 5 R,.d (.int .i64 st),.d (.int .i64 vl.kind),.d (.int .i64 vl.n),.d (.str vl.t),.d (.int .i64 us')]]) hall);exact lW ⟨⟨rfl,rfl,trivial⟩,rfl⟩
 | un x h t b c =>
  obtain ⟨x1,x2⟩:=hh.high b;have hN:1<=f.stack.length:=by omega
  have ee:bE P (iOp 4 0 0 x) {f with pc:=f.pc+1} l ⟨f::l,st,vl,us'⟩=bI.made (vUn x (arg (f.stack.drop (f.stack.length - 1)) 0)) ⟨(({f with pc:=f.pc+1}:Frm).pop 1)::l,st,vl,us'⟩:=by
   simp [bE,iOp,dB,Frm.pop,Frm.top]
  rw [ee];obtain ⟨x0,gR⟩:∃ xq:Int,Fn C 150 [(iOp 4 0 0 x).v] [] (.tup [.d (.int .i64 ((1:Nat):Int)),.d (.int .i64 xq)]) []:=by
   obtain ⟨w0,o0,q1,x9,rfl,rfl⟩:=nj hP (iOp 4 0 0 x);exact ⟨x9,q1⟩
  have eM:=mK hP hS7 {f with pc:=f.pc+1} l 1 hN (by simp only;omega);have hfit:=hf1.pop 1;have htop:=jo (l:=f.stack) (n:=f.stack.length - 1) (m:=1) (by omega);have hrow:∀ k:Nat,k < 1->((f.top 1).map Val.enc)[((k:Nat):Int).toNat]?=some (arg (f.stack.drop (f.stack.length - 1)) k).enc:=by
   intro k hk;have hkl:k < (f.top 1).length:=by unfold Frm.top;omega
   simp only [bt,bf,aa hkl,aS,arg,bc];rw [show (f.stack.drop (f.stack.length - 1))[k]?=some (f.top 1)[k] from aa hkl];rfl
  generalize hg:({f with pc:=f.pc+1}:Frm).pop 1=g at eM hfit ⊢;have hall:List.take (l.length+1) (List.drop 0 (a7 (g::l)))=a7 (g::l):=by rw [aq,ae (by rw [bu];simp)]
  (repeat' (first | refine gY ⟨?_⟩ | refine gX ⟨?_⟩ | fail))
  refine gO gR ⟨?_⟩;refine gD (aE f l) ⟨?_⟩;refine gC [2] eM ⟨?_⟩ rfl rfl (congrArg (fun R=>some [O.oa 5 R]) hset1)
  (repeat' (first | refine gY ⟨?_⟩ | refine gX ⟨?_⟩ | fail))
  refine gD (hrow 0 (by omega)) ⟨?_⟩;refine gO (HP hP x (arg (f.stack.drop (f.stack.length - 1)) 0) (gu (l:=f.stack.drop (f.stack.length - 1)) (k:=0) (fun v hv=>hvt v (br hv))).1) ⟨?_⟩;refine gC [0] (Bo hP ⟨g::l,st,vl,us'⟩ (vUn x (arg (f.stack.drop (f.stack.length - 1)) 0)).1 (vUn x (arg (f.stack.drop (f.stack.length - 1)) 0)).2 hfit (by simp)) ⟨?_⟩ rfl rfl (congrArg (fun R=>some [O.st [V.own true 5 R,.d (.int .i64 st),.d (.int .i64 vl.kind),.d (.int .i64 vl.n),.d (.str vl.t),.d (.int .i64 us')]]) hall);exact lW ⟨⟨rfl,rfl,trivial⟩,rfl⟩
 | bin x h t b c =>
  obtain ⟨x1,x2⟩:=hh.high b;have hN:2<=f.stack.length:=by omega
  have ee:bE P (iOp 5 0 0 x) {f with pc:=f.pc+1} l ⟨f::l,st,vl,us'⟩=bI.made (mI x (arg (f.stack.drop (f.stack.length - 2)) 0) (arg (f.stack.drop (f.stack.length - 2)) 1)) ⟨(({f with pc:=f.pc+1}:Frm).pop 2)::l,st,vl,us'⟩:=by
   simp [bE,iOp,dB,Frm.pop,Frm.top]
  rw [ee];obtain ⟨x0,gR⟩:∃ xq:Int,Fn C 150 [(iOp 5 0 0 x).v] [] (.tup [.d (.int .i64 ((2:Nat):Int)),.d (.int .i64 xq)]) []:=by
   obtain ⟨w0,o0,q1,x9,rfl,rfl⟩:=nj hP (iOp 5 0 0 x);exact ⟨x9,q1⟩
  have eM:=mK hP hS7 {f with pc:=f.pc+1} l 2 hN (by simp only;omega);have hfit:=hf1.pop 2;have htop:=jo (l:=f.stack) (n:=f.stack.length - 2) (m:=2) (by omega);have hrow:∀ k:Nat,k < 2->((f.top 2).map Val.enc)[((k:Nat):Int).toNat]?=some (arg (f.stack.drop (f.stack.length - 2)) k).enc:=by
   intro k hk;have hkl:k < (f.top 2).length:=by unfold Frm.top;omega
   simp only [bt,bf,aa hkl,aS,arg,bc];rw [show (f.stack.drop (f.stack.length - 2))[k]?=some (f.top 2)[k] from aa hkl];rfl
  generalize hg:({f with pc:=f.pc+1}:Frm).pop 2=g at eM hfit ⊢;have hall:List.take (l.length+1) (List.drop 0 (a7 (g::l)))=a7 (g::l):=by rw [aq,ae (by rw [bu];simp)]
  (repeat' (first | refine gY ⟨?_⟩ | refine gX ⟨?_⟩ | fail))
  refine gO gR ⟨?_⟩;refine gD (aE f l) ⟨?_⟩;refine gC [2] eM ⟨?_⟩ rfl rfl (congrArg (fun R=>some [O.oa 5 R]) hset1)
  (repeat' (first | refine gY ⟨?_⟩ | refine gX ⟨?_⟩ | fail))
  refine gD (hrow 0 (by omega)) ⟨?_⟩;refine gD (hrow 1 (by omega)) ⟨?_⟩;refine gO (HO hP x (arg (f.stack.drop (f.stack.length - 2)) 0) (arg (f.stack.drop (f.stack.length - 2)) 1) (gu (l:=f.stack.drop (f.stack.length - 2)) (k:=0) (fun v hv=>hvt v (br hv))).1 (gu (l:=f.stack.drop (f.stack.length - 2)) (k:=1) (fun v hv=>hvt v (br hv))).1 (gu (l:=f.stack.drop (f.stack.length - 2)) (k:=0) (fun v hv=>hvt v (br hv))).2.2 (gu (l:=f.stack.drop (f.stack.length - 2)) (k:=1) (fun v hv=>hvt v (br hv))).2.2) ⟨?_⟩;refine gC [0] (Bo hP ⟨g::l,st,vl,us'⟩ (mI x (arg (f.stack.drop (f.stack.length - 2)) 0) (arg (f.stack.drop (f.stack.length - 2)) 1)).1 (mI x (arg (f.stack.drop (f.stack.length - 2)) 0) (arg (f.stack.drop (f.stack.length - 2)) 1)).2 hfit (by simp)) ⟨?_⟩ rfl rfl (congrArg (fun R=>some [O.st [V.own true 5 R,.d (.int .i64 st),.d (.int .i64 vl.kind),.d (.int .i64 vl.n),.d (.str vl.t),.d (.int .i64 us')]]) hall);exact lW ⟨⟨rfl,rfl,trivial⟩,rfl⟩
 | bi x ks nk h t a z b c =>
  obtain ⟨x1,x2⟩:=hh.high b;have hN:nk<=f.stack.length:=by omega
  have ee:bE P (iOp 11 nk 0 x) {f with pc:=f.pc+1} l ⟨f::l,st,vl,us'⟩=bI.made (vBi x (f.stack.drop (f.stack.length - nk))) ⟨(({f with pc:=f.pc+1}:Frm).pop nk)::l,st,vl,us'⟩:=by
   simp [bE,iOp,dB,Frm.pop,Frm.top]
  rw [ee];obtain ⟨x0,gR⟩:∃ xq:Int,Fn C 150 [(iOp 11 nk 0 x).v] [] (.tup [.d (.int .i64 ((nk:Nat):Int)),.d (.int .i64 xq)]) []:=by
   obtain ⟨w0,o0,q1,x9,rfl,rfl⟩:=nj hP (iOp 11 nk 0 x);exact ⟨x9,q1⟩
  have eM:=mK hP hS7 {f with pc:=f.pc+1} l nk hN (by simp only;omega);have hfit:=hf1.pop nk;have htop:=jo (l:=f.stack) (n:=f.stack.length - nk) (m:=nk) (by omega);generalize hg:({f with pc:=f.pc+1}:Frm).pop nk=g at eM hfit ⊢;have hall:List.take (l.length+1) (List.drop 0 (a7 (g::l)))=a7 (g::l):=by rw [aq,ae (by rw [bu];simp)]
  (repeat' (first | refine gY ⟨?_⟩ | refine gX ⟨?_⟩ | fail))
  refine gO gR ⟨?_⟩;refine gD (aE f l) ⟨?_⟩;refine gC [2] eM ⟨?_⟩ rfl rfl (congrArg (fun R=>some [O.oa 5 R]) hset1)
  (repeat' (first | refine gY ⟨?_⟩ | refine gX ⟨?_⟩ | fail))
  refine gO (HN hP hS2 x ks (f.stack.drop (f.stack.length - nk)) a (by rw [htop.1,z]) (fun v hv=>hvt v (br hv))) ⟨?_⟩;refine gC [0] (Bo hP ⟨g::l,st,vl,us'⟩ (vBi x (f.stack.drop (f.stack.length - nk))).1 (vBi x (f.stack.drop (f.stack.length - nk))).2 hfit (by simp)) ⟨?_⟩ rfl rfl (congrArg (fun R=>some [O.st [V.own true 5 R,.d (.int .i64 st),.d (.int .i64 vl.kind),.d (.int .i64 vl.n),.d (.str vl.t),.d (.int .i64 us')]]) hall);exact lW ⟨⟨rfl,rfl,trivial⟩,rfl⟩
 | ret h t b =>
  obtain ⟨x1,x2⟩:=hh.high b;have hN:1<=f.stack.length:=by omega
  have ee:bE P (iOp 12 0 0 []) {f with pc:=f.pc+1} l ⟨f::l,st,vl,us'⟩=bI.sD (arg (f.stack.drop (f.stack.length - 1)) 0) ⟨(({f with pc:=f.pc+1}:Frm).pop 1)::l,st,vl,us'⟩:=by
   simp [bE,iOp,dB,Frm.pop,Frm.top]
  rw [ee];obtain ⟨x0,gR⟩:∃ xq:Int,Fn C 150 [(iOp 12 0 0 []).v] [] (.tup [.d (.int .i64 ((1:Nat):Int)),.d (.int .i64 xq)]) []:=by
   obtain ⟨w0,o0,q1,x9,rfl,rfl⟩:=nj hP (iOp 12 0 0 []);exact ⟨x9,q1⟩
  have eM:=mK hP hS7 {f with pc:=f.pc+1} l 1 hN (by simp only;omega);have hfit:=hf1.pop 1;have htop:=jo (l:=f.stack) (n:=f.stack.length - 1) (m:=1) (by omega);have hrow:∀ k:Nat,k < 1->((f.top 1).map Val.enc)[((k:Nat):Int).toNat]?=some (arg (f.stack.drop (f.stack.length - 1)) k).enc:=by
   intro k hk;have hkl:k < (f.top 1).length:=by unfold Frm.top;omega
   simp only [bt,bf,aa hkl,aS,arg,bc];rw [show (f.stack.drop (f.stack.length - 1))[k]?=some (f.top 1)[k] from aa hkl];rfl
  generalize hg:({f with pc:=f.pc+1}:Frm).pop 1=g at eM hfit ⊢;have hall:List.take (l.length+1) (List.drop 0 (a7 (g::l)))=a7 (g::l):=by rw [aq,ae (by rw [bu];simp)]
  (repeat' (first | refine gY ⟨?_⟩ | refine gX ⟨?_⟩ | fail))
  refine gO gR ⟨?_⟩;refine gD (aE f l) ⟨?_⟩;refine gC [2] eM ⟨?_⟩ rfl rfl (congrArg (fun R=>some [O.oa 5 R]) hset1)
  (repeat' (first | refine gY ⟨?_⟩ | refine gX ⟨?_⟩ | fail))
  refine gD (hrow 0 (by omega)) ⟨?_⟩;refine gC [0] (HL hP ⟨g::l,st,vl,us'⟩ (arg (f.stack.drop (f.stack.length - 1)) 0) hfit (by simp)) ⟨?_⟩ rfl rfl (congrArg (fun R=>some [O.st [V.own true 5 R,.d (.int .i64 st),.d (.int .i64 vl.kind),.d (.int .i64 vl.n),.d (.str vl.t),.d (.int .i64 us')]]) hall);exact lW ⟨⟨rfl,rfl,trivial⟩,rfl⟩
 | thr h t b =>
  obtain ⟨x1,x2⟩:=hh.high b;have hN:1<=f.stack.length:=by omega
  have ee:bE P (iOp 13 0 0 []) {f with pc:=f.pc+1} l ⟨f::l,st,vl,us'⟩=bI.throw (arg (f.stack.drop (f.stack.length - 1)) 0) ⟨(({f with pc:=f.pc+1}:Frm).pop 1)::l,st,vl,us'⟩:=by
   simp [bE,iOp,dB,Frm.pop,Frm.top]
  rw [ee];obtain ⟨x0,gR⟩:∃ xq:Int,Fn C 150 [(iOp 13 0 0 []).v] [] (.tup [.d (.int .i64 ((1:Nat):Int)),.d (.int .i64 xq)]) []:=by
   obtain ⟨w0,o0,q1,x9,rfl,rfl⟩:=nj hP (iOp 13 0 0 []);exact ⟨x9,q1⟩
  have eM:=mK hP hS7 {f with pc:=f.pc+1} l 1 hN (by simp only;omega);have hfit:=hf1.pop 1;have htop:=jo (l:=f.stack) (n:=f.stack.length - 1) (m:=1) (by omega);have hrow:∀ k:Nat,k < 1->((f.top 1).map Val.enc)[((k:Nat):Int).toNat]?=some (arg (f.stack.drop (f.stack.length - 1)) k).enc:=by
   intro k hk;have hkl:k < (f.top 1).length:=by unfold Frm.top;omega
   simp only [bt,bf,aa hkl,aS,arg,bc];rw [show (f.stack.drop (f.stack.length - 1))[k]?=some (f.top 1)[k] from aa hkl];rfl
  generalize hg:({f with pc:=f.pc+1}:Frm).pop 1=g at eM hfit ⊢;have hall:List.take (l.length+1) (List.drop 0 (a7 (g::l)))=a7 (g::l):=by rw [aq,ae (by rw [bu];simp)]
  (repeat' (first | refine gY ⟨?_⟩ | refine gX ⟨?_⟩ | fail))
  refine gO gR ⟨?_⟩;refine gD (aE f l) ⟨?_⟩;refine gC [2] eM ⟨?_⟩ rfl rfl (congrArg (fun R=>some [O.oa 5 R]) hset1)
  (repeat' (first | refine gY ⟨?_⟩ | refine gX ⟨?_⟩ | fail))
  refine gD (hrow 0 (by omega)) ⟨?_⟩;refine gC [0] (Ey hP ⟨g::l,st,vl,us'⟩ (arg (f.stack.drop (f.stack.length - 1)) 0) hfit) ⟨?_⟩ rfl rfl (congrArg (fun R=>some [O.st [V.own true 5 R,.d (.int .i64 st),.d (.int .i64 vl.kind),.d (.int .i64 vl.n),.d (.str vl.t),.d (.int .i64 us')]]) hall);exact lW ⟨⟨rfl,rfl,trivial⟩,rfl⟩
 | load a h t hsl b c =>
  obtain ⟨x1,x2⟩:=hh.high b;have hN:0<=f.stack.length:=by omega
  have ee:bE P (iOp 2 a 0 []) {f with pc:=f.pc+1} l ⟨f::l,st,vl,us'⟩=bI.made (arg f.aL a,0) ⟨(({f with pc:=f.pc+1}:Frm).pop 0)::l,st,vl,us'⟩:=by
   simp [bE,iOp,dB,Frm.pop,Frm.top]
  rw [ee];obtain ⟨x0,gR⟩:∃ xq:Int,Fn C 150 [(iOp 2 a 0 []).v] [] (.tup [.d (.int .i64 ((0:Nat):Int)),.d (.int .i64 xq)]) []:=by
   obtain ⟨w0,o0,q1,x9,rfl,rfl⟩:=nj hP (iOp 2 a 0 []);exact ⟨x9,q1⟩
  have eM:=mK hP hS7 {f with pc:=f.pc+1} l 0 hN (by simp only;omega);have hfit:=hf1.pop 0;have htop:=jo (l:=f.stack) (n:=f.stack.length - 0) (m:=0) (by omega);generalize hg:({f with pc:=f.pc+1}:Frm).pop 0=g at eM hfit ⊢;have hall:List.take (l.length+1) (List.drop 0 (a7 (g::l)))=a7 (g::l):=by rw [aq,ae (by rw [bu];simp)]
  (repeat' (first | refine gY ⟨?_⟩ | refine gX ⟨?_⟩ | fail))
  refine gO gR ⟨?_⟩;refine gD (aE f l) ⟨?_⟩;refine gC [2] eM ⟨?_⟩ rfl rfl (congrArg (fun R=>some [O.oa 5 R]) hset1)
  (repeat' (first | refine gY ⟨?_⟩ | refine gX ⟨?_⟩ | fail))
  have hgf:g.fn=f.fn/\g.pc=f.pc+1/\g.aL=f.aL/\g.tries=f.tries:=by rw [<- hg];exact ⟨rfl,rfl,rfl,rfl⟩
  obtain ⟨hgfn,hgpc,hgsl,hgtr⟩:=hgf;have hsr:(g.aL.map Val.enc)[0+(a:Int).toNat]?=some (arg f.aL a).enc:=by
   rw [hgsl];simp only [aW,bt,bf,aa (show a < f.aL.length by omega),aS,arg,bc];rfl
  have hgl:g.aL.length=f.aL.length:=by rw [hgsl]
  have c152:=Bo hP ⟨g::l,st,vl,us'⟩ (arg f.aL a) 0 hfit (by simp);refine gD (aE g l) ⟨?_⟩;rw [aJ];refine gN ?_ ⟨?_⟩
  ·exact ⟨by simp only [iOp];omega,by simp only [iOp];omega⟩
  refine gD hsr ⟨?_⟩;refine gC [0,2,5,6] (tw hP ⟨f::l,st,vl,us'⟩ g g l (bI.made (arg f.aL a,0) ⟨g::l,st,vl,us'⟩) c152.1 rfl (fun _=>rfl) (fun _=>rfl) rfl c152) ⟨?_⟩;exact lW ⟨⟨rfl,rfl,trivial⟩,rfl⟩
 | store a h t hsl b c =>
  obtain ⟨x1,x2⟩:=hh.high b;have hN:1<=f.stack.length:=by omega
  have ee:bE P (iOp 3 a 0 []) {f with pc:=f.pc+1} l ⟨f::l,st,vl,us'⟩=⟨{(({f with pc:=f.pc+1}:Frm).pop 1) with aL:=f.aL.set a (arg (f.stack.drop (f.stack.length - 1)) 0)}::l,st,vl,us'⟩:=by
   simp [bE,iOp,dB,Frm.pop,Frm.top]
  rw [ee];obtain ⟨x0,gR⟩:∃ xq:Int,Fn C 150 [(iOp 3 a 0 []).v] [] (.tup [.d (.int .i64 ((1:Nat):Int)),.d (.int .i64 xq)]) []:=by
   obtain ⟨w0,o0,q1,x9,rfl,rfl⟩:=nj hP (iOp 3 a 0 []);exact ⟨x9,q1⟩
  have eM:=mK hP hS7 {f with pc:=f.pc+1} l 1 hN (by simp only;omega);have hfit:=hf1.pop 1;have htop:=jo (l:=f.stack) (n:=f.stack.length - 1) (m:=1) (by omega);have hrow:∀ k:Nat,k < 1->((f.top 1).map Val.enc)[((k:Nat):Int).toNat]?=some (arg (f.stack.drop (f.stack.length - 1)) k).enc:=by
   intro k hk;have hkl:k < (f.top 1).length:=by unfold Frm.top;omega
   simp only [bt,bf,aa hkl,aS,arg,bc];rw [show (f.stack.drop (f.stack.length - 1))[k]?=some (f.top 1)[k] from aa hkl];rfl
  generalize hg:({f with pc:=f.pc+1}:Frm).pop 1=g at eM hfit ⊢;have hall:List.take (l.length+1) (List.drop 0 (a7 (g::l)))=a7 (g::l):=by rw [aq,ae (by rw [bu];simp)]
  (repeat' (first | refine gY ⟨?_⟩ | refine gX ⟨?_⟩ | fail))
  refine gO gR ⟨?_⟩;refine gD (aE f l) ⟨?_⟩;refine gC [2] eM ⟨?_⟩ rfl rfl (congrArg (fun R=>some [O.oa 5 R]) hset1)
  (repeat' (first | refine gY ⟨?_⟩ | refine gX ⟨?_⟩ | fail))
  have hgf:g.fn=f.fn/\g.pc=f.pc+1/\g.aL=f.aL/\g.tries=f.tries:=by rw [<- hg];exact ⟨rfl,rfl,rfl,rfl⟩
  obtain ⟨hgfn,hgpc,hgsl,hgtr⟩:=hgf;have hsr:(g.aL.map Val.enc)[0+(a:Int).toNat]?=some (arg f.aL a).enc:=by
   rw [hgsl];simp only [aW,bt,bf,aa (show a < f.aL.length by omega),aS,arg,bc];rfl
  have hgl:g.aL.length=f.aL.length:=by rw [hgsl]
  refine gD (aE g l) ⟨?_⟩;refine gD (hrow 0 (by omega)) ⟨?_⟩;rw [aJ];refine gN ?_ ⟨?_⟩
  ·exact ⟨by simp only [iOp];omega,by simp only [iOp];omega⟩
  refine gD hsr ⟨?_⟩;repeat' (first | refine gN (by simp [ew]) ⟨?_⟩ | fail)
  refine gD (aE g l) ⟨?_⟩;refine lW ⟨⟨?_,rfl,trivial⟩,rfl⟩;(conv=>lhs;whnf);refine congrArg (fun R=>some (O.st [V.own true 5 R,.d (.int .i64 st),.d (.int .i64 vl.kind),.d (.int .i64 vl.n),.d (.str vl.t),.d (.int .i64 us')])) (cB rfl ?_);exact dw rfl rfl (by rw [aq,ae (by simp),hgsl,aW,List.map_set];rfl) rfl rfl
 | jump n h t lo hi b c =>
  obtain ⟨x1,x2⟩:=hh.high b;have hN:0<=f.stack.length:=by omega
  have ee:bE P (iOp 6 n 0 []) {f with pc:=f.pc+1} l ⟨f::l,st,vl,us'⟩=⟨{(({f with pc:=f.pc+1}:Frm).pop 0) with pc:=n}::l,st,vl,us'⟩:=by
   simp [bE,iOp,dB,Frm.pop,Frm.top]
  rw [ee];obtain ⟨x0,gR⟩:∃ xq:Int,Fn C 150 [(iOp 6 n 0 []).v] [] (.tup [.d (.int .i64 ((0:Nat):Int)),.d (.int .i64 xq)]) []:=by
   obtain ⟨w0,o0,q1,x9,rfl,rfl⟩:=nj hP (iOp 6 n 0 []);exact ⟨x9,q1⟩
  have eM:=mK hP hS7 {f with pc:=f.pc+1} l 0 hN (by simp only;omega);have hfit:=hf1.pop 0;have htop:=jo (l:=f.stack) (n:=f.stack.length - 0) (m:=0) (by omega);generalize hg:({f with pc:=f.pc+1}:Frm).pop 0=g at eM hfit ⊢;have hall:List.take (l.length+1) (List.drop 0 (a7 (g::l)))=a7 (g::l):=by rw [aq,ae (by rw [bu];simp)]
  (repeat' (first | refine gY ⟨?_⟩ | refine gX ⟨?_⟩ | fail))
  refine gO gR ⟨?_⟩;refine gD (aE f l) ⟨?_⟩;refine gC [2] eM ⟨?_⟩ rfl rfl (congrArg (fun R=>some [O.oa 5 R]) hset1)
  (repeat' (first | refine gY ⟨?_⟩ | refine gX ⟨?_⟩ | fail))
  have hgf:g.fn=f.fn/\g.pc=f.pc+1/\g.aL=f.aL/\g.tries=f.tries:=by rw [<- hg];exact ⟨rfl,rfl,rfl,rfl⟩
  obtain ⟨hgfn,hgpc,hgsl,hgtr⟩:=hgf;refine gD (aE g l) ⟨?_⟩;refine gD (aE g l) ⟨?_⟩;refine lW ⟨⟨?_,rfl,trivial⟩,rfl⟩;(conv=>lhs;whnf);refine congrArg (fun R=>some (O.st [V.own true 5 R,.d (.int .i64 st),.d (.int .i64 vl.kind),.d (.int .i64 vl.n),.d (.str vl.t),.d (.int .i64 us')])) (cB rfl ?_);exact dw rfl rfl rfl rfl rfl
 | wT n h t lo hi b c d =>
  obtain ⟨x1,x2⟩:=hh.high b;have hN:1<=f.stack.length:=by omega
  have ee:bE P (iOp 7 n 0 []) {f with pc:=f.pc+1} l ⟨f::l,st,vl,us'⟩=⟨l4 (iOp 7 n 0 []) (arg (f.stack.drop (f.stack.length - 1)) 0) (({f with pc:=f.pc+1}:Frm).pop 1)::l,st,vl,us'⟩:=by
   simp [bE,l4,iOp,dB,Frm.pop,Frm.top]
  rw [ee];obtain ⟨x0,gR⟩:∃ xq:Int,Fn C 150 [(iOp 7 n 0 []).v] [] (.tup [.d (.int .i64 ((1:Nat):Int)),.d (.int .i64 xq)]) []:=by
   obtain ⟨w0,o0,q1,x9,rfl,rfl⟩:=nj hP (iOp 7 n 0 []);exact ⟨x9,q1⟩
  have eM:=mK hP hS7 {f with pc:=f.pc+1} l 1 hN (by simp only;omega);have hfit:=hf1.pop 1;have htop:=jo (l:=f.stack) (n:=f.stack.length - 1) (m:=1) (by omega);have hrow:∀ k:Nat,k < 1->((f.top 1).map Val.enc)[((k:Nat):Int).toNat]?=some (arg (f.stack.drop (f.stack.length - 1)) k).enc:=by
   intro k hk;have hkl:k < (f.top 1).length:=by unfold Frm.top;omega
   simp only [bt,bf,aa hkl,aS,arg,bc];rw [show (f.stack.drop (f.stack.length - 1))[k]?=some (f.top 1)[k] from aa hkl];rfl
  generalize hg:({f with pc:=f.pc+1}:Frm).pop 1=g at eM hfit ⊢;have hall:List.take (l.length+1) (List.drop 0 (a7 (g::l)))=a7 (g::l):=by rw [aq,ae (by rw [bu];simp)]
  (repeat' (first | refine gY ⟨?_⟩ | refine gX ⟨?_⟩ | fail))
  refine gO gR ⟨?_⟩;refine gD (aE f l) ⟨?_⟩;refine gC [2] eM ⟨?_⟩ rfl rfl (congrArg (fun R=>some [O.oa 5 R]) hset1)
  (repeat' (first | refine gY ⟨?_⟩ | refine gX ⟨?_⟩ | fail))
  have hgf:g.fn=f.fn/\g.pc=f.pc+1/\g.aL=f.aL/\g.tries=f.tries:=by rw [<- hg];exact ⟨rfl,rfl,rfl,rfl⟩
  obtain ⟨hgfn,hgpc,hgsl,hgtr⟩:=hgf;have c156:=Ez hP g (iOp 7 n 0 []) (arg (f.stack.drop (f.stack.length - 1)) 0) (hfit.cons.2.1) (by simp only [iOp];omega);generalize hz:l4 (iOp 7 n 0 []) (arg (f.stack.drop (f.stack.length - 1)) 0) g=z at c156 ⊢;refine gD (aE g l) ⟨?_⟩;refine gD (hrow 0 (by omega)) ⟨?_⟩;refine gC [5] c156 ⟨?_⟩;refine gD (aE g l) ⟨?_⟩;refine lW ⟨⟨?_,rfl,trivial⟩,rfl⟩;(conv=>lhs;whnf);refine congrArg (fun R=>some (O.st [V.own true 5 R,.d (.int .i64 st),.d (.int .i64 vl.kind),.d (.int .i64 vl.n),.d (.str vl.t),.d (.int .i64 us')])) (cB rfl ?_);exact dw rfl rfl rfl rfl rfl
 | both k n h t hk lo hi b c d =>
  rcases hk with rfl | rfl
  ·obtain ⟨x1,x2⟩:=hh.high b;have hN:1<=f.stack.length:=by omega
   have ee:bE P (iOp 8 n 0 []) {f with pc:=f.pc+1} l ⟨f::l,st,vl,us'⟩=⟨l4 (iOp 8 n 0 []) (arg (f.stack.drop (f.stack.length - 1)) 0) (({f with pc:=f.pc+1}:Frm).pop 1)::l,st,vl,us'⟩:=by
    simp [bE,l4,iOp,dB,Frm.pop,Frm.top]
   rw [ee];obtain ⟨x0,gR⟩:∃ xq:Int,Fn C 150 [(iOp 8 n 0 []).v] [] (.tup [.d (.int .i64 ((1:Nat):Int)),.d (.int .i64 xq)]) []:=by
    obtain ⟨w0,o0,q1,x9,rfl,rfl⟩:=nj hP (iOp 8 n 0 []);exact ⟨x9,q1⟩
   have eM:=mK hP hS7 {f with pc:=f.pc+1} l 1 hN (by simp only;omega);have hfit:=hf1.pop 1;have htop:=jo (l:=f.stack) (n:=f.stack.length - 1) (m:=1) (by omega);have hrow:∀ k:Nat,k < 1->((f.top 1).map Val.enc)[((k:Nat):Int).toNat]?=some (arg (f.stack.drop (f.stack.length - 1)) k).enc:=by
    intro k hk;have hkl:k < (f.top 1).length:=by unfold Frm.top;omega
    simp only [bt,bf,aa hkl,aS,arg,bc];rw [show (f.stack.drop (f.stack.length - 1))[k]?=some (f.top 1)[k] from aa hkl];rfl
   generalize hg:({f with pc:=f.pc+1}:Frm).pop 1=g at eM hfit ⊢;have hall:List.take (l.length+1) (List.drop 0 (a7 (g::l)))=a7 (g::l):=by rw [aq,ae (by rw [bu];simp)]
   (repeat' (first | refine gY ⟨?_⟩ | refine gX ⟨?_⟩ | fail))
   refine gO gR ⟨?_⟩;refine gD (aE f l) ⟨?_⟩;refine gC [2] eM ⟨?_⟩ rfl rfl (congrArg (fun R=>some [O.oa 5 R]) hset1)
   (repeat' (first | refine gY ⟨?_⟩ | refine gX ⟨?_⟩ | fail))
   have hgf:g.fn=f.fn/\g.pc=f.pc+1/\g.aL=f.aL/\g.tries=f.tries:=by rw [<- hg];exact ⟨rfl,rfl,rfl,rfl⟩
   obtain ⟨hgfn,hgpc,hgsl,hgtr⟩:=hgf;have c156:=Ez hP g (iOp 8 n 0 []) (arg (f.stack.drop (f.stack.length - 1)) 0) (hfit.cons.2.1) (by simp only [iOp];omega);generalize hz:l4 (iOp 8 n 0 []) (arg (f.stack.drop (f.stack.length - 1)) 0) g=z at c156 ⊢;refine gD (aE g l) ⟨?_⟩;refine gD (hrow 0 (by omega)) ⟨?_⟩;refine gC [5] c156 ⟨?_⟩;refine gD (aE g l) ⟨?_⟩;refine lW ⟨⟨?_,rfl,trivial⟩,rfl⟩;(conv=>lhs;whnf);refine congrArg (fun R=>some (O.st [V.own true 5 R,.d (.int .i64 st),.d (.int .i64 vl.kind),.d (.int .i64 vl.n),.d (.str vl.t),.d (.int .i64 us')])) (cB rfl ?_);exact dw rfl rfl rfl rfl rfl
  ·obtain ⟨x1,x2⟩:=hh.high b;have hN:1<=f.stack.length:=by omega
   have ee:bE P (iOp 9 n 0 []) {f with pc:=f.pc+1} l ⟨f::l,st,vl,us'⟩=⟨l4 (iOp 9 n 0 []) (arg (f.stack.drop (f.stack.length - 1)) 0) (({f with pc:=f.pc+1}:Frm).pop 1)::l,st,vl,us'⟩:=by
    simp [bE,l4,iOp,dB,Frm.pop,Frm.top]
   rw [ee];obtain ⟨x0,gR⟩:∃ xq:Int,Fn C 150 [(iOp 9 n 0 []).v] [] (.tup [.d (.int .i64 ((1:Nat):Int)),.d (.int .i64 xq)]) []:=by
    obtain ⟨w0,o0,q1,x9,rfl,rfl⟩:=nj hP (iOp 9 n 0 []);exact ⟨x9,q1⟩
   have eM:=mK hP hS7 {f with pc:=f.pc+1} l 1 hN (by simp only;omega);have hfit:=hf1.pop 1;have htop:=jo (l:=f.stack) (n:=f.stack.length - 1) (m:=1) (by omega);have hrow:∀ k:Nat,k < 1->((f.top 1).map Val.enc)[((k:Nat):Int).toNat]?=some (arg (f.stack.drop (f.stack.length - 1)) k).enc:=by
    intro k hk;have hkl:k < (f.top 1).length:=by unfold Frm.top;omega
    simp only [bt,bf,aa hkl,aS,arg,bc];rw [show (f.stack.drop (f.stack.length - 1))[k]?=some (f.top 1)[k] from aa hkl];rfl
   generalize hg:({f with pc:=f.pc+1}:Frm).pop 1=g at eM hfit ⊢;have hall:List.take (l.length+1) (List.drop 0 (a7 (g::l)))=a7 (g::l):=by rw [aq,ae (by rw [bu];simp)]
   (repeat' (first | refine gY ⟨?_⟩ | refine gX ⟨?_⟩ | fail))
   refine gO gR ⟨?_⟩;refine gD (aE f l) ⟨?_⟩;refine gC [2] eM ⟨?_⟩ rfl rfl (congrArg (fun R=>some [O.oa 5 R]) hset1)
   (repeat' (first | refine gY ⟨?_⟩ | refine gX ⟨?_⟩ | fail))
   have hgf:g.fn=f.fn/\g.pc=f.pc+1/\g.aL=f.aL/\g.tries=f.tries:=by rw [<- hg];exact ⟨rfl,rfl,rfl,rfl⟩
   obtain ⟨hgfn,hgpc,hgsl,hgtr⟩:=hgf;have c156:=Ez hP g (iOp 9 n 0 []) (arg (f.stack.drop (f.stack.length - 1)) 0) (hfit.cons.2.1) (by simp only [iOp];omega);generalize hz:l4 (iOp 9 n 0 []) (arg (f.stack.drop (f.stack.length - 1)) 0) g=z at c156 ⊢;refine gD (aE g l) ⟨?_⟩;refine gD (hrow 0 (by omega)) ⟨?_⟩;refine gC [5] c156 ⟨?_⟩;refine gD (aE g l) ⟨?_⟩;refine lW ⟨⟨?_,rfl,trivial⟩,rfl⟩;(conv=>lhs;whnf);refine congrArg (fun R=>some (O.st [V.own true 5 R,.d (.int .i64 st),.d (.int .i64 vl.kind),.d (.int .i64 vl.n),.d (.str vl.t),.d (.int .i64 us')])) (cB rfl ?_);exact dw rfl rfl rfl rfl rfl
 | tr n t lo hi b c d =>
  obtain ⟨x1,x2⟩:=hh.high b;have hN:0<=f.stack.length:=by omega
  have ee:bE P (iOp 14 n 0 []) {f with pc:=f.pc+1} l ⟨f::l,st,vl,us'⟩=⟨{(({f with pc:=f.pc+1}:Frm).pop 0) with tries:=f.tries++[(n,f.stack.length)]}::l,st,vl,us'⟩:=by
   simp [bE,iOp,dB,Frm.pop,Frm.top]
  rw [ee];obtain ⟨x0,gR⟩:∃ xq:Int,Fn C 150 [(iOp 14 n 0 []).v] [] (.tup [.d (.int .i64 ((0:Nat):Int)),.d (.int .i64 xq)]) []:=by
   obtain ⟨w0,o0,q1,x9,rfl,rfl⟩:=nj hP (iOp 14 n 0 []);exact ⟨x9,q1⟩
  have eM:=mK hP hS7 {f with pc:=f.pc+1} l 0 hN (by simp only;omega);have hfit:=hf1.pop 0;have htop:=jo (l:=f.stack) (n:=f.stack.length - 0) (m:=0) (by omega);generalize hg:({f with pc:=f.pc+1}:Frm).pop 0=g at eM hfit ⊢;have hall:List.take (l.length+1) (List.drop 0 (a7 (g::l)))=a7 (g::l):=by rw [aq,ae (by rw [bu];simp)]
  (repeat' (first | refine gY ⟨?_⟩ | refine gX ⟨?_⟩ | fail))
  refine gO gR ⟨?_⟩;refine gD (aE f l) ⟨?_⟩;refine gC [2] eM ⟨?_⟩ rfl rfl (congrArg (fun R=>some [O.oa 5 R]) hset1)
  (repeat' (first | refine gY ⟨?_⟩ | refine gX ⟨?_⟩ | fail))
  have hgf:g.fn=f.fn/\g.pc=f.pc+1/\g.aL=f.aL/\g.tries=f.tries:=by rw [<- hg];exact ⟨rfl,rfl,rfl,rfl⟩
  obtain ⟨hgfn,hgpc,hgsl,hgtr⟩:=hgf;have hgst:g.stack=f.stack:=by rw [<- hg];simp [Frm.pop]
  refine gD (aE g l) ⟨?_⟩;refine gN ?_ ⟨?_⟩
  ·rw [aJ,hgtr];simp only [Sh.len,aU];omega
  repeat' (first | refine gN (by simp [ew]) ⟨?_⟩ | fail)
  refine gD (aE g l) ⟨?_⟩;refine lW ⟨⟨?_,rfl,trivial⟩,rfl⟩;(conv=>lhs;whnf);refine congrArg (fun R=>some (O.st [V.own true 5 R,.d (.int .i64 st),.d (.int .i64 vl.kind),.d (.int .i64 vl.n),.d (.str vl.t),.d (.int .i64 us')])) (cB rfl ?_);exact dw rfl rfl rfl (je (by simp)) (by rw [hgtr,hgst];exact (jG (v:=(n,f.stack.length)) (by simp [Sh.len]) (by simp) (by simp [tryD,iOp])).trans (by rw [aJ,b8]))
 | don h t b c =>
  obtain ⟨x1,x2⟩:=hh.high b;have hN:0<=f.stack.length:=by omega
  have ee:bE P (iOp 15 0 0 []) {f with pc:=f.pc+1} l ⟨f::l,st,vl,us'⟩=⟨{(({f with pc:=f.pc+1}:Frm).pop 0) with tries:=f.tries.dropLast}::l,st,vl,us'⟩:=by
   simp [bE,iOp,dB,Frm.pop,Frm.top]
  rw [ee];obtain ⟨x0,gR⟩:∃ xq:Int,Fn C 150 [(iOp 15 0 0 []).v] [] (.tup [.d (.int .i64 ((0:Nat):Int)),.d (.int .i64 xq)]) []:=by
   obtain ⟨w0,o0,q1,x9,rfl,rfl⟩:=nj hP (iOp 15 0 0 []);exact ⟨x9,q1⟩
  have eM:=mK hP hS7 {f with pc:=f.pc+1} l 0 hN (by simp only;omega);have hfit:=hf1.pop 0;have htop:=jo (l:=f.stack) (n:=f.stack.length - 0) (m:=0) (by omega);generalize hg:({f with pc:=f.pc+1}:Frm).pop 0=g at eM hfit ⊢;have hall:List.take (l.length+1) (List.drop 0 (a7 (g::l)))=a7 (g::l):=by rw [aq,ae (by rw [bu];simp)]
  (repeat' (first | refine gY ⟨?_⟩ | refine gX ⟨?_⟩ | fail))
  refine gO gR ⟨?_⟩;refine gD (aE f l) ⟨?_⟩;refine gC [2] eM ⟨?_⟩ rfl rfl (congrArg (fun R=>some [O.oa 5 R]) hset1)
  (repeat' (first | refine gY ⟨?_⟩ | refine gX ⟨?_⟩ | fail))
  have hgf:g.fn=f.fn/\g.pc=f.pc+1/\g.aL=f.aL/\g.tries=f.tries:=by rw [<- hg];exact ⟨rfl,rfl,rfl,rfl⟩
  obtain ⟨hgfn,hgpc,hgsl,hgtr⟩:=hgf;refine gD (aE g l) ⟨?_⟩;rw [aJ,hgtr,eo (by omega) (by omega)];refine gN ?_ ⟨?_⟩
  ·exact ⟨by omega,by omega⟩
  repeat' (first | refine gN (by simp [ew]) ⟨?_⟩ | fail)
  refine gD (aE g l) ⟨?_⟩;refine lW ⟨⟨?_,rfl,trivial⟩,rfl⟩;(conv=>lhs;whnf);refine congrArg (fun R=>some (O.st [V.own true 5 R,.d (.int .i64 st),.d (.int .i64 vl.kind),.d (.int .i64 vl.n),.d (.str vl.t),.d (.int .i64 us')])) (cB rfl ?_);exact dw rfl rfl rfl rfl (by rw [show ct f.tries.length none (some ((f.tries.length - 1:Nat):Int))=f.tries.length - 1 by simp only [ct,eA,bH];omega];exact kH.trans (by rw [<- List.dropLast_eq_take]))
 | pop h t b c =>
  obtain ⟨x1,x2⟩:=hh.high b;have hN:1<=f.stack.length:=by omega
  have ee:bE P (iOp 16 0 0 []) {f with pc:=f.pc+1} l ⟨f::l,st,vl,us'⟩=⟨(({f with pc:=f.pc+1}:Frm).pop 1)::l,st,vl,us'⟩:=by
   simp [bE,iOp,dB,Frm.pop,Frm.top]
  rw [ee];obtain ⟨x0,gR⟩:∃ xq:Int,Fn C 150 [(iOp 16 0 0 []).v] [] (.tup [.d (.int .i64 ((1:Nat):Int)),.d (.int .i64 xq)]) []:=by
   obtain ⟨w0,o0,q1,x9,rfl,rfl⟩:=nj hP (iOp 16 0 0 []);exact ⟨x9,q1⟩
  have eM:=mK hP hS7 {f with pc:=f.pc+1} l 1 hN (by simp only;omega);have hfit:=hf1.pop 1;have htop:=jo (l:=f.stack) (n:=f.stack.length - 1) (m:=1) (by omega);generalize hg:({f with pc:=f.pc+1}:Frm).pop 1=g at eM hfit ⊢;have hall:List.take (l.length+1) (List.drop 0 (a7 (g::l)))=a7 (g::l):=by rw [aq,ae (by rw [bu];simp)]
  (repeat' (first | refine gY ⟨?_⟩ | refine gX ⟨?_⟩ | fail))
  refine gO gR ⟨?_⟩;refine gD (aE f l) ⟨?_⟩;refine gC [2] eM ⟨?_⟩ rfl rfl (congrArg (fun R=>some [O.oa 5 R]) hset1)
  (repeat' (first | refine gY ⟨?_⟩ | refine gX ⟨?_⟩ | fail))
  refine lW ⟨⟨?_,rfl,trivial⟩,rfl⟩;(conv=>lhs;whnf);exact congrArg (fun R=>some (O.st [V.own true 5 R,.d (.int .i64 st),.d (.int .i64 vl.kind),.d (.int .i64 vl.n),.d (.str vl.t),.d (.int .i64 us')])) hall
 | call j nk h t a b c =>
  obtain ⟨x1,x2⟩:=hh.high b;obtain ⟨fc',k0,k1,k2⟩:=a;obtain ⟨sl',H',hfc⟩:=hPk.fns fc' (aP k1);obtain ⟨jn,rfl⟩:=Int.eq_ofNat_of_zero_le k0;have hs':slotsOf P ((jn:Int)).toNat=sl':=by unfold slotsOf;rw [k1];simp only;rw [hfc.aL];simp
  have hle:nk<=sl':=by have:=hfc.aL;omega
  have h20:=hfc.few;have ee:bE P (iOp 10 jn nk []) {f with pc:=f.pc+1} l ⟨f::l,st,vl,us'⟩=if l.length+1=6 then (⟨({f with pc:=f.pc+1}:Frm).pop nk::l,st,vl,us'⟩:bI).throw (j0 9) else ⟨cC sl' jn (({f with pc:=f.pc+1}:Frm).top nk)::({f with pc:=f.pc+1}:Frm).pop nk::l,st,vl,us'⟩:=by
   rw [<- hs'];simp [bE,iOp,Frm.pop,Frm.top]
  rw [ee];have E5:=HQ hP hS7 P ⟨{f with pc:=f.pc+1}::l,st,vl,us'⟩ {f with pc:=f.pc+1} l rfl hf1 fc' jn nk sl' (by simpa using k1) hfc.aL (by omega) (by simp only;omega) hle
  (repeat' (first | refine gY ⟨?_⟩ | refine gX ⟨?_⟩ | fail))
  refine gD (aE f l) ⟨?_⟩;refine gC [0,1] E5 ⟨?_⟩ rfl rfl (congrArg (fun R=>some [O.st [V.own true 5 R,.d (.int .i64 st),.d (.int .i64 vl.kind),.d (.int .i64 vl.n),.d (.str vl.t),.d (.int .i64 us')],ky P]) (cB rfl rfl));exact lW ⟨⟨rfl,rfl,trivial⟩,rfl⟩
end
end Go.Proofs.YtggoiofammbchaaGreatDoor.Loc
