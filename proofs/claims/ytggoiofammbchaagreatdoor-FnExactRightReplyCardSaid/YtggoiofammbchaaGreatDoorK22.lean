/- Part 22 of a chain that ends in the statement named in GOCLAIM.json; no condition. -/
import Derived.Test.YtggoiofammbchaaGreatDoorK21
set_option maxRecDepth 100000
set_option maxHeartbeats 2000000
set_option linter.all false
namespace Go.Proofs.YtggoiofammbchaaGreatDoor.Loc
open Go
variable {P:List Fc} {k n:Nat}
def runM (P:List Fc):Nat->bI->bI
 | 0,m=>m
 | n+1,m=>if m.state=1 then runM P n (iG P m) else m
def runN (P:List Fc):Nat->bI->Nat
 | 0,m=>0
 | n+1,m=>if m.state=1 then runN P n (iG P m)+1 else 0
structure Cb (P:List Fc):Prop where
 ok:mi P
 few:P.length<=1000
 code:∀ f∈P,f.code.length<=1000
theorem yV {m:bI} (h:gw P m) (hl:Low k m.fs) (hk:k<=1000000):Fits m.fs:=by
 refine ⟨h.fs.few,fun f hf=>?_⟩;have h1:=hl f hf;refine ⟨by omega,by omega,fun t ht=>?_⟩;cases hfs:m.fs with
 | nil=>rw [hfs] at hf;cases hf
 | cons g l =>
  obtain ⟨h2,h3⟩:=h.fs.top g l hfs;have h4:∃ up,gA P up f:=by
   rw [hfs] at hf;rcases aQ.1 hf with rfl | hf
   ·exact ⟨0,h2⟩
   ·exact ⟨1,h3 f hf⟩
  obtain ⟨up,⟨fc,sl,H,a1,a2,a3,a4,a5,a6⟩,b1,b2⟩:=h4;obtain ⟨q,hq⟩:=List.mem_iff_getElem?.1 ht;exact (a6 q t hq).1
theorem oF (P:List Fc) (m:bI) (h:m.fs≠[]) (hm:gw P m) (h1:m.state=1):(iG P m).used=min (m.used+1) 1000000:=by
 have made:∀ (r:Val×Int) (m:bI),(m.made r).used=m.used:=by
  intro r m;unfold bI.made bI.throw;split
  ·split<;>rfl
  ·rfl
 have thrown:∀ (v:Val) (m:bI),(m.throw v).used=m.used:=by
  intro r m;unfold bI.throw;split<;>rfl
 have given:∀ (v:Val) (m:bI),(m.sD v).used=m.used:=by
  intro r m;unfold bI.sD;split<;>rfl
 cases hfs:m.fs with
 | nil=>exact absurd hfs h
 | cons f l =>
  obtain ⟨fc,sl,H,i,hh⟩:=(hm.fs.top f l hfs).1.here;unfold iG;rw [hfs];simp only;rw [hh.pJ];simp only [bE,apply_ite bI.used,made,thrown,given,ite_self]
theorem vQ {P:List Fc} (hP:mi P):∀ (n:Nat) (m:bI),gw P m->m.used+n<=1000000->(runM P n m).used=m.used+runN P n m
 | 0,m,_,_=>rfl
 | n+1,m,hm,hu=>by
  unfold runM runN;by_cases h1:m.state=1
  ·rw [aj h1,aj h1];have hs:=oF P m (hm.run h1) hm h1;rw [vQ hP n _ (qa hP hm h1).1 (by omega),hs];omega
  ·rw [ab h1,ab h1];rfl
theorem uo {P:List Fc} (hP:mi P):∀ (n:Nat) (m:bI),gw P m->gw P (runM P n m)
 | 0,m,hm=>hm
 | n+1,m,hm=>by
  unfold runM;by_cases h1:m.state=1
  ·rw [aj h1];exact uo hP n _ (qa hP hm h1).1
  ·rw [ab h1];exact hm
def cQ (sl:Nat) (path:List UInt8):bI:=⟨[cC sl 0 [dH path]],1,bO,0⟩
theorem nJ (hP:mi P) {fc:Fc} {sl:Nat} (h0:P[0]?=some fc) (hs:fc.aL=sl) (h1:1<=sl) {path:List UInt8} (hp:path.length<=1073741824):gw P (cQ sl path)/\Low 0 (cQ sl path).fs:=by
 obtain ⟨sl',H,hfc⟩:=hP.fns fc (aP h0);have e:sl'=sl:=by have:=hfc.aL;omega
 subst e;refine ⟨⟨⟨fun f r h=>?_,by simp [cQ]⟩,fun _=>by simp [cQ],ef,.inl rfl⟩,fun g hg=>?_⟩
 ·simp only [cQ,List.cons.injEq] at h;obtain ⟨rfl,rfl⟩:=h;refine ⟨⟨⟨fc,sl',H,h0,hfc,hfc.sK.pos,?_,?_,fun k t ht=>by simp [cC] at ht⟩,fun v hv=>?_,by simp [cC]⟩,by simp⟩
  ·simp only [cC,aH,List.length_replicate,aU];omega
  ·simp only [cC];rw [hfc.sK.zero];rfl
  ·simp only [cC] at hv;rcases bL.1 hv with hv | hv
   ·rw [bA.1 hv];exact lJ hp
   ·rw [List.eq_of_mem_replicate hv];exact ef
 ·simp only [cQ,bA] at hg;subst hg;simp [cC]
section
variable {C:Ctx} (hP:C.P=Tryz.prog)
include hP
theorem k60 (hS7:pq C) (hS2:lu C) (P:List Fc) (hPg:Cb P) (m:bI) (hm:gw P m) (hlow:Low 0 m.fs) (hu:m.used<=1000000) (fuel:Nat) (hf:fuel<=20000) :
  Fn C 60 [.ptr 0 0 0,.ptr 1 0 0,.d (.int .i64 fuel)] [m.enc,ky P] (.d (.int .i64 (runN P fuel m))) [some (runM P fuel m).enc,some (ky P)]:=by
 refine eN hP c60 ⟨?_⟩;generalize hR:runM P fuel m=R;generalize hN:runN P fuel m=N;refine ah.loop (fun x:Nat×bI=>fuel - x.1) (fun x=>x.1<=fuel/\gw P x.2/\Low x.1 x.2.fs/\x.2.used<=1000000/\runM P (fuel - x.1) x.2=R/\x.1+runN P (fuel - x.1) x.2=N) (fun x=>[(0,.ptr 0 0 0),(1,.ptr 1 0 0),(2,.d (.int .i64 fuel)),(7,.d (.int .i64 (x.1:Nat)))]) (fun x=>[(0,x.2.enc),(1,ky P)]) 2 ?_ (0,m) ⟨by simp,hm,hlow,hu,hR,by simpa using hN⟩;intro ⟨k,m'⟩ ⟨hk,hm',hl',hu',hR',hN'⟩ ih;simp only at hk hm' hl' hu' hR' hN' ih ⊢;refine gG ⟨?_⟩;by_cases hkf:k < fuel
 ·rw [show fuel - k=(fuel - (k+1))+1 by omega,runM] at hR';rw [show fuel - k=(fuel - (k+1))+1 by omega,runN] at hN';refine gY ⟨?_⟩ (by simp;omega);by_cases h1:m'.state=1
  ·rw [aj h1] at hR' hN';refine gY ⟨?_⟩ (by simpa using h1);cases hfs:m'.fs with
   | nil=>exact absurd hfs (hm'.run h1)
   | cons f l =>
    obtain ⟨fc,sl,H,i,hh⟩:=(hm'.fs.top f l hfs).1.here;have E8:=H6 hP hS7 hS2 P hPg.ok m' f l hfs (yV hm' hl' (by omega)) hh (hPg.code fc (aP hh.get)) hu' hPg.few;obtain ⟨q1,q2⟩:=qa hPg.ok hm' h1;have hus:=oF P m' (hm'.run h1) hm' h1;rw [show a7 (f::l)=a7 m'.fs by rw [hfs]];refine gC [0,1] E8 ⟨?_⟩;rw [aC (by omega)];exact (ih (k+1,iG P m') ⟨by omega,q1,q2 k hl',by rw [hus];omega,hR',(by show k+1+runN P (fuel - (k+1)) (iG P m')=N;omega)⟩ (by simp only;omega)).to rfl rfl
  ·rw [ab h1] at hR' hN';refine gX ⟨?_⟩ (by simpa using h1);subst hR';refine ah.aD (os':=[some m'.enc,some (ky P)]) [0,1] trivial rfl rfl ⟨rfl,rfl,trivial⟩ ?_;(conv=>whnf);rw [show N=k by omega];exact ⟨rfl,rfl⟩
 ·rw [show fuel - k=0 by omega,runM] at hR';rw [show fuel - k=0 by omega,runN] at hN';refine gX ⟨?_⟩ (by simp;omega);subst hR';refine ah.aD (os':=[some m'.enc,some (ky P)]) [0,1] trivial rfl rfl ⟨rfl,rfl,trivial⟩ ?_;(conv=>whnf);rw [show N=k by omega];exact ⟨rfl,rfl⟩
theorem k59 (P:List Fc) (fc:Fc) (sl:Nat) (path:List UInt8) (h0:P[0]?=some fc) (hs:fc.aL=sl) (h1:1<=sl) (hl:sl<=1000) :
  Fn C 59 [.agg [.d (.imm 4 (P.map Fc.enc))],.d (.str path)] [] (.agg [.arr 0 0 1,.d (.int .i64 1),.d (.int .i64 0),.d (.int .i64 0),.d (.str []),.d (.int .i64 0)]) [some (.oa 5 (a7 (cQ sl path).fs))]:=by
 have c99:=k99 hP path;have c98:=k98 hP P fc 0 sl [dH path] h0 hs hl h1;refine eN hP c59 ⟨gO c99 ⟨gC [0] c98 ⟨?_⟩⟩⟩;refine ah.aD (os':=[some (.oa 5 (a7 (cQ sl path).fs))]) [3,1] trivial rfl rfl ⟨?_,trivial⟩ ?_
 ·(conv=>lhs;whnf);refine congrArg (fun R=>some (O.oa 5 [R])) (dw (f:=cC sl 0 [dH path]) rfl rfl ?_ rfl rfl);exact je (by simp only [cC,aH,List.length_replicate,aU];omega)
 ·(conv=>whnf);exact ⟨rfl,rfl⟩
end
section
variable {C:Ctx} (hP:C.P=Tryz.prog)
include hP
theorem mL (f:Frm) (n:Nat) (hn:n<=f.stack.length) (hl:f.stack.length<=1000000):Fn C 131 [.ptr 0 0 0,.d (.int .i64 n)] [f.o] (.d (lx (f.top n))) [some (f.pop n).o]:=by
 refine eN hP c131 ⟨?_⟩;rw [aJ,qx hn (by omega)];refine ah.dR ?_ ?_
 ·exact ⟨by omega,by omega⟩
 rw [show 0+bH (some ((f.stack.length - n:Nat):Int))=f.stack.length - n by simp [bH],show ct f.stack.length (some ((f.stack.length - n:Nat):Int)) none=n by simp only [ct,eA,bH];omega];refine gG ⟨gN ?_ ⟨?_⟩⟩
 ·simp only [Sh.len];omega
 refine ah.dR ?_ ?_
 ·exact ⟨by omega,by omega⟩
 rw [show 0+bH none=0 from rfl,show ct f.stack.length none (some ((f.stack.length - n:Nat):Int))=f.stack.length - n by simp only [ct,eA,bH];omega];refine gG ⟨lW ⟨⟨?_,trivial⟩,?_⟩⟩
 ·(conv=>lhs;whnf);rw [kH];rfl
 ·simp only [Sh.len];rw [lx,Frm.top,List.map_drop,aq,ae (i:=n) (by simp;omega),dG,ae (by simp;omega)]
theorem Ga (f:Frm) (n:Nat) (hn:n<=f.stack.length) (hl:f.stack.length<=1000000):Fn C 131 [.ptr 0 0 0,.d (.int .i64 n)] [.rst [.d (.int .i64 f.fn),.d (.int .i64 f.pc),.arr 3 0 f.aL.length,.arr 2 0 f.stack.length,.own false 2 (f.tries.map tryD)] 3 1 1,.st [.arr 2 0 f.stack.length],.da 3 (f.stack.map Val.enc),.da 3 (f.aL.map Val.enc)]
  (.d (lx (f.top n))) [some (.rst [.d (.int .i64 f.fn),.d (.int .i64 f.pc),.arr 3 0 f.aL.length,.arr 2 0 f.stack.length,.own false 2 (f.tries.map tryD)] 3 1 1),some (.st [.arr 2 0 (f.stack.length - n)]),some (.da 3 (f.stack.map Val.enc)),some (.da 3 (f.aL.map Val.enc))]:=by
 refine eN hP GJ ⟨?_⟩;rw [qx hn (by omega)];refine ah.dR ?_ ?_
 ·exact ⟨by omega,by omega⟩
 rw [show 0+bH (some ((f.stack.length - n:Nat):Int))=f.stack.length - n by simp [bH],show ct f.stack.length (some ((f.stack.length - n:Nat):Int)) none=n by simp only [ct,eA,bH];omega];refine gG ⟨gN ?_ ⟨?_⟩⟩
 ·simp only [Sh.len];omega
 refine ah.dR ?_ ?_
 ·exact ⟨by omega,by omega⟩
 rw [show 0+bH none=0 from rfl,show ct f.stack.length none (some ((f.stack.length - n:Nat):Int))=f.stack.length - n by simp only [ct,eA,bH];omega];refine gG ⟨lW ⟨⟨rfl,rfl,rfl,rfl,trivial⟩,?_⟩⟩;simp only [Sh.len];rw [lx,Frm.top,List.map_drop,aq,ae (i:=n) (by simp;omega),dG,ae (by simp;omega)]
omit hP in
theorem mZ {α:Type} {enc:α->List D} {l:List α} {v:α} {m:Nat} {vr:List D} (hm:m=n+1) (hn:n<=l.length) (hv:vr=enc v):List.take m (List.drop 0 (List.take n (List.drop 0 ([]++List.take n (List.drop 0 (l.map enc))))++[vr]))=(l.take n++[v]).map enc:=by
 rw [dG,aq (l:=List.take n _),List.take_take,Nat.min_self];exact jG hm hn hv
theorem Es (m:bI) (v:Val) (hf:Fits m.fs):Fn C 187 [.ptr 0 0 0,v.v] [m.enc] (.tup []) [some (m.throw v).enc]:=by
 obtain ⟨fs0,st,vl,us⟩:=m;refine eN hP yf ⟨gW (fun l:List Frm=>l.length) (fun l=>Fits l/\iI v l=iI v fs0) (fun l=>[(0,.ptr 0 0 0),(3,.ptr 1 0 0)]) (fun l=>[(0,(⟨l,st,vl,us⟩:bI).enc),(1,.st (v.enc.map .d))]) 2 ?_ fs0 ⟨hf,rfl⟩⟩;refine fun fs ⟨⟨h6,hfs⟩,hR⟩ ih=>⟨?_⟩
 cases fs with
 | nil =>
  refine gX ⟨lW ⟨⟨?_,trivial⟩,rfl⟩⟩;(conv=>lhs;whnf);unfold bI.throw;rw [<- hR];rfl
 | cons f l =>
  obtain ⟨hs1,hs2,hs3⟩:=hfs f (by simp);rw [bu];refine gY ⟨?_⟩ (by simp);have hW:IntKind.i64.wrap ((((⟨f::l,st,vl,us⟩:bI).fs.length:Nat):Int) - 1)=((l.length:Nat):Int):=by
   rw [eo (n:=(f::l).length) (by simp) (by simp only [aT];simp at h6;omega)];simp
  rw [hW];refine ah.dR ?_ ?_
  ·exact ⟨by omega,by simp only [aT];omega⟩
  rw [show 0+((l.length:Nat):Int).toNat=l.length by simp];refine gG ⟨?_⟩;repeat' (first | refine gN (by simp [ew]) ⟨?_⟩ | fail)
  refine gD (aE f l) ⟨?_⟩;rw [aJ,aJ];rcases List.eq_nil_or_concat f.tries with ht | ⟨ts,t,ht⟩
  ·rw [show f.tries.length=0 by rw [ht];rfl];refine gX ⟨gD (aE f l) ⟨?_⟩⟩;rw [hW];refine gN ?_ ⟨?_⟩
   ·exact ⟨by omega,by simp only [aT];omega⟩
   repeat' (first | refine gN (by simp [ew]) ⟨?_⟩ | fail)
   have hrow:List.take l.length (List.drop 0 ((a7 (f::l)).set l.length [.int .i64 f.fn,.int .i64 f.pc,.own false 3 (f.aL.map Val.enc),.own false 3 (List.take f.stack.length (List.drop 0 (f.stack.map Val.enc))),.own false 2 (List.take 0 (List.drop 0 (f.tries.map tryD)))]))=a7 l:=by
    rw [show [D.int .i64 f.fn,.int .i64 f.pc,.own false 3 (f.aL.map Val.enc),.own false 3 (List.take f.stack.length (List.drop 0 (f.stack.map Val.enc))),.own false 2 (List.take 0 (List.drop 0 (f.tries.map tryD)))]=f.enc by
     rw [Frm.enc,aq,ae (by simp),ht];rfl]
    rw [fG];exact j5 f l
   refine (ih l ⟨⟨by simp at h6;omega,fun g hg=>hfs g (aM _ hg)⟩,?_⟩ (by simp)).to rfl (congrArg (fun R=>[(0,O.st [V.own true 5 R,.d (.int .i64 st),.d (.int .i64 vl.kind),.d (.int .i64 vl.n),.d (.str vl.t),.d (.int .i64 us)]),(1,O.st (v.enc.map .d))]) hrow);rw [<- hR,iI,ht];rfl
  ·have htl:f.tries.length=ts.length+1:=by rw [ht];simp
   rw [htl];refine gY ⟨?_⟩ (by simp);have ht2:t.2<=f.stack.length:=by have:=hs3 t (by rw [ht];simp);omega
   have hrt:(f.tries.map tryD)[0+(((ts.length+1 - 1:Nat):Int)).toNat]?=some (tryD t):=by rw [ht];simp
   have hsub:ct f.stack.length none (some (t.2:Int))=t.2:=by simp only [ct,eA,bH];omega
   rw [eo (n:=ts.length+1) (by omega) (by omega)];refine gN ?_ ⟨?_⟩
   ·omega
   refine gD hrt ⟨?_⟩;rw [eo (n:=ts.length+1) (by omega) (by omega)];refine gN ?_ ⟨?_⟩
   ·exact ⟨by omega,by omega⟩
   refine gN ?_ ⟨?_⟩
   ·exact ⟨by omega,by omega⟩
   refine gN ?_ ⟨?_⟩
   ·simp only [Sh.len];rw [hsub];omega
   refine gN ?_ ⟨?_⟩
   ·simp only [Sh.len,aU];rw [hsub];omega
   repeat' (first | refine gN (by simp [ew]) ⟨?_⟩ | fail)
   refine gD (aE f l) ⟨?_⟩;have hres:bI.throw v ⟨fs0,st,vl,us⟩=⟨{f with tries:=ts,stack:=f.stack.take t.2++[v],pc:=t.1}::l,st,vl,us⟩:=by
    unfold bI.throw;simp only;rw [<- hR,iI,ht];simp
   refine lW ⟨⟨?_,trivial⟩,rfl⟩;rw [hres];(conv=>lhs;whnf);refine congrArg (fun R=>some (O.st [V.own true 5 R,.d (.int .i64 st),.d (.int .i64 vl.kind),.d (.int .i64 vl.n),.d (.str vl.t),.d (.int .i64 us)])) (cB rfl ?_);simp only [Sh.len];rw [hsub];refine dw rfl rfl rfl (mZ rfl ht2 rfl) ?_;rw [show ct (ts.length+1) none (some ((ts.length+1 - 1:Nat):Int))=ts.length by simp only [ct,eA,bH];omega];refine kH.trans ?_;rw [ht];simp
theorem zN (m:bI) (v:Val) (code:Int) (hf:Fits m.fs) (h0:m.fs≠[]):Fn C 130 [.ptr 0 0 0,v.v,.d (.int .i64 code)] [m.enc] (.tup []) [some (m.made (v,code)).enc]:=by
 have c58:=FU hP code;have c99:=k93 hP (eC code);have yg:=Es hP m (j0 code) hf;obtain ⟨fs,st,vl,us⟩:=m;by_cases hc:code=0
 ·subst hc;cases fs with
  | nil=>exact absurd rfl h0
  | cons f l =>
   obtain ⟨h6,hs1,hs2⟩:=hf.cons;refine eN hP c130 ⟨gX ⟨?_⟩⟩;rw [bu];have hW:IntKind.i64.wrap ((((⟨f::l,st,vl,us⟩:bI).fs.length:Nat):Int) - 1)=((l.length:Nat):Int):=by
    rw [eo (n:=(f::l).length) (by simp) (by simp only [aT];omega)];simp
   rw [hW];refine ah.dR ?_ ?_
   ·exact ⟨by omega,by simp only [aT];omega⟩
   rw [show 0+((l.length:Nat):Int).toNat=l.length by simp];refine gG ⟨?_⟩;repeat' (first | refine gN (by simp [ew]) ⟨?_⟩ | fail)
   refine gD (aE f l) ⟨?_⟩;rw [aJ];refine gN ?_ ⟨?_⟩
   ·simp only [Sh.len];omega
   refine gN ?_ ⟨?_⟩
   ·simp only [Sh.len,aU];omega
   repeat' (first | refine gN (by simp [ew]) ⟨?_⟩ | fail)
   refine gD (aE f l) ⟨lW ⟨⟨?_,trivial⟩,rfl⟩⟩;rw [show bI.made (v,0) ⟨f::l,st,vl,us⟩=⟨{f with stack:=f.stack++[v]}::l,st,vl,us⟩ from rfl];(conv=>lhs;whnf);refine congrArg (fun R=>some (O.st [V.own true 5 R,.d (.int .i64 st),.d (.int .i64 vl.kind),.d (.int .i64 vl.n),.d (.str vl.t),.d (.int .i64 us)])) (cB rfl ?_);simp only [Sh.len];refine dw rfl rfl rfl ((mZ rfl (al _) rfl).trans ?_) rfl;rw [b8]
 ·have hm:bI.made (v,code) ⟨fs,st,vl,us⟩=bI.throw (j0 code) ⟨fs,st,vl,us⟩:=by unfold bI.made;rw [aj hc]
  rw [hm];exact eN hP c130 ⟨gY ⟨gO c58 ⟨gO c99 ⟨gC [0] yg ⟨lW ⟨⟨rfl,trivial⟩,rfl⟩⟩⟩⟩⟩ (by simpa using hc)⟩
theorem k92 (P:List Fc) (fc:Fc) (j sl:Nat) (args:List Val) (hj:P[j]?=some fc) (hs:fc.aL=sl) (hl:sl<=1000) (ha:args.length<=sl):Fn C 92 [.agg [.d (.imm 4 (P.map Fc.enc))],.d (.int .i64 j),.d (lx args)] [] (.agg [.d (.int .i64 j),.d (.int .i64 0),.arr 0 0 sl,.d .nil,.d .nil]) [some (.da 3 ((cC sl j args).aL.map Val.enc))]:=by
 have hr:(P.map Fc.enc)[((j:Nat):Int).toNat]?=some fc.enc:=by simp [hj]
 refine eN hP c92 ⟨gD hr ⟨?_⟩⟩;rw [hs];refine gN ?_ ⟨?_⟩
 ·exact ⟨by omega,by omega⟩
 have start:b4 C 0 [(6,some (some 5))] (fun v1 os1=>v1=V.agg [V.d (D.int IntKind.i64 j),V.d (D.int IntKind.i64 0),V.arr 0 0 sl,V.d D.nil,V.d D.nil]/\os1=[some (O.da 3 (List.map Val.enc (cC sl j args).aL))])
   (Cfg.eF c92.l 0 [(2,.d (lx args)),(6,.ptr 0 0 0),(7,.ptr 1 0 0),(8,.d (.int .i64 0))] [(0,.st [.d (.int .i64 0),.d (.int .i64 0),.d .nil,.d .nil,.d .nil]),(1,.st [.d (.int .i64 j),.d (.int .i64 0),.arr 2 0 sl,.d .nil,.d .nil]),(2,.da 3 ((List.replicate sl bO).map Val.enc))] 3):=by
  refine ah.to (ah.loop (fun k:Nat=>args.length - k) (fun k=>k<=args.length) (fun k=>[(2,.d (lx args)),(6,.ptr 0 0 0),(7,.ptr 1 0 0),(8,.d (.int .i64 (k:Nat)))])
   (fun k=>[(0,.st [.d (.int .i64 0),.d (.int .i64 0),.d .nil,.d .nil,.d .nil]),(1,.st [.d (.int .i64 j),.d (.int .i64 0),.arr 2 0 sl,.d .nil,.d .nil]),(2,.da 3 ((args.take k++List.replicate (sl - k) bO).map Val.enc))]) 3 ?_ 0 (by omega)) rfl rfl
  intro k hk ih;refine gG ⟨?_⟩;rw [aJ];refine gP (fun h=>⟨?_⟩) fun h=>⟨?_⟩
  ·have hlt:k < args.length:=by simpa using h
   have hra:(args.map Val.enc)[((k:Nat):Int).toNat]?=some args[k].enc:=by simp [aa hlt]
   have hrs:((args.take k++List.replicate (sl - k) bO).map Val.enc)[0+((k:Nat):Int).toNat]?=some bO.enc:=by
    have e:args.take k++List.replicate (sl - k) bO=args.take k++bO::List.replicate (sl - (k+1)) bO:=by
     rw [show sl - k=(sl - (k+1))+1 by omega,List.replicate_succ]
    have hkl:k=(args.take k).length:=by rw [bh];omega
    rw [e,fa,aW,bt,cx (by simp;omega)];simp [show k - min k args.length=0 by omega]
   have hset:(((args.take k++List.replicate (sl - k) bO).map Val.enc).set (0+((k:Nat):Int).toNat) args[k].enc)=(args.take (k+1)++List.replicate (sl - (k+1)) bO).map Val.enc:=by
    have e:args.take k++List.replicate (sl - k) bO=args.take k++bO::List.replicate (sl - (k+1)) bO:=by
     rw [show sl - k=(sl - (k+1))+1 by omega,List.replicate_succ]
    rw [e,aW,bt,<- List.map_set,List.set_append_right _ _ (by rw [bh];omega),show k - (args.take k).length=0 by rw [bh];omega,List.set_cons_zero,aG hlt,e8];rfl
   generalize args[k]=x at hra hset;refine gD hra ⟨gN ?_ ⟨?_⟩⟩
   ·omega
   refine gD hrs ⟨?_⟩;repeat' (first | refine gN (by simp [ew]) ⟨?_⟩ | fail)
   rw [aC (by omega)];exact (ih (k+1) hlt (by omega)).to rfl (congrArg (fun R=>[(0,O.st [V.d (.int .i64 0),.d (.int .i64 0),.d .nil,.d .nil,.d .nil]),(1,O.st [V.d (.int .i64 j),.d (.int .i64 0),.arr 2 0 sl,.d .nil,.d .nil]),(2,O.da 3 R)]) hset)
  ·have hge:args.length<=k:=by simpa using h
   obtain rfl:k=args.length:=by omega
   refine ah.aD (os':=[some (.da 3 ((cC sl j args).aL.map Val.enc))]) [2,0] trivial rfl rfl ⟨?_,trivial⟩ ?_
   ·(conv=>lhs;whnf);rw [b8];rfl
   ·(conv=>whnf);exact ⟨rfl,rfl⟩
 exact start.to rfl (congrArg (fun R=>[(0,O.st [V.d (.int .i64 0),.d (.int .i64 0),.d .nil,.d .nil,.d .nil]),(1,O.st [V.d (.int .i64 j),.d (.int .i64 0),.arr 2 0 sl,.d .nil,.d .nil]),(2,O.da 3 R)]) (by rw [List.map_replicate];rfl))
end
section
variable {C:Ctx} (hP:C.P=Tryz.prog)
include hP
theorem CS {fn:Nat} {args:List V} {v:V} (m:bI) (f0 f:Frm) (l:List Frm) (m':bI) (hcall:km C.P fn) (hb:j9 1 args=true) (hx:∀ nx,args=j2 [0] 1 nx args) (hv:∀ nx,v.nO [0] 1 nx=v) (hvb:v.vj 1=true) (hc:Fn C fn args [({m with fs:=f::l}:bI).enc] v [some m'.enc]) :
  Fn C fn args [m.wV (l.length+1),.rest 5 (a7 (f0::l)) l.length 0 5 2,f.o] v [some m'.enc,none,none]:=by
 obtain ⟨fs,st,vl,us⟩:=m;refine Fn.pre [0,2] (fun i hi=>?_) [(some 1,.inn (.t 1)),(none,.cls (.t 0) 0 5 true)] rfl hcall ?_
 ·simp only [aQ,List.not_mem_nil,or_false] at hi;rcases hi with rfl | rfl<;>exact ⟨_,rfl⟩
 ·(conv=>whnf);refine ⟨trivial,f0.enc,_,aE f0 l,rfl,?_⟩;(conv=>whnf);have hrow:List.take (l.length+1) (List.drop 0 ((a7 (f0::l)).set l.length [.int .i64 f.fn,.int .i64 f.pc,.own false 3 (List.map Val.enc f.aL),.own false 3 (f.stack.map Val.enc),.own false 2 (f.tries.map tryD)]))=a7 (f::l) :=
   cB rfl (dw rfl rfl rfl rfl rfl)
  refine ⟨⟨v.nO [0] 1 _,dQ [0] 1 _ 0 [some m'.enc],0,[0].zip (gp [0] 1 _ [({fs:=f::l,state:=st,val:=vl,used:=us}:bI).enc])⟩,⟨⟨args,[0],[({fs:=f::l,state:=st,val:=vl,used:=us}:bI).enc],v,[some m'.enc],hc,rfl,al _,rfl,hx _,?_,?_,rfl,rfl,rfl,rfl⟩⟩,hv _,?_⟩
  ·exact congrArg (fun R=>some [O.st [V.own true 5 R,.d (.int .i64 st),.d (.int .i64 vl.kind),.d (.int .i64 vl.n),.d (.str vl.t),.d (.int .i64 us)]]) hrow
  ·show (j9 1 args&&true&&v.vj 1&&true)=true;rw [hb,hvb];rfl
  ·intro i y hy
   match i,hy with
   | 0,hy=>cases hy;rfl
   | 1,hy=>cases hy
   | 2,hy=>cases hy
   | i+3,hy=>simp at hy
omit hP in
theorem lr {f:Frm} (h:k < n) (hn:n<=f.stack.length):((f.top n).map Val.enc)[((k:Nat):Int).toNat]?=some (arg (f.stack.drop (f.stack.length - n)) k).enc:=by
 have hkl:k < (f.top n).length:=by simp only [Frm.top,bD];omega
 simp only [bt,bf,aa hkl,aS,arg,bc];rw [show (f.stack.drop (f.stack.length - n))[k]?=some (f.top n)[k] from aa hkl];rfl
theorem F7 (P:List Fc) (m:bI) (f:Frm) (l:List Frm) (hfs:m.fs=f::l) (hf:Fits m.fs) (h1:1<=f.stack.length):Fn C 136 [.agg [.d (.imm 4 (P.map Fc.enc))],.ptr 0 0 0,.ptr 1 l.length 0,(iOp 13 0 0 []).v] [m.wV (l.length+1),.oa 5 (a7 (f::l))] (.tup []) [some (({m with fs:=f.pop 1::l}:bI).throw (arg (f.stack.drop (f.stack.length - 1)) 0)).enc,none]:=by
 obtain ⟨fs,st,vl,us⟩:=m;have hfs:fs=f::l:=hfs;subst hfs;obtain ⟨h6,hs1,_⟩:=hf.cons;have c131:=mL hP f 1 h1 hs1;have hrow:=lr (f:=f) (n:=1) (k:=0) (by omega) h1;have hfit:=hf.pop 1;generalize arg (f.stack.drop (f.stack.length - 1)) 0=v at hrow ⊢;generalize f.pop 1=g at c131 hfit ⊢;have yf:=Es hP ⟨g::l,st,vl,us⟩ v hfit;refine eN hP vi ⟨gD (aE f l) ⟨?_⟩⟩
 (repeat' (first | refine gY ⟨?_⟩ | refine gX ⟨?_⟩ | fail))
 exact gC [4] c131 ⟨gD hrow ⟨gC [0,1,4] (CS hP ⟨f::l,st,vl,us⟩ f g l _ yf.1 rfl (fun _=>rfl) (fun _=>rfl) rfl yf) ⟨lW ⟨⟨rfl,trivial⟩,rfl⟩⟩⟩⟩
theorem F9 (P:List Fc) (m:bI) (f:Frm) (l:List Frm) (hfs:m.fs=f::l) (hf:Fits m.fs) (fc:Fc) (j nk sl:Nat) (hj:P[j]?=some fc) (hsl:fc.aL=sl) (hs2:sl<=1000) (hn:nk<=f.stack.length) (hns:nk<=sl) :
  Fn C 136 [.agg [.d (.imm 4 (P.map Fc.enc))],.ptr 0 0 0,.ptr 1 l.length 0,(iOp 10 j nk []).v] [m.wV (l.length+1),.oa 5 (a7 (f::l))] (.tup []) [some (if l.length+1=6 then ({m with fs:=f.pop nk::l}:bI).throw (j0 9) else {m with fs:=cC sl j (f.top nk)::f.pop nk::l}).enc,none]:=by
 obtain ⟨fs,st,vl,us⟩:=m;have hfs:fs=f::l:=hfs;subst hfs;obtain ⟨h6,hs1,_⟩:=hf.cons;have c131:=mL hP f nk hn hs1;have c58:=FU hP 9;have c99:=k93 hP (eC 9);have yf:=Es hP ⟨f.pop nk::l,st,vl,us⟩ (j0 9) (hf.pop nk);have c92:=k92 hP P fc j sl (f.top nk) hj hsl hs2 (by simp only [Frm.top,bD];omega);generalize hg:f.pop nk=g at c131 yf ⊢;refine eN hP vi ⟨gD (aE f l) ⟨?_⟩⟩
 (repeat' (first | refine gY ⟨?_⟩ | refine gX ⟨?_⟩ | fail))
 refine gC [4] c131 ⟨?_⟩;have hrow:(a7 (f::l)).set l.length [.int .i64 g.fn,.int .i64 g.pc,.own false 3 (List.map Val.enc g.aL),.own false 3 (g.stack.map Val.enc),.own false 2 (g.tries.map tryD)]=a7 (g::l):=fG f g l;by_cases h66:l.length+1=6
 ·rw [aj h66];exact gY ⟨gD (aE f l) ⟨gO c58 ⟨gO c99 ⟨gC [0] yf ⟨lW ⟨⟨rfl,trivial⟩,rfl⟩⟩ rfl rfl (congrArg (fun R=>some [O.st [V.own true 5 R,.d (.int .i64 st),.d (.int .i64 vl.kind),.d (.int .i64 vl.n),.d (.str vl.t),.d (.int .i64 us)]]) (cB rfl (dw rfl rfl rfl rfl rfl)))⟩⟩⟩⟩ (by simp;omega)
 ·rw [ab h66];refine gX ⟨gD (aE f l) ⟨gN ?_ ⟨?_⟩⟩⟩ (by simp;omega)
  ·refine ⟨?_,by omega⟩;rw [List.length_set,bu];simp
  refine gO c92 ⟨gN ?_ ⟨?_⟩⟩
  ·omega
  repeat' (first | refine gN (by simp [ew]) ⟨?_⟩ | fail)
  have hfin:List.take (l.length+1+1) (List.drop 0 (List.take (l.length+1) (List.drop 0 ((a7 (f::l)).set l.length [.int .i64 g.fn,.int .i64 g.pc,.own false 3 (List.map Val.enc g.aL),.own false 3 (g.stack.map Val.enc),.own false 2 (g.tries.map tryD)])) ++
    [[D.int .i64 (j:Nat),.int .i64 0,.own false 3 (List.take sl (List.drop 0 (List.map Val.enc (cC sl j (f.top nk)).aL))),.own false 3 [],.own false 2 []]]))=a7 (cC sl j (f.top nk)::g::l):=by
   rw [hrow,show [D.int .i64 (j:Nat),.int .i64 0,.own false 3 (List.take sl (List.drop 0 (List.map Val.enc (cC sl j (f.top nk)).aL))),.own false 3 [],.own false 2 []]=(cC sl j (f.top nk)).enc from
    dw rfl rfl (je (by simp only [cC,Frm.top,aH,List.length_replicate,bD];omega)) rfl rfl]
   rw [aq,aq,ae (l:=a7 (g::l)) (by rw [bu];simp),ae (by rw [aH,bu];simp),<- ia]
  refine lW ⟨⟨?_,trivial⟩,rfl⟩;(conv=>lhs;whnf);exact congrArg (fun R=>some (O.st [V.own true 5 R,.d (.int .i64 st),.d (.int .i64 vl.kind),.d (.int .i64 vl.n),.d (.str vl.t),.d (.int .i64 us)])) hfin
theorem F8 (P:List Fc) (m:bI) (f:Frm) (l:List Frm) (hfs:m.fs=f::l) (hf:Fits m.fs) (h1:1<=f.stack.length):Fn C 136 [.agg [.d (.imm 4 (P.map Fc.enc))],.ptr 0 0 0,.ptr 1 l.length 0,(iOp 12 0 0 []).v] [m.wV (l.length+1),.oa 5 (a7 (f::l))] (.tup []) [some (({m with fs:=f.pop 1::l}:bI).sD (arg (f.stack.drop (f.stack.length - 1)) 0)).enc,none]:=by
 obtain ⟨fs,st,vl,us⟩:=m;have hfs:fs=f::l:=hfs;subst hfs;obtain ⟨h6,hs1,_⟩:=hf.cons;have c131:=mL hP f 1 h1 hs1;have hrow:=lr (f:=f) (n:=1) (k:=0) (by omega) h1;have hfit:=hf.pop 1;generalize arg (f.stack.drop (f.stack.length - 1)) 0=v at hrow ⊢;generalize f.pop 1=g at c131 hfit ⊢;have hset:(a7 (f::l)).set l.length [.int .i64 g.fn,.int .i64 g.pc,.own false 3 (List.map Val.enc g.aL),.own false 3 (g.stack.map Val.enc),.own false 2 (g.tries.map tryD)]=a7 (g::l):=fG f g l;refine eN hP vi ⟨gD (aE f l) ⟨?_⟩⟩
 (repeat' (first | refine gY ⟨?_⟩ | refine gX ⟨?_⟩ | fail))
 refine gC [4] c131 ⟨gD hrow ⟨gD (aE f l) ⟨?_⟩⟩⟩;rw [eo (n:=l.length+1) (by omega) (by omega),hset];refine gN ?_ ⟨?_⟩
 ·exact ⟨by omega,by omega⟩
 repeat' (first | refine gN (by simp [ew]) ⟨?_⟩ | fail)
 rw [show ct (l.length+1) none (some ((l.length+1 - 1:Nat):Int))=l.length by simp only [ct,eA,bH];omega,show 0+bH none=0 from rfl,aq,j5,bu];cases l with
 | nil =>
  exact gY ⟨lW ⟨⟨rfl,trivial⟩,rfl⟩⟩
 | cons h r =>
  have hfit2:Fits (h::r):=⟨by have:=hf.1;simp at this ⊢;omega,fun q hq=>hf.2 q (aM _ hq)⟩
  have c130:=zN hP ⟨h::r,st,vl,us⟩ v 0 hfit2 (by simp);refine gX ⟨?_⟩ (by simp;omega);exact gC [0] c130 ⟨lW ⟨⟨rfl,trivial⟩,rfl⟩⟩ rfl rfl (congrArg (fun R=>some [O.st [V.own true 5 R,.d (.int .i64 st),.d (.int .i64 vl.kind),.d (.int .i64 vl.n),.d (.str vl.t),.d (.int .i64 us)]]) (show List.take (h::r).length (List.drop 0 (a7 (h::r)))=a7 (h::r) by rw [aq,ae (by rw [bu];exact al _)]))
end
end Go.Proofs.YtggoiofammbchaaGreatDoor.Loc
