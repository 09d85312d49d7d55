/- Part 18 of a chain that ends in the statement named in GOCLAIM.json; no condition. -/
import Derived.Test.YtggoiofammbchaaGreatDoorK17
set_option maxRecDepth 100000
set_option maxHeartbeats 2000000
set_option linter.all false
namespace Go.Proofs.YtggoiofammbchaaGreatDoor.Loc
open Go
section
variable {C:Ctx} (hP:C.P=Tryz.prog)
include hP
theorem C1 (f:List Int) (hfl:f.length<=1073741000) (hnd:f.Nodup) (ns:List Nd) (root:Int) (rd:Nd) (h0r:0<=root) (hrd:ns[root.toNat]?=some rd) (us:List Tr) (hus:dx ns us rd.kids) (hul:us.length<=1073741824) (hf:∀ t,0<=iA us t->iA us t∈f)
  (ix kind n:Int) (text:List UInt8) (names:List (List UInt8)) (ts:List Tr) (hall:∀ t∈ts,gv C f ns root us t) (hall2:∀ t∈ts,∀ u∈t.kids,gv C f ns root us u):gv C f ns root us (.mk ix kind n text names ts):=by
 intro s c k hsub hwf h1 h2 ho;obtain ⟨hki,kids,h0,hnk,hsubs⟩:=hsub;subst hki;obtain ⟨hsh,hws⟩:=hwf;have hsh:=hsh.2.2;simp only [Tr.sz] at h1 h2;have hlz:=fC ts;have htl:=eP hsubs;by_cases q1:kind=1
 ·subst q1;obtain ⟨rfl,hx⟩:ts=[]/\True:=by
   simp at hsh;exact ⟨hsh.1,trivial⟩
  obtain rfl:kids=[]:=by simpa using htl.symm
  rw [show ((Tr.mk k 1 n text names []).gen au (clS us f) ⟨s.names,c⟩).code=c++[fN (iH n)] by rw [Tr.gen];rfl];refine ⟨s,?_,?_⟩;rotate_left
  ·rw [Tr.walk];exact (dm (aA us) 1 text 0 k s).symm
  refine eN hP mN ⟨?_⟩;refine gD (bM hnk) ⟨?_⟩ h0
  (repeat' (first | refine gY ⟨?_⟩ | refine gX ⟨?_⟩ | fail))
  refine gO (rr hP n) ⟨?_⟩;refine gC [0,1] (Bu hP f c s ns root (iH n) (by omega)) ⟨?_⟩;exact lW ⟨⟨rfl,rfl,trivial⟩,rfl⟩
 by_cases q2:kind=2
 ·subst q2;obtain ⟨rfl,hx⟩:ts=[]/\True:=by
   simp at hsh;exact ⟨hsh,trivial⟩
  obtain rfl:kids=[]:=by simpa using htl.symm
  rw [show ((Tr.mk k 2 n text names []).gen au (clS us f) ⟨s.names,c⟩).code=c++[fN (dH text)] by rw [Tr.gen];rfl];refine ⟨s,?_,?_⟩;rotate_left
  ·rw [Tr.walk];exact (dm (aA us) 2 text 0 k s).symm
  refine eN hP mN ⟨?_⟩;refine gD (bM hnk) ⟨?_⟩ h0
  (repeat' (first | refine gY ⟨?_⟩ | refine gX ⟨?_⟩ | fail))
  refine gO (k93 hP text) ⟨?_⟩;refine gC [0,1] (Bu hP f c s ns root (dH text) (by omega)) ⟨?_⟩;exact lW ⟨⟨rfl,rfl,trivial⟩,rfl⟩
 by_cases q3:kind=3
 ·subst q3;obtain ⟨rfl,hx⟩:ts=[]/\True:=by
   simp at hsh;exact ⟨hsh,trivial⟩
  obtain rfl:kids=[]:=by simpa using htl.symm
  rw [show ((Tr.mk k 3 n text names []).gen au (clS us f) ⟨s.names,c⟩).code=c++[fN (iW (decide (n=1)))] by rw [Tr.gen];rfl];refine ⟨s,?_,?_⟩;rotate_left
  ·rw [Tr.walk];exact (dm (aA us) 3 text 0 k s).symm
  refine eN hP mN ⟨?_⟩;refine gD (bM hnk) ⟨?_⟩ h0
  (repeat' (first | refine gY ⟨?_⟩ | refine gX ⟨?_⟩ | fail))
  refine gO (Ev hP (decide (n=1))) ⟨?_⟩;refine gC [0,1] (Bu hP f c s ns root (iW (decide (n=1))) (by omega)) ⟨?_⟩;exact lW ⟨⟨rfl,rfl,trivial⟩,rfl⟩
 by_cases q4:kind=4
 ·subst q4;obtain ⟨rfl,hx⟩:ts=[]/\True:=by
   simp at hsh;exact ⟨hsh,trivial⟩
  obtain rfl:kids=[]:=by simpa using htl.symm
  rw [show ((Tr.mk k 4 n text names []).gen au (clS us f) ⟨s.names,c⟩).code=c++[fN bO] by rw [Tr.gen];rfl];refine ⟨s,?_,?_⟩;rotate_left
  ·rw [Tr.walk];exact (dm (aA us) 4 text 0 k s).symm
  refine eN hP mN ⟨?_⟩;refine gD (bM hnk) ⟨?_⟩ h0
  (repeat' (first | refine gY ⟨?_⟩ | refine gX ⟨?_⟩ | fail))
  refine gC [0,1] (Bu hP f c s ns root (bO) (by omega)) ⟨?_⟩;exact lW ⟨⟨rfl,rfl,trivial⟩,rfl⟩
 by_cases q5:kind=5
 ·subst q5;obtain ⟨rfl,hx⟩:ts=[]/\True:=by
   simp at hsh;exact ⟨hsh,trivial⟩
  obtain rfl:kids=[]:=by simpa using htl.symm
  rw [show ((Tr.mk k 5 n text names []).gen au (clS us f) ⟨s.names,c⟩).code=c++[iOp 2 (au s.names text) 0 []] by rw [Tr.gen];rfl];refine ⟨s,?_,?_⟩;rotate_left
  ·rw [Tr.walk];exact (dm (aA us) 5 text 0 k s).symm
  refine eN hP mN ⟨?_⟩;refine gD (bM hnk) ⟨?_⟩ h0
  (repeat' (first | refine gY ⟨?_⟩ | refine gX ⟨?_⟩ | fail))
  refine gC [1] (zL hP s ns root text (by omega)) ⟨?_⟩;refine gC [0,1] (jP hP f c s ns root (iOp 2 (au s.names text) 0 []) (by omega)) ⟨?_⟩;exact lW ⟨⟨rfl,rfl,trivial⟩,rfl⟩
 by_cases q6:kind=6
 ·subst q6;obtain ⟨s1,f1,S1⟩:=uU hP f ns root us ⟨6,n,text,names,kids⟩ ts hall hsubs hws s c (by omega) (by omega) ho;have gn:=dv (aA us) au (clS us f) ts ⟨s.names,c⟩ s hws rfl;have gg:=(eu au (clS us f) ts ⟨s.names,c⟩).2;have wk:=b5 (aA us) ts s;have wl:=wk.len;have n1:s1.names.length=(walks (aA us) ts s).names.length:=by rw [S1.1]
  have o1:=S1.2.1;have o2:=wk.1;rw [show ((Tr.mk k 6 n text names ts).gen au (clS us f) ⟨s.names,c⟩)=(cX au (clS us f) ts ⟨s.names,c⟩).emit au (clS us f) 6 n text ts.length by rw [Tr.gen];rfl];have hnm:(cX au (clS us f) ts ⟨s.names,c⟩).names=s1.names:=by rw [gn,S1.1]
  generalize cX au (clS us f) ts ⟨s.names,c⟩=g1 at f1 gg gn hnm ⊢;simp only at gg;have hw2:dh s1 (walks (aA us) ts (s.meet (aA us) 6 text ts.length k)):=S1.trans (dM (aA us) ts _ _ (dm (aA us) 6 text ts.length k s).symm);rw [show (g1.emit au (clS us f) 6 n text ts.length).code=g1.code++[iOp 4 0 0 text] by rfl];refine ⟨s1,?_,?_⟩;rotate_left
  ·rw [Tr.walk];exact hw2
  refine eN hP mN ⟨?_⟩;refine gD (bM hnk) ⟨?_⟩ h0
  (repeat' (first | refine gY ⟨?_⟩ | refine gX ⟨?_⟩ | fail))
  refine gC [0,1] (f1) ⟨?_⟩;refine gC [0,1] (jP hP f g1.code s1 ns root (iOp 4 0 0 text) (by omega)) ⟨?_⟩;exact lW ⟨⟨rfl,rfl,trivial⟩,rfl⟩
 by_cases q7:kind=7
 ·subst q7;obtain ⟨s1,f1,S1⟩:=uU hP f ns root us ⟨7,n,text,names,kids⟩ ts hall hsubs hws s c (by omega) (by omega) ho;have gn:=dv (aA us) au (clS us f) ts ⟨s.names,c⟩ s hws rfl;have gg:=(eu au (clS us f) ts ⟨s.names,c⟩).2;have wk:=b5 (aA us) ts s;have wl:=wk.len;have n1:s1.names.length=(walks (aA us) ts s).names.length:=by rw [S1.1]
  have o1:=S1.2.1;have o2:=wk.1;rw [show ((Tr.mk k 7 n text names ts).gen au (clS us f) ⟨s.names,c⟩)=(cX au (clS us f) ts ⟨s.names,c⟩).emit au (clS us f) 7 n text ts.length by rw [Tr.gen];rfl];have hnm:(cX au (clS us f) ts ⟨s.names,c⟩).names=s1.names:=by rw [gn,S1.1]
  generalize cX au (clS us f) ts ⟨s.names,c⟩=g1 at f1 gg gn hnm ⊢;simp only at gg;have hw2:dh s1 (walks (aA us) ts (s.meet (aA us) 7 text ts.length k)):=S1.trans (dM (aA us) ts _ _ (dm (aA us) 7 text ts.length k s).symm);rw [show (g1.emit au (clS us f) 7 n text ts.length).code=g1.code++[iOp 5 0 0 text] by rfl];refine ⟨s1,?_,?_⟩;rotate_left
  ·rw [Tr.walk];exact hw2
  refine eN hP mN ⟨?_⟩;refine gD (bM hnk) ⟨?_⟩ h0
  (repeat' (first | refine gY ⟨?_⟩ | refine gX ⟨?_⟩ | fail))
  refine gC [0,1] (f1) ⟨?_⟩;refine gC [0,1] (jP hP f g1.code s1 ns root (iOp 5 0 0 text) (by omega)) ⟨?_⟩;exact lW ⟨⟨rfl,rfl,trivial⟩,rfl⟩
 by_cases q15:kind=15
 ·subst q15;obtain ⟨s1,f1,S1⟩:=uU hP f ns root us ⟨15,n,text,names,kids⟩ ts hall hsubs hws s c (by omega) (by omega) ho;have gn:=dv (aA us) au (clS us f) ts ⟨s.names,c⟩ s hws rfl;have gg:=(eu au (clS us f) ts ⟨s.names,c⟩).2;have wk:=b5 (aA us) ts s;have wl:=wk.len;have n1:s1.names.length=(walks (aA us) ts s).names.length:=by rw [S1.1]
  have o1:=S1.2.1;have o2:=wk.1;rw [show ((Tr.mk k 15 n text names ts).gen au (clS us f) ⟨s.names,c⟩)=(cX au (clS us f) ts ⟨s.names,c⟩).emit au (clS us f) 15 n text ts.length by rw [Tr.gen];rfl];have hnm:(cX au (clS us f) ts ⟨s.names,c⟩).names=s1.names:=by rw [gn,S1.1]
  generalize cX au (clS us f) ts ⟨s.names,c⟩=g1 at f1 gg gn hnm ⊢;simp only at gg;have hw2:dh s1 (walks (aA us) ts (s.meet (aA us) 15 text ts.length k)):=S1.trans (dM (aA us) ts _ _ (dm (aA us) 15 text ts.length k s).symm);rw [show (g1.emit au (clS us f) 15 n text ts.length).code=g1.code++[iOp 12 0 0 []] by rfl];refine ⟨s1,?_,?_⟩;rotate_left
  ·rw [Tr.walk];exact hw2
  refine eN hP mN ⟨?_⟩;refine gD (bM hnk) ⟨?_⟩ h0
  (repeat' (first | refine gY ⟨?_⟩ | refine gX ⟨?_⟩ | fail))
  refine gC [0,1] (f1) ⟨?_⟩;refine gC [0,1] (jP hP f g1.code s1 ns root (iOp 12 0 0 []) (by omega)) ⟨?_⟩;exact lW ⟨⟨rfl,rfl,trivial⟩,rfl⟩
 by_cases q16:kind=16
 ·subst q16;obtain ⟨s1,f1,S1⟩:=uU hP f ns root us ⟨16,n,text,names,kids⟩ ts hall hsubs hws s c (by omega) (by omega) ho;have gn:=dv (aA us) au (clS us f) ts ⟨s.names,c⟩ s hws rfl;have gg:=(eu au (clS us f) ts ⟨s.names,c⟩).2;have wk:=b5 (aA us) ts s;have wl:=wk.len;have n1:s1.names.length=(walks (aA us) ts s).names.length:=by rw [S1.1]
  have o1:=S1.2.1;have o2:=wk.1;rw [show ((Tr.mk k 16 n text names ts).gen au (clS us f) ⟨s.names,c⟩)=(cX au (clS us f) ts ⟨s.names,c⟩).emit au (clS us f) 16 n text ts.length by rw [Tr.gen];rfl];have hnm:(cX au (clS us f) ts ⟨s.names,c⟩).names=s1.names:=by rw [gn,S1.1]
  generalize cX au (clS us f) ts ⟨s.names,c⟩=g1 at f1 gg gn hnm ⊢;simp only at gg;have hw2:dh s1 (walks (aA us) ts (s.meet (aA us) 16 text ts.length k)):=S1.trans (dM (aA us) ts _ _ (dm (aA us) 16 text ts.length k s).symm);rw [show (g1.emit au (clS us f) 16 n text ts.length).code=g1.code++[iOp 13 0 0 []] by rfl];refine ⟨s1,?_,?_⟩;rotate_left
  ·rw [Tr.walk];exact hw2
  refine eN hP mN ⟨?_⟩;refine gD (bM hnk) ⟨?_⟩ h0
  (repeat' (first | refine gY ⟨?_⟩ | refine gX ⟨?_⟩ | fail))
  refine gC [0,1] (f1) ⟨?_⟩;refine gC [0,1] (jP hP f g1.code s1 ns root (iOp 13 0 0 []) (by omega)) ⟨?_⟩;exact lW ⟨⟨rfl,rfl,trivial⟩,rfl⟩
 by_cases q19:kind=19
 ·subst q19;obtain ⟨s1,f1,S1⟩:=uU hP f ns root us ⟨19,n,text,names,kids⟩ ts hall hsubs hws s c (by omega) (by omega) ho;have gn:=dv (aA us) au (clS us f) ts ⟨s.names,c⟩ s hws rfl;have gg:=(eu au (clS us f) ts ⟨s.names,c⟩).2;have wk:=b5 (aA us) ts s;have wl:=wk.len;have n1:s1.names.length=(walks (aA us) ts s).names.length:=by rw [S1.1]
  have o1:=S1.2.1;have o2:=wk.1;rw [show ((Tr.mk k 19 n text names ts).gen au (clS us f) ⟨s.names,c⟩)=(cX au (clS us f) ts ⟨s.names,c⟩).emit au (clS us f) 19 n text ts.length by rw [Tr.gen];rfl];have hnm:(cX au (clS us f) ts ⟨s.names,c⟩).names=s1.names:=by rw [gn,S1.1]
  generalize cX au (clS us f) ts ⟨s.names,c⟩=g1 at f1 gg gn hnm ⊢;simp only at gg;have hw2:dh s1 (walks (aA us) ts (s.meet (aA us) 19 text ts.length k)):=S1.trans (dM (aA us) ts _ _ (dm (aA us) 19 text ts.length k s).symm);rw [show (g1.emit au (clS us f) 19 n text ts.length).code=g1.code++[iOp 16 0 0 []] by rfl];refine ⟨s1,?_,?_⟩;rotate_left
  ·rw [Tr.walk];exact hw2
  refine eN hP mN ⟨?_⟩;refine gD (bM hnk) ⟨?_⟩ h0
  (repeat' (first | refine gY ⟨?_⟩ | refine gX ⟨?_⟩ | fail))
  refine gC [0,1] (f1) ⟨?_⟩;refine gC [0,1] (jP hP f g1.code s1 ns root (iOp 16 0 0 []) (by omega)) ⟨?_⟩;exact lW ⟨⟨rfl,rfl,trivial⟩,rfl⟩
 by_cases q12:kind=12
 ·subst q12;obtain ⟨s1,f1,S1⟩:=uU hP f ns root us ⟨12,n,text,names,kids⟩ ts hall hsubs hws s c (by omega) (by omega) ho;have gn:=dv (aA us) au (clS us f) ts ⟨s.names,c⟩ s hws rfl;have gg:=(eu au (clS us f) ts ⟨s.names,c⟩).2;have wk:=b5 (aA us) ts s;have wl:=wk.len;have n1:s1.names.length=(walks (aA us) ts s).names.length:=by rw [S1.1]
  have o1:=S1.2.1;have o2:=wk.1;rw [show ((Tr.mk k 12 n text names ts).gen au (clS us f) ⟨s.names,c⟩)=(cX au (clS us f) ts ⟨s.names,c⟩).emit au (clS us f) 12 n text ts.length by rw [Tr.gen];rfl];have hnm:(cX au (clS us f) ts ⟨s.names,c⟩).names=s1.names:=by rw [gn,S1.1]
  generalize cX au (clS us f) ts ⟨s.names,c⟩=g1 at f1 gg gn hnm ⊢;simp only at gg;have hw2:dh s1 (walks (aA us) ts (s.meet (aA us) 12 text ts.length k)):=S1.trans (dM (aA us) ts _ _ (dm (aA us) 12 text ts.length k s).symm);rw [show (g1.emit au (clS us f) 12 n text ts.length).code=g1.code++[iOp 3 (au s1.names text) 0 []] by rw [<- hnm];rfl];refine ⟨s1,?_,?_⟩;rotate_left
  ·rw [Tr.walk];exact hw2
  refine eN hP mN ⟨?_⟩;refine gD (bM hnk) ⟨?_⟩ h0
  (repeat' (first | refine gY ⟨?_⟩ | refine gX ⟨?_⟩ | fail))
  refine gC [0,1] (f1) ⟨?_⟩
  (repeat' (first | refine gY ⟨?_⟩ | refine gX ⟨?_⟩ | fail))
  refine gC [1] (zL hP s1 ns root text (by omega)) ⟨?_⟩;refine gC [0,1] (jP hP f g1.code s1 ns root (iOp 3 (au s1.names text) 0 []) (by omega)) ⟨?_⟩;exact lW ⟨⟨rfl,rfl,trivial⟩,rfl⟩
 by_cases q10:kind=10
 ·subst q10;obtain ⟨s1,f1,S1⟩:=uU hP f ns root us ⟨10,n,text,names,kids⟩ ts hall hsubs hws s c (by omega) (by omega) ho;have gn:=dv (aA us) au (clS us f) ts ⟨s.names,c⟩ s hws rfl;have gg:=(eu au (clS us f) ts ⟨s.names,c⟩).2;have wk:=b5 (aA us) ts s;have wl:=wk.len;have n1:s1.names.length=(walks (aA us) ts s).names.length:=by rw [S1.1]
  have o1:=S1.2.1;have o2:=wk.1;rw [show ((Tr.mk k 10 n text names ts).gen au (clS us f) ⟨s.names,c⟩)=(cX au (clS us f) ts ⟨s.names,c⟩).emit au (clS us f) 10 n text ts.length by rw [Tr.gen];rfl];have hnm:(cX au (clS us f) ts ⟨s.names,c⟩).names=s1.names:=by rw [gn,S1.1]
  generalize cX au (clS us f) ts ⟨s.names,c⟩=g1 at f1 gg gn hnm ⊢;simp only at gg;have hw2:dh s1 (walks (aA us) ts (s.meet (aA us) 10 text ts.length k)):=S1.trans (dM (aA us) ts _ _ (dm (aA us) 10 text ts.length k s).symm);rw [show (g1.emit au (clS us f) 10 n text ts.length).code=g1.code++[if 0<=clS us f text then iOp 10 (clS us f text+1) kids.length [] else iOp 11 kids.length 0 text] by rw [htl];rfl];refine ⟨s1,?_,?_⟩;rotate_left
  ·rw [Tr.walk];exact hw2
  refine eN hP mN ⟨?_⟩;refine gD (bM hnk) ⟨?_⟩ h0
  (repeat' (first | refine gY ⟨?_⟩ | refine gX ⟨?_⟩ | fail))
  refine gC [0,1] (f1) ⟨?_⟩;refine gC [0,1] (HG hP f hfl hnd g1.code s1 ns root rd h0r hrd us hus hul hf ⟨10,n,text,names,kids⟩ (by simp only;omega) (by omega)) ⟨?_⟩;exact lW ⟨⟨rfl,rfl,trivial⟩,rfl⟩
 by_cases q11:kind=11
 ·subst q11;obtain ⟨s1,f1,S1⟩:=uU hP f ns root us ⟨11,n,text,names,kids⟩ ts hall hsubs hws s c (by omega) (by omega) ho;have gn:=dv (aA us) au (clS us f) ts ⟨s.names,c⟩ s hws rfl;have gg:=(eu au (clS us f) ts ⟨s.names,c⟩).2;have wk:=b5 (aA us) ts s;have wl:=wk.len;have n1:s1.names.length=(walks (aA us) ts s).names.length:=by rw [S1.1]
  have o1:=S1.2.1;have o2:=wk.1;rw [show ((Tr.mk k 11 n text names ts).gen au (clS us f) ⟨s.names,c⟩)=(cX au (clS us f) ts ⟨s.names,c⟩).emit au (clS us f) 11 n text ts.length by rw [Tr.gen];rfl];have hnm:(cX au (clS us f) ts ⟨s.names,c⟩).names=s1.names:=by rw [gn,S1.1]
  generalize cX au (clS us f) ts ⟨s.names,c⟩=g1 at f1 gg gn hnm ⊢;simp only at gg;have hw2:dh s1 (walks (aA us) ts (s.meet (aA us) 11 text ts.length k)):=S1.trans (dM (aA us) ts _ _ (dm (aA us) 11 text ts.length k s).symm);rw [show (g1.emit au (clS us f) 11 n text ts.length).code=g1.code++[iOp 3 s1.names.length 0 []] by rw [<- hnm];rfl];have xj:=zM hP s1 ns root text k (by omega) (by omega);have hdn:(s1.declare text k).names=s1.names++[text]:=mQ text k s1;have vh:=zL hP (s1.declare text k) ns root text (by rw [hdn];simp;omega);rw [hdn,tg] at vh;refine ⟨s1.declare text k,?_,?_⟩;rotate_left
  ·rw [Tr.walk];exact ((gy _ _ _).trans (jW hw2 _ _)).trans (gy _ _ _).symm
  generalize s1.declare text k=s2 at xj vh ⊢;refine eN hP mN ⟨?_⟩;refine gD (bM hnk) ⟨?_⟩ h0
  (repeat' (first | refine gY ⟨?_⟩ | refine gX ⟨?_⟩ | fail))
  refine gC [0,1] (f1) ⟨?_⟩
  (repeat' (first | refine gY ⟨?_⟩ | refine gX ⟨?_⟩ | fail))
  refine gC [1] (xj) ⟨?_⟩;refine gC [1] (vh) ⟨?_⟩;refine gC [0,1] (jP hP f g1.code s2 ns root (iOp 3 s1.names.length 0 []) (by omega)) ⟨?_⟩;exact lW ⟨⟨rfl,rfl,trivial⟩,rfl⟩
 by_cases q8:kind=8
 ·subst q8;obtain ⟨a,b,rfl⟩:∃ a b,ts=[a,b]:=by
   simp at hsh;obtain ⟨a,b,h,_⟩:=hsh;exact ⟨a,b,h⟩
  match kids,hsubs with
  | [ka,kb],hsubs =>
  simp only [szs] at h1 h2;rw [show ((Tr.mk k 8 n text names [a,b]).gen au (clS us f) ⟨s.names,c⟩)=fE au (clS us f) 8 [a,b] ⟨s.names,c⟩ by rw [Tr.gen];rfl];simp only [fE,fI];obtain ⟨g1s,g1C,g1S,g1N,g1O,g1a,g1b,g1c,g1d⟩:=(hall a (by simp)).at (s) (⟨s.names,c⟩) ka rfl hsubs.1 hws.1 (by omega) (by simp only;omega) (by omega);generalize a.gen au (clS us f) (⟨s.names,c⟩)=g1 at g1C g1N g1c g1d ⊢;simp only at g1C g1c g1d;have g2C:=jP hP f (g1).code (g1s) ns root (iOp 8 0 0 []) (by omega);have g2N:((g1).put (iOp 8 0 0 [])).names=(g1s).names:=g1N;have g2l:=(eU (iOp 8 0 0 []) (g1)).1;rw [show (g1).code++[iOp 8 0 0 []]=((g1).put (iOp 8 0 0 [])).code from rfl] at g2C;generalize (g1).put (iOp 8 0 0 [])=g2 at g2C g2N g2l ⊢;obtain ⟨g3s,g3C,g3S,g3N,g3O,g3a,g3b,g3c,g3d⟩:=(hall b (by simp)).at (g1s) (g2) kb g2N hsubs.2.1 hws.2.1 (by omega) (by omega) (by omega);generalize b.gen au (clS us f) (g2)=g3 at g3C g3N g3c g3d ⊢;have g5C:=wA hP f (g3) (g3s) ns root (g1.code.length) (by omega) (by omega);have g5N:((g3).here (g1.code.length)).names=(g3s).names:=g3N;have g5l:=(fp (g1.code.length) (g3)).1;generalize (g3).here (g1.code.length)=g5 at g5C g5N g5l ⊢;refine ⟨g3s,?_,?_⟩;rotate_left
  ·rw [Tr.walk];exact g3S.trans (eJ (aA us) b _ _ (g1S.trans (eJ (aA us) a _ _ (dm (aA us) 8 text 2 k s).symm)))
  refine eN hP mN ⟨?_⟩;refine gD (bM hnk) ⟨?_⟩ h0
  (repeat' (first | refine gY ⟨?_⟩ | refine gX ⟨?_⟩ | fail))
  refine ah.exD (row:=[.int .i64 ka]) rfl (by omega) rfl ?_;refine gG ⟨?_⟩;refine gC [0,1] (g1C) ⟨?_⟩
  (repeat' (first | refine gY ⟨?_⟩ | refine gX ⟨?_⟩ | fail))
  refine gO (Eu hP _) ⟨?_⟩;refine gC [0,1] (g2C) ⟨?_⟩;refine ah.exD (row:=[.int .i64 kb]) rfl (by omega) rfl ?_;refine gG ⟨?_⟩;refine gC [0,1] (g3C) ⟨?_⟩;refine gC [0,1] (g5C) ⟨?_⟩;exact lW ⟨⟨rfl,rfl,trivial⟩,rfl⟩
 by_cases q9:kind=9
 ·subst q9;obtain ⟨a,b,rfl⟩:∃ a b,ts=[a,b]:=by
   simp at hsh;obtain ⟨a,b,h,_⟩:=hsh;exact ⟨a,b,h⟩
  match kids,hsubs with
  | [ka,kb],hsubs =>
  simp only [szs] at h1 h2;rw [show ((Tr.mk k 9 n text names [a,b]).gen au (clS us f) ⟨s.names,c⟩)=fE au (clS us f) 9 [a,b] ⟨s.names,c⟩ by rw [Tr.gen];rfl];simp only [fE,fI];obtain ⟨g1s,g1C,g1S,g1N,g1O,g1a,g1b,g1c,g1d⟩:=(hall a (by simp)).at (s) (⟨s.names,c⟩) ka rfl hsubs.1 hws.1 (by omega) (by simp only;omega) (by omega);generalize a.gen au (clS us f) (⟨s.names,c⟩)=g1 at g1C g1N g1c g1d ⊢;simp only at g1C g1c g1d;have g2C:=jP hP f (g1).code (g1s) ns root (iOp 9 0 0 []) (by omega);have g2N:((g1).put (iOp 9 0 0 [])).names=(g1s).names:=g1N;have g2l:=(eU (iOp 9 0 0 []) (g1)).1;rw [show (g1).code++[iOp 9 0 0 []]=((g1).put (iOp 9 0 0 [])).code from rfl] at g2C;generalize (g1).put (iOp 9 0 0 [])=g2 at g2C g2N g2l ⊢;obtain ⟨g3s,g3C,g3S,g3N,g3O,g3a,g3b,g3c,g3d⟩:=(hall b (by simp)).at (g1s) (g2) kb g2N hsubs.2.1 hws.2.1 (by omega) (by omega) (by omega);generalize b.gen au (clS us f) (g2)=g3 at g3C g3N g3c g3d ⊢;have g5C:=wA hP f (g3) (g3s) ns root (g1.code.length) (by omega) (by omega);have g5N:((g3).here (g1.code.length)).names=(g3s).names:=g3N;have g5l:=(fp (g1.code.length) (g3)).1;generalize (g3).here (g1.code.length)=g5 at g5C g5N g5l ⊢;refine ⟨g3s,?_,?_⟩;rotate_left
  ·rw [Tr.walk];exact g3S.trans (eJ (aA us) b _ _ (g1S.trans (eJ (aA us) a _ _ (dm (aA us) 9 text 2 k s).symm)))
  refine eN hP mN ⟨?_⟩;refine gD (bM hnk) ⟨?_⟩ h0
  (repeat' (first | refine gY ⟨?_⟩ | refine gX ⟨?_⟩ | fail))
  refine ah.exD (row:=[.int .i64 ka]) rfl (by omega) rfl ?_;refine gG ⟨?_⟩;refine gC [0,1] (g1C) ⟨?_⟩
  (repeat' (first | refine gY ⟨?_⟩ | refine gX ⟨?_⟩ | fail))
  refine gO (Eu hP _) ⟨?_⟩;refine gC [0,1] (g2C) ⟨?_⟩;refine ah.exD (row:=[.int .i64 kb]) rfl (by omega) rfl ?_;refine gG ⟨?_⟩;refine gC [0,1] (g3C) ⟨?_⟩;refine gC [0,1] (g5C) ⟨?_⟩;exact lW ⟨⟨rfl,rfl,trivial⟩,rfl⟩
 have key:∀ (r:List Ins) (s':Sc),(kind=13\/kind=14\/kind=17\/kind=18\/kind=20)->Fn C 186 [.ptr 0 0 0,.d (.int .i64 k),.agg ((Nd.enc ⟨kind,n,text,names,kids⟩).map .d)] [fA f c,s.aY ns root] (.tup []) [some (fA f r),some (s'.aY ns root)] ->
   Fn C 126 [.ptr 0 0 0,.d (.int .i64 k)] [fA f c,s.aY ns root] (.tup []) [some (fA f r),some (s'.aY ns root)]:=by
  intro r s' hk cc;rcases hk with rfl | rfl | rfl | rfl | rfl
  all_goals
   refine eN hP mN ⟨?_⟩;refine gD (bM hnk) ⟨?_⟩ h0
   (repeat' (first | refine gY ⟨?_⟩ | refine gX ⟨?_⟩ | fail))
   refine gC [0,1] cc ⟨?_⟩;exact lW ⟨⟨rfl,rfl,trivial⟩,rfl⟩
 have kinds:kind=13\/kind=14\/kind=17\/kind=18\/kind=20:=by omega
 have toW:∀ s':Sc,(kind=13\/kind=14)->dh s' (walks (aA us) ts s)->dh s' ((Tr.mk k kind n text names ts).walk (aA us) s):=by
  intro s' hk h;refine h.trans ((dM (aA us) ts _ _ (dm (aA us) kind text ts.length k s).symm).trans ?_);rcases hk with rfl | rfl
  all_goals
   rw [Tr.walk];exact .refl _
 rcases kinds with rfl | rfl | rfl | rfl | rfl
 ·rw [show (Tr.mk k 13 n text names ts).gen au (clS us f) ⟨s.names,c⟩=hZ au (clS us f) ts ⟨s.names,c⟩ by rw [Tr.gen];simp];simp at hsh;obtain ⟨a,ha,b,hb,hq⟩:=hsh;rcases hq with rfl | ⟨d,rfl,hd⟩
  ·match kids,hsubs with
   | [ka,kb],hsubs =>
    obtain ⟨s',c1,c2⟩:=Et hP f ns root us k n text names a b ka kb hall hsubs hws s ⟨s.names,c⟩ rfl (by omega) (by simp only;omega) ho;exact ⟨s',key _ _ (by simp) c1,toW s' (by simp) c2⟩
  ·match kids,hsubs with
   | [ka,kb,kd],hsubs =>
    obtain ⟨s',c1,c2⟩:=Bm hP f ns root us k n text names a b d ka kb kd hall hsubs hws s ⟨s.names,c⟩ rfl (by omega) (by simp only;omega) ho;exact ⟨s',key _ _ (by simp) c1,toW s' (by simp) c2⟩
 ·rw [show (Tr.mk k 14 n text names ts).gen au (clS us f) ⟨s.names,c⟩=fD au (clS us f) c.length ts ⟨s.names,c⟩ by rw [Tr.gen];simp];simp at hsh;obtain ⟨a,b,rfl,_⟩:=hsh
  match kids,hsubs with
  | [ka,kb],hsubs =>
   obtain ⟨s',c1,c2⟩:=zI hP f ns root us k n text names a b ka kb hall hsubs hws s ⟨s.names,c⟩ rfl (by omega) (by simp only;omega) ho;exact ⟨s',key _ _ (by simp) c1,toW s' (by simp) c2⟩
 ·rw [show (Tr.mk k 17 n text names ts).gen au (clS us f) ⟨s.names,c⟩=gK au (clS us f) text s.names.length ts ⟨s.names,c⟩ by rw [Tr.gen];simp];simp at hsh;obtain ⟨htx,a,b,rfl,hab,hbb⟩:=hsh
  match kids,hsubs with
  | [ka,kb],hsubs =>
   match b,hbb with
   | .mk bi bk bm btx bnm bts,hbb =>
   have hbb:bk=18:=hbb;subst hbb;obtain ⟨s',c1,c2⟩:=C9 hP f ns root us k n text names a bi bm btx bnm bts ka kb (hall a (by simp)) (fun t ht=>hall2 _ (aM _ (bA.2 rfl)) t ht) hsubs hws htx hab s ⟨s.names,c⟩ rfl (by omega) (by simp only;omega) ho;exact ⟨s',key _ _ (by simp) c1,by rw [Tr.walk];exact c2⟩
 ·obtain ⟨s',f1,m1,m2,m3⟩:=FK hP f ns root us k n text names ts kids h0 hnk hall hsubs hws [] s c (by omega) (by omega) ho;rw [show (Tr.mk k 18 n text names ts).gen au (clS us f) ⟨s.names,c⟩=(cX au (clS us f) ts ⟨s.names,c⟩).cut s.names.length by rw [yP]];refine ⟨s',key _ _ (by simp) ?_,?_⟩
  ·refine eN hP Ak ⟨?_⟩
   (repeat' (first | refine gY ⟨?_⟩ | refine gX ⟨?_⟩ | fail))
   refine gC [0,1] f1 ⟨?_⟩;exact lW ⟨⟨rfl,rfl,trivial⟩,rfl⟩
  ·have hb:=pj (aA us) (Tr.mk k 18 n text names ts) rfl s;have hk:=(e9 (aA us) (Tr.mk k 18 n text names ts) s).1;exact ⟨by rw [m1,hb],by rw [m2,hk],by rw [m3];rw [Tr.walk];rfl⟩
 ·refine ⟨s,key _ _ (by simp) ?_,by rw [Tr.walk];exact .refl _⟩;rw [show ((Tr.mk k 20 n text names ts).gen au (clS us f) ⟨s.names,c⟩).code=c by rw [Tr.gen];rfl];refine eN hP Ak ⟨?_⟩
  (repeat' (first | refine gY ⟨?_⟩ | refine gX ⟨?_⟩ | fail))
  exact lW ⟨⟨rfl,rfl,trivial⟩,rfl⟩
mutual
theorem A9 (f:List Int) (hfl:f.length<=1073741000) (hnd:f.Nodup) (ns:List Nd) (root:Int) (rd:Nd) (h0r:0<=root) (hrd:ns[root.toNat]?=some rd) (us:List Tr) (hus:dx ns us rd.kids) (hul:us.length<=1073741824) (hf:∀ t,0<=iA us t->iA us t∈f):∀ t:Tr,gv C f ns root us t/\∀ u∈t.kids,gv C f ns root us u
 | .mk ix kind n text names kids=>by
  have h:=oT f hfl hnd ns root rd h0r hrd us hus hul hf kids;exact ⟨C1 hP f hfl hnd ns root rd h0r hrd us hus hul hf ix kind n text names kids (fun t ht=>(h t ht).1) (fun t ht=>(h t ht).2),fun u hu=>(h u hu).1⟩
theorem oT (f:List Int) (hfl:f.length<=1073741000) (hnd:f.Nodup) (ns:List Nd) (root:Int) (rd:Nd) (h0r:0<=root) (hrd:ns[root.toNat]?=some rd) (us:List Tr) (hus:dx ns us rd.kids) (hul:us.length<=1073741824) (hf:∀ t,0<=iA us t->iA us t∈f):∀ l:List Tr,∀ t∈l,gv C f ns root us t/\∀ u∈t.kids,gv C f ns root us u
 | []=>by simp
 | a::l=>by
  have h1:=A9 f hfl hnd ns root rd h0r hrd us hus hul hf a;have h2:=oT f hfl hnd ns root rd h0r hrd us hus hul hf l;intro t h;rcases aQ.1 h with rfl | h
  ·exact h1
  ·exact h2 t h
end
end
end Go.Proofs.YtggoiofammbchaaGreatDoor.Loc
