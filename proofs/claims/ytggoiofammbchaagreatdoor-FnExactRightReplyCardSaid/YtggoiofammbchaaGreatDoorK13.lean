/- Part 13 of a chain that ends in the statement named in GOCLAIM.json; no condition. -/
import Derived.Test.YtggoiofammbchaaGreatDoorK12
set_option maxRecDepth 100000
set_option maxHeartbeats 2000000
set_option linter.all false
namespace Go.Proofs.YtggoiofammbchaaGreatDoor.Loc
open Go
variable {α β:Type} {d p:Nat} {kd nd:D} {l:List Tok} {ns:List Nd} {s:PI} {t:List UInt8}
theorem sk (a:α) (f:α->Option (Except (Int×Int) β)):bnd (some (.ok a)) f=f a:=rfl
section
variable {C:Ctx} (hP:C.P=Tryz.prog)
include hP
section
variable {l:List Tok} (hl:dr l)
include hl
theorem B2 (s:PI) (d:Nat) (ks:List Int) (hc:s.code≠0) (hn:s.nodes.length<=200) {r:cV} (hs:IS d r 0 s) (hr:∃ e,r= .error e) :
  b4 C 2 [(2,none)] (IQ l d r) (Cfg.dy c201.l 0 [(0,.ptr 0 0 0),(3,.ptr 2 0 0)] [(0,s.enc l 3),(2,.st [.d (.int .i64 13),.d (.int .i64 0),.d (.str []),.d .nil,.d (bJ ks)]),(3,aB s.nodes)] 4):=by
 obtain ⟨e,rfl⟩:=hr;refine gT ⟨gC [0,3] (kD hP hl s hc hn ⟨13,0,[],[],ks⟩ (nd:= .nil) (kd:=bJ ks) (.inr ⟨rfl,rfl⟩) (.inl rfl)) ⟨?_⟩⟩;refine ah.aD (os':=[some (PI.enc _ s 2),none,some (aB (PI.nodes s))]) [0,1,4] trivial rfl rfl ⟨rfl,rfl,trivial⟩ ?_;(conv=>whnf);exact ⟨_,s,rfl,rfl,hs⟩
theorem DQ (s:PI) (d:Nat) (x:Int) (hc:s.code≠0) (hn:s.nodes.length<=200) {r:cV} (hs:IS d r 0 s) (hr:∃ e,r= .error e) :
  b4 C 2 [(2,none)] (IQ l d r) (Cfg.dy GD.l 0 [(0,.ptr 0 0 0),(3,.ptr 2 0 0)] [(0,s.enc l 3),(2,.st [.d (.int .i64 17),.d (.int .i64 0),.d (.str []),.d .nil,.arr 4 0 1]),(3,aB s.nodes),(4,.da 1 [[.int .i64 x]])] 5):=by
 obtain ⟨e,rfl⟩:=hr;refine gT ⟨gC [0,3] (pX hP hl s hc [40]) ⟨gC [0,3] (EW hP hl s hc 1 (by decide)) ⟨gC [0,3] (pX hP hl s hc [41]) ⟨?_⟩⟩⟩⟩;obtain ⟨v,os',h6,y,s1,rfl,rfl,h7⟩:=x4 hP hl s hc hn;have hc1:s1.code≠0:=by rw [h7.1];exact hc
 refine gC [0,3] h6 ⟨gN (by simp [Sh.len]) ⟨gC [0,5] (kD hP hl s1 hc1 h7.2.2 ⟨17,0,[],[],[x,y]⟩ (nd:= .nil) (kd:=bJ [x,y]) (.inr ⟨rfl,rfl⟩) (.inl rfl)) ⟨?_⟩⟩⟩;refine ah.aD (os':=[some (PI.enc _ s1 2),none,some (aB (PI.nodes s1))]) [0,1,7] trivial rfl rfl ⟨rfl,rfl,trivial⟩ ?_;(conv=>whnf);exact ⟨_,s1,rfl,rfl,h7.1.trans hs.1,h7.2.1.trans hs.2.1,h7.2.2⟩
variable {n:Nat} (ih:∀ c r,dK l c->mm l n c=some r->IC C l c r)
include ih
theorem GP {r:cV} (h1:p<=l.length) (h2:ns.length<=200) (h3:d<=20)
  (h:(bnd (bnd (a8 l p [40]) fun p=>bnd (mm l n (.expr d p ns)) fun (a,p,ns)=>bnd (a8 l p [41]) fun p=>some (.ok (a,p,ns))) fun (a,p,ns)=>bnd (mm l n (.block d p ns)) fun (b,p,ns) =>
    if isS l p 2 kr=true then bnd (mm l n (.block d (p+1) ns)) fun (c,p,ns)=>cv l p ns ⟨13,0,[],[],[a,b,c]⟩ else cv l p ns ⟨13,0,[],[],[a,b]⟩)=some r):FnE C 201 [.ptr 0 0 0] [(s0 p d ns).enc l 1,aB ns] (IQ l d r):=by
 refine eE hP c201 ⟨?_⟩;have hbr:dS (RA l) (bnd (a8 l p [40]) fun p=>bnd (mm l n (.expr d p ns)) fun (a,p,ns)=>bnd (a8 l p [41]) fun p=>some (.ok (a,p,ns))) :=
  (bV l p [40]).bnd fun q hq=>dS.bnd (dN l n (.expr d q ns) ⟨hq.2,h2,h3⟩) fun ⟨a,ap,an⟩ ha=>(bV l ap [41]).bnd fun q' hq'=>⟨hq'.2,ha.2⟩
 rcases cM h with ⟨e,he,rfl⟩ | ⟨⟨a,q,ns'⟩,ha,h⟩
 ·rw [he] at hbr;obtain ⟨v,os',h4,x,s',rfl,rfl,h5⟩:=Cj hP hl ih h1 h2 h3 he;have hc':s'.code≠0:=by rw [h5.1];exact hbr
  refine gC [0,1] h4 ⟨?_⟩;obtain ⟨v,os',h6,y,s1,rfl,rfl,h7⟩:=x4 hP hl s' hc' h5.2.2;have hc1:s1.code≠0:=by rw [h7.1];exact hc'
  refine gC [0,2] h6 ⟨gN (by simp [Sh.len]) ⟨gC [0,5] (pY hP hl s1 hc1 kr) ⟨gX ⟨?_⟩⟩⟩⟩;exact B2 hP hl s1 d [x,y] hc1 h7.2.2 ⟨h7.1.trans h5.1,h7.2.1.trans h5.2.1,h7.2.2⟩ ⟨_,rfl⟩
 ·rw [ha] at hbr;obtain ⟨v,os',h4,x,s',rfl,rfl,rfl,rfl⟩:=Cj hP hl ih h1 h2 h3 ha;refine gC [0,1] h4 ⟨?_⟩;have hci:dK l (.block d q ns'):=⟨hbr.1,hbr.2,h3⟩
  have hf:=dN l n _ hci;rcases cM h with ⟨e,he,rfl⟩ | ⟨⟨b,q1,ns1⟩,hb,h⟩
  ·obtain ⟨v,os',h6,y,s1,rfl,rfl,h7⟩:=ih _ _ hci he;rw [he] at hf;have hc1:s1.code≠0:=by rw [h7.1];exact hf
   refine gC [0,2] h6 ⟨gN (by simp [Sh.len]) ⟨gC [0,5] (pY hP hl s1 hc1 kr) ⟨gX ⟨?_⟩⟩⟩⟩;exact B2 hP hl s1 d [x,y] hc1 h7.2.2 h7 ⟨_,rfl⟩
  ·obtain ⟨v,os',h6,y,s1,rfl,rfl,rfl,rfl⟩:=ih _ _ hci hb;rw [hb] at hf;refine gC [0,2] h6 ⟨gN (by simp [Sh.len]) ⟨?_⟩⟩;have fin:∀ (ks:List Int) (q:Nat) (ns:List Nd),ns.length<=200->cv l q ns ⟨13,0,[],[],ks⟩=some r->b4 C 2 [(2,none)] (IQ l d r) (Cfg.dy c201.l 0 [(0,.ptr 0 0 0),(3,.ptr 2 0 0)] [(0,(s0 q d ns).enc l 3),(2,.st [.d (.int .i64 13),.d (.int .i64 0),.d (.str []),.d .nil,.d (bJ ks)]),(3,aB ns)] 4):=by
    intro ks q ns hn hp;refine gT ⟨?_⟩;obtain ⟨z,s',h8,h9⟩:=lI hP hl q d ns hn hp (nd:= .nil) (kd:=bJ ks) (.inr ⟨rfl,rfl⟩) (.inl rfl);refine gC [0,3] h8 ⟨?_⟩;refine ah.aD (os':=[some (PI.enc _ s' 2),none,some (aB (PI.nodes s'))]) [0,1,4] trivial rfl rfl ⟨rfl,rfl,trivial⟩ ?_;(conv=>whnf);exact ⟨_,s',rfl,rfl,h9⟩
   cases hs:isS l q1 2 kr with
   | false =>
    replace h:(if isS l q1 2 kr=true then bnd (mm l n (.block d (q1+1) ns1)) fun (c,p,ns)=>cv l p ns ⟨13,0,[],[],[x,y,c]⟩ else cv l q1 ns1 ⟨13,0,[],[],[x,y]⟩)=some r:=h;rw [ab (by rw [hs];decide)] at h;refine gC [0,5] (n138 hP hl q1 d ns1 hs) ⟨gX ⟨?_⟩⟩;exact fin [x,y] q1 ns1 hf.2 h
   | true =>
    replace h:(if isS l q1 2 kr=true then bnd (mm l n (.block d (q1+1) ns1)) fun (c,p,ns)=>cv l p ns ⟨13,0,[],[],[x,y,c]⟩ else cv l q1 ns1 ⟨13,0,[],[],[x,y]⟩)=some r:=h;rw [aj hs] at h;refine gC [0,5] (pT hP hl q1 d ns1 hs) ⟨gY ⟨?_⟩⟩;have hci:dK l (.block d (q1+1) ns1):=⟨bg hs,hf.2,h3⟩
    have hf:=dN l n _ hci;rcases cM h with ⟨e,he,rfl⟩ | ⟨⟨c,q2,ns2⟩,hc,h⟩
    ·obtain ⟨v,os',h6,z,s1,rfl,rfl,h7⟩:=ih _ _ hci he;rw [he] at hf;have hc1:s1.code≠0:=by rw [h7.1];exact hf
     refine gC [0,5] h6 ⟨gN (by simp [Sh.len]) ⟨?_⟩⟩;exact B2 hP hl s1 d [x,y,z] hc1 h7.2.2 h7 ⟨_,rfl⟩
    ·obtain ⟨v,os',h6,z,s1,rfl,rfl,rfl,rfl⟩:=ih _ _ hci hc;rw [hc] at hf;refine gC [0,5] h6 ⟨gN (by simp [Sh.len]) ⟨?_⟩⟩;exact fin [x,y,z] q2 ns2 hf.2 h
theorem GO {r:cV} (h1:p<=l.length) (h2:ns.length<=200) (h3:d<=20)
  (h:(bnd (mm l n (.block d p ns)) fun (a,p,ns)=>bnd (if isS l p 2 lK=true then some (.ok (p+1)) else some (.error (3,cY l p))) fun p =>
    bnd (a8 l p [40]) fun p=>bnd (cU l p 1) fun (t,p)=>bnd (a8 l p [41]) fun p=>bnd (mm l n (.block d p ns)) fun (b,p,ns)=>cv l p ns ⟨17,0,t,[],[a,b]⟩)=some r):FnE C 202 [.ptr 0 0 0] [(s0 p d ns).enc l 1,aB ns] (IQ l d r):=by
 refine eE hP GD ⟨?_⟩;have hci:dK l (.block d p ns):=⟨h1,h2,h3⟩
 have hf:=dN l n _ hci;have h30:(3:Int)≠0:=by decide
 rcases cM h with ⟨e,he,rfl⟩ | ⟨⟨a,q,ns'⟩,ha,h⟩
 ·obtain ⟨v,os',h4,x,s',rfl,rfl,h5⟩:=ih _ _ hci he;rw [he] at hf;have hc':s'.code≠0:=by rw [h5.1];exact hf
  refine gC [0,1] h4 ⟨gC [0,2] (pY hP hl s' hc' lK) ⟨gY ⟨gC [0,2] (Gu hP hl s' hc' 3) ⟨?_⟩⟩⟩⟩;exact DQ hP hl s' d x hc' h5.2.2 h5 ⟨_,rfl⟩
 ·obtain ⟨v,os',h4,x,s',rfl,rfl,rfl,rfl⟩:=ih _ _ hci ha;rw [ha] at hf;refine gC [0,1] h4 ⟨?_⟩;replace h:(bnd (if isS l q 2 lK=true then some (.ok (q+1)) else some (.error (3,cY l q))) fun p=>bnd (a8 l p [40]) fun p=>bnd (cU l p 1) fun (t,p)=>bnd (a8 l p [41]) fun p=>bnd (mm l n (.block d p ns')) fun (b,p,ns)=>cv l p ns ⟨17,0,t,[],[x,b]⟩)=some r:=h;cases hs:isS l q 2 lK with
  | false =>
   rw [ab (by rw [hs];decide)] at h;cases h;refine gC [0,2] (n138 hP hl q d ns' hs) ⟨gY ⟨gC [0,2] (FC hP hl q d ns' 3) ⟨?_⟩⟩⟩;exact DQ hP hl (sF l q d ns' 3) d x h30 hf.2 ⟨rfl,rfl,hf.2⟩ ⟨_,rfl⟩
  | true =>
   rw [aj hs] at h;replace h:(bnd (a8 l (q+1) [40]) fun p=>bnd (cU l p 1) fun (t,p)=>bnd (a8 l p [41]) fun p=>bnd (mm l n (.block d p ns')) fun (b,p,ns)=>cv l p ns ⟨17,0,t,[],[x,b]⟩)=some r:=h;refine gC [0,2] (pT hP hl q d ns' hs) ⟨gX ⟨gT ⟨?_⟩⟩⟩;cases hs1:isS l (q+1) 5 [40] with
   | false =>
    simp [a8,hs1,bnd] at h;subst h;refine gC [0,3] (n195 hP hl (q+1) d ns' hs1) ⟨gC [0,3] (EW hP hl (sF l (q+1) d ns' 3) h30 1 (by decide)) ⟨gC [0,3] (pX hP hl (sF l (q+1) d ns' 3) h30 [41]) ⟨?_⟩⟩⟩;obtain ⟨v,os',h6,y,s1,rfl,rfl,h7⟩:=x4 hP hl (sF l (q+1) d ns' 3) h30 hf.2;have hc1:s1.code≠0:=by rw [h7.1];exact h30
    refine gC [0,3] h6 ⟨gN (by simp [Sh.len]) ⟨gC [0,5] (kD hP hl s1 hc1 h7.2.2 ⟨17,0,[],[],[x,y]⟩ (nd:= .nil) (kd:=bJ [x,y]) (.inr ⟨rfl,rfl⟩) (.inl rfl)) ⟨?_⟩⟩⟩;refine ah.aD (os':=[some (PI.enc _ s1 2),none,some (aB (PI.nodes s1))]) [0,1,7] trivial rfl rfl ⟨rfl,rfl,trivial⟩ ?_;(conv=>whnf);exact ⟨_,s1,rfl,rfl,h7.1,h7.2.1,h7.2.2⟩
   | true =>
    rw [show a8 l (q+1) [40]=some (.ok (q+2)) by simp [a8,hs1]] at h;replace h:(bnd (cU l (q+2) 1) fun (t,p)=>bnd (a8 l p [41]) fun p=>bnd (mm l n (.block d p ns')) fun (b,p,ns)=>cv l p ns ⟨17,0,t,[],[x,b]⟩)=some r:=h;refine gC [0,3] (pS hP hl (q+1) d ns' hs1) ⟨?_⟩;by_cases hk:dc l (q+2)=1
    ·rw [show cU l (q+2) 1=some (.ok (cF l (q+2),q+3)) by simp [cU,hk]] at h;replace h:(bnd (a8 l (q+3) [41]) fun p=>bnd (mm l n (.block d p ns')) fun (b,p,ns)=>cv l p ns ⟨17,0,cF l (q+2),[],[x,b]⟩)=some r:=h;refine gC [0,3] (vv hP hl (q+2) d ns' (bg hs1) (by decide) hk) ⟨?_⟩;cases hs2:isS l (q+3) 5 [41] with
     | false =>
      simp [a8,hs2,bnd] at h;subst h;refine gC [0,3] (n195 hP hl (q+3) d ns' hs2) ⟨?_⟩;obtain ⟨v,os',h6,y,s1,rfl,rfl,h7⟩:=x4 hP hl (sF l (q+3) d ns' 3) h30 hf.2;have hc1:s1.code≠0:=by rw [h7.1];exact h30
      refine gC [0,3] h6 ⟨gN (by simp [Sh.len]) ⟨gC [0,5] (kD hP hl s1 hc1 h7.2.2 ⟨17,0,cF l (q+2),[],[x,y]⟩ (nd:= .nil) (kd:=bJ [x,y]) (.inr ⟨rfl,rfl⟩) (.inl rfl)) ⟨?_⟩⟩⟩;refine ah.aD (os':=[some (PI.enc _ s1 2),none,some (aB (PI.nodes s1))]) [0,1,7] trivial rfl rfl ⟨rfl,rfl,trivial⟩ ?_;(conv=>whnf);exact ⟨_,s1,rfl,rfl,h7.1,h7.2.1,h7.2.2⟩
     | true =>
      rw [show a8 l (q+3) [41]=some (.ok (q+4)) by simp [a8,hs2]] at h;replace h:(bnd (mm l n (.block d (q+4) ns')) fun (b,p,ns)=>cv l p ns ⟨17,0,cF l (q+2),[],[x,b]⟩)=some r:=h;refine gC [0,3] (pS hP hl (q+3) d ns' hs2) ⟨?_⟩;have hci:dK l (.block d (q+4) ns'):=⟨bg hs2,hf.2,h3⟩
      have hf:=dN l n _ hci;rcases cM h with ⟨e,he,rfl⟩ | ⟨⟨c,q2,ns2⟩,hc,h⟩
      ·obtain ⟨v,os',h6,y,s1,rfl,rfl,h7⟩:=ih _ _ hci he;rw [he] at hf;have hc1:s1.code≠0:=by rw [h7.1];exact hf
       refine gC [0,3] h6 ⟨gN (by simp [Sh.len]) ⟨gC [0,5] (kD hP hl s1 hc1 h7.2.2 ⟨17,0,cF l (q+2),[],[x,y]⟩ (nd:= .nil) (kd:=bJ [x,y]) (.inr ⟨rfl,rfl⟩) (.inl rfl)) ⟨?_⟩⟩⟩;refine ah.aD (os':=[some (PI.enc _ s1 2),none,some (aB (PI.nodes s1))]) [0,1,7] trivial rfl rfl ⟨rfl,rfl,trivial⟩ ?_;(conv=>whnf);exact ⟨_,s1,rfl,rfl,h7⟩
      ·obtain ⟨v,os',h6,y,s1,rfl,rfl,rfl,rfl⟩:=ih _ _ hci hc;rw [hc] at hf;refine gC [0,3] h6 ⟨gN (by simp [Sh.len]) ⟨?_⟩⟩;obtain ⟨z,s',h8,h9⟩:=lI hP hl q2 d ns2 hf.2 h (nd:= .nil) (kd:=bJ [x,y]) (.inr ⟨rfl,rfl⟩) (.inl rfl);refine gC [0,5] h8 ⟨?_⟩;refine ah.aD (os':=[some (PI.enc _ s' 2),none,some (aB (PI.nodes s'))]) [0,1,7] trivial rfl rfl ⟨rfl,rfl,trivial⟩ ?_;(conv=>whnf);exact ⟨_,s',rfl,rfl,h9⟩
    ·rw [show cU l (q+2) 1=some (.error (3,cY l (q+2))) by simp [cU,hk]] at h;cases h;refine gC [0,3] (n194 hP hl (q+2) d ns' (bg hs1) (by decide) hk) ⟨gC [0,3] (pX hP hl (sF l (q+2) d ns' 3) h30 [41]) ⟨?_⟩⟩;obtain ⟨v,os',h6,y,s1,rfl,rfl,h7⟩:=x4 hP hl (sF l (q+2) d ns' 3) h30 hf.2;have hc1:s1.code≠0:=by rw [h7.1];exact h30
     refine gC [0,3] h6 ⟨gN (by simp [Sh.len]) ⟨gC [0,5] (kD hP hl s1 hc1 h7.2.2 ⟨17,0,[],[],[x,y]⟩ (nd:= .nil) (kd:=bJ [x,y]) (.inr ⟨rfl,rfl⟩) (.inl rfl)) ⟨?_⟩⟩⟩;refine ah.aD (os':=[some (PI.enc _ s1 2),none,some (aB (PI.nodes s1))]) [0,1,7] trivial rfl rfl ⟨rfl,rfl,trivial⟩ ?_;(conv=>whnf);exact ⟨_,s1,rfl,rfl,h7.1,h7.2.1,h7.2.2⟩
omit hP hl ih in
theorem ji {r:cV} {x:Int} (hd:d+1<=20) (h:IS ((d+1:Nat):Int) r x s):IS d r x s.shut:=by
 cases r with
 | ok a =>
  obtain ⟨y,q,ns'⟩:=a;obtain ⟨rfl,rfl⟩:=h;refine ⟨rfl,?_⟩;unfold PI.shut;dsimp only;rw [show (((d+1:Nat):Int) - 1)=(d:Int) by omega,wrap_i64 (by omega)]
 | error e=>exact h
theorem i140 {r:cV} (hc:dK l (.stmt d p ns)) (h:mm l (n+1) (.stmt d p ns)=some r):IC C l (.stmt d p ns) r:=by
 obtain ⟨h1,h2,h3⟩:=hc;have h30:(3:Int)≠0:=by decide
 refine eD hP I3 ?_;by_cases hd:d=20
 ·rw [show mm l (n+1) (.stmt d p ns)=some (.error (9,cY l p)) from aj hd] at h;cases h;subst hd;have h90:(9:Int)≠0:=by decide
  refine gG ⟨gC [0,1] (f198 hP hl p ns) ⟨?_⟩⟩;refine ah.laid (fd:=238) (caps:=[(2,0,0)]) rfl rfl ?_;refine gG ⟨gC [0,1] (pY hP hl (sF l p 21 ns 9) h90 AB) ⟨gX ⟨gC [0,1] (pY hP hl (sF l p 21 ns 9) h90 nH) ⟨gX ⟨gC [0,1] (pY hP hl (sF l p 21 ns 9) h90 qH) ⟨gX ⟨gC [0,1] (pY hP hl (sF l p 21 ns 9) h90 qG) ⟨gX ⟨gC [0,1] (pY hP hl (sF l p 21 ns 9) h90 tIf) ⟨gX ⟨gC [0,1] (pY hP hl (sF l p 21 ns 9) h90 AA) ⟨gX ⟨gC [0,1] (Ig hP hl (sF l p 21 ns 9) h90 5 [123]) ⟨gX ⟨gC [0,1] (BO hP hl (sF l p 21 ns 9) h90) ⟨gX ⟨?_⟩⟩⟩⟩⟩⟩⟩⟩⟩⟩⟩⟩⟩⟩⟩⟩⟩;obtain ⟨v,os',h4,x,s',rfl,rfl,h5⟩:=EU hP hl (sF l p 21 ns 9) h90 h2 ⟨19,0,[],[],[]⟩ rfl .nil;refine gC [0,1] h4 ⟨?_⟩;refine ah.fo (os':=[some (PI.enc _ (PI.shut s') 2),none,some (aB (PI.nodes s'))]) [2,0,3] [0,1,3] trivial (hU hP l s') rfl rfl rfl rfl rfl ⟨rfl,rfl,trivial⟩ ?_;(conv=>whnf);exact ⟨_,s'.shut,rfl,rfl,h5.1,h5.2.1,h5.2.2⟩
 ·replace h:=(ab hd).symm.trans h;refine gG ⟨gC [0,1] (D7 hP hl p d ns (by omega)) ⟨?_⟩⟩;refine ah.laid (fd:=238) (caps:=[(2,0,0)]) rfl rfl ?_;refine gG ⟨?_⟩;have h3':d+1<=20:=by omega
  by_cases hs1:isS l p 2 AB=true
  ·replace h:=(aj hs1).symm.trans h;refine gC [0,1] (pT hP hl p (d+1) ns hs1) ⟨gY ⟨?_⟩⟩;by_cases hk:dc l (p+1)=1
   ·rw [show cU l (p+1) 1=some (.ok (cF l (p+1),p+2)) by simp [cU,hk],sk] at h;replace h:(bnd (a8 l (p+2) [61]) fun q=>bnd (mm l n (.expr (d+1) q ns)) fun (a,p',ns)=>bnd (a8 l p' [59]) fun q=>cv l q ns ⟨11,0,cF l (p+1),[],[a]⟩)=some r:=h;refine gC [0,1] (vv hP hl (p+1) (d+1) ns (bg hs1) (by decide) hk) ⟨?_⟩;have hlt:=eZ (l:=l) (p:=p+1) (by rw [hk];decide);cases hs:isS l (p+2) 5 [61] with
    | true =>
     rw [show a8 l (p+2) [61]=some (.ok (p+3)) by simp [a8,hs],sk] at h;refine gC [0,1] (pS hP hl (p+2) (d+1) ns hs) ⟨?_⟩;obtain ⟨v,os',h4,x,s',rfl,rfl,h5⟩:=As hP hl ih (show p+3<=l.length from bg hs) h2 h3' h;refine gC [0,1] h4 ⟨?_⟩;refine ah.fo (os':=[some (PI.enc _ (PI.shut s') 2),none,some (aB (PI.nodes s'))]) [2,0,4] [0,1,4] trivial (hU hP l s') rfl rfl rfl rfl rfl ⟨rfl,rfl,trivial⟩ ?_;(conv=>whnf);exact ⟨_,s'.shut,rfl,rfl,ji (by omega) h5⟩
    | false =>
     simp [a8,hs,bnd] at h;subst h;refine gC [0,1] (n195 hP hl (p+2) (d+1) ns hs) ⟨?_⟩;obtain ⟨v,os',h4,x,s',rfl,rfl,h5⟩:=EU hP hl (sF l (p+2) (d+1) ns 3) h30 h2 ⟨11,0,cF l (p+1),[],[]⟩ rfl .nil;refine gC [0,1] h4 ⟨?_⟩;refine ah.fo (os':=[some (PI.enc _ (PI.shut s') 2),none,some (aB (PI.nodes s'))]) [2,0,4] [0,1,4] trivial (hU hP l s') rfl rfl rfl rfl rfl ⟨rfl,rfl,trivial⟩ ?_;(conv=>whnf);exact ⟨_,s'.shut,rfl,rfl,h5.1,h5.2.1,h5.2.2⟩
   ·rw [show cU l (p+1) 1=some (.error (3,cY l (p+1))) by simp [cU,hk]] at h;cases h;refine gC [0,1] (n194 hP hl (p+1) (d+1) ns (bg hs1) (by decide) hk) ⟨gC [0,1] (pX hP hl (sF l (p+1) (d+1) ns 3) h30 [61]) ⟨?_⟩⟩;obtain ⟨v,os',h4,x,s',rfl,rfl,h5⟩:=EU hP hl (sF l (p+1) (d+1) ns 3) h30 h2 ⟨11,0,[],[],[]⟩ rfl .nil;refine gC [0,1] h4 ⟨?_⟩;refine ah.fo (os':=[some (PI.enc _ (PI.shut s') 2),none,some (aB (PI.nodes s'))]) [2,0,4] [0,1,4] trivial (hU hP l s') rfl rfl rfl rfl rfl ⟨rfl,rfl,trivial⟩ ?_;(conv=>whnf);exact ⟨_,s'.shut,rfl,rfl,h5.1,h5.2.1,h5.2.2⟩
  replace h:=(ab hs1).symm.trans h;refine gC [0,1] (n138 hP hl p (d+1) ns (bx hs1)) ⟨gX ⟨?_⟩⟩;by_cases hs2:isS l p 2 nH=true
  ·replace h:=(aj hs2).symm.trans h;refine gC [0,1] (pT hP hl p (d+1) ns hs2) ⟨gY ⟨?_⟩⟩;obtain ⟨v,os',h4,x,s',rfl,rfl,h5⟩:=As hP hl ih (bg hs2) h2 h3' h;refine gC [0,1] h4 ⟨?_⟩;refine ah.fo (os':=[some (PI.enc _ (PI.shut s') 2),none,some (aB (PI.nodes s'))]) [2,0,3] [0,1,3] trivial (hU hP l s') rfl rfl rfl rfl rfl ⟨rfl,rfl,trivial⟩ ?_;(conv=>whnf);exact ⟨_,s'.shut,rfl,rfl,ji (by omega) h5⟩
  replace h:=(ab hs2).symm.trans h;refine gC [0,1] (n138 hP hl p (d+1) ns (bx hs2)) ⟨gX ⟨?_⟩⟩;by_cases hs3:isS l p 2 qH=true
  ·replace h:=(aj hs3).symm.trans h;refine gC [0,1] (pT hP hl p (d+1) ns hs3) ⟨gY ⟨?_⟩⟩;obtain ⟨v,os',h4,x,s',rfl,rfl,h5⟩:=As hP hl ih (bg hs3) h2 h3' h;refine gC [0,1] h4 ⟨?_⟩;refine ah.fo (os':=[some (PI.enc _ (PI.shut s') 2),none,some (aB (PI.nodes s'))]) [2,0,3] [0,1,3] trivial (hU hP l s') rfl rfl rfl rfl rfl ⟨rfl,rfl,trivial⟩ ?_;(conv=>whnf);exact ⟨_,s'.shut,rfl,rfl,ji (by omega) h5⟩
  replace h:=(ab hs3).symm.trans h;refine gC [0,1] (n138 hP hl p (d+1) ns (bx hs3)) ⟨gX ⟨?_⟩⟩;by_cases hs4:isS l p 2 qG=true
  ·replace h:=(aj hs4).symm.trans h;refine gC [0,1] (pT hP hl p (d+1) ns hs4) ⟨gY ⟨?_⟩⟩;have hbr:dS (RA l) (bnd (a8 l (p+1) [40]) fun p=>bnd (mm l n (.expr (d+1) p ns)) fun (a,p,ns)=>bnd (a8 l p [41]) fun p=>some (.ok (a,p,ns))) :=
    (bV l (p+1) [40]).bnd fun q hq=>dS.bnd (dN l n (.expr (d+1) q ns) ⟨hq.2,h2,h3'⟩) fun ⟨a,ap,an⟩ ha=>(bV l ap [41]).bnd fun q' hq'=>⟨hq'.2,ha.2⟩
   rcases cM h with ⟨e,he,rfl⟩ | ⟨⟨a,q,ns'⟩,ha,h⟩
   ·obtain ⟨v,os',h4,x,s',rfl,rfl,h5⟩:=Cj hP hl ih (bg hs4) h2 h3' he;have he:(bnd (a8 l (p+1) [40]) fun p=>bnd (mm l n (.expr (d+1) p ns)) fun (a,p,ns)=>bnd (a8 l p [41]) fun p=>some (.ok (a,p,ns)))=some (.error e):=he;rw [he] at hbr;have hc':s'.code≠0:=by rw [h5.1];exact hbr
    refine gC [0,1] h4 ⟨?_⟩;obtain ⟨v,os',h6,y,s1,rfl,rfl,h7⟩:=x4 hP hl s' hc' h5.2.2;have hc1:s1.code≠0:=by rw [h7.1];exact hc'
    refine gC [0,3] h6 ⟨gN (by simp [Sh.len]) ⟨gC [0,6] (kD hP hl s1 hc1 h7.2.2 ⟨14,0,[],[],[x,y]⟩ (nd:= .nil) (kd:=bJ [x,y]) (.inr ⟨rfl,rfl⟩) (.inl rfl)) ⟨?_⟩⟩⟩;refine ah.fo (os':=[some (PI.enc _ (PI.shut s1) 2),none,some (aB (PI.nodes s1))]) [2,0,8] [0,1,8] trivial (hU hP l s1) rfl rfl rfl rfl rfl ⟨rfl,rfl,trivial⟩ ?_;(conv=>whnf);exact ⟨_,s1.shut,rfl,rfl,h7.1.trans h5.1,h7.2.1.trans h5.2.1,h7.2.2⟩
   ·obtain ⟨v,os',h4,x,s',rfl,rfl,rfl,rfl⟩:=Cj hP hl ih (bg hs4) h2 h3' ha;have ha:(bnd (a8 l (p+1) [40]) fun p=>bnd (mm l n (.expr (d+1) p ns)) fun (a,p,ns)=>bnd (a8 l p [41]) fun p=>some (.ok (a,p,ns)))=some (.ok (x,q,ns')):=ha;rw [ha] at hbr;replace h:(bnd (mm l n (.block (d+1) q ns')) fun (b,p,ns)=>cv l p ns ⟨14,0,[],[],[x,b]⟩)=some r:=h;refine gC [0,1] h4 ⟨?_⟩;have hci:dK l (.block (d+1) q ns'):=⟨hbr.1,hbr.2,h3'⟩
    have hf:=dN l n _ hci;rcases cM h with ⟨e,he,rfl⟩ | ⟨⟨b,q1,ns1⟩,hb,h⟩
    ·obtain ⟨v,os',h6,y,s1,rfl,rfl,h7⟩:=ih _ _ hci he;rw [he] at hf;have hc1:s1.code≠0:=by rw [h7.1];exact hf
     refine gC [0,3] h6 ⟨gN (by simp [Sh.len]) ⟨gC [0,6] (kD hP hl s1 hc1 h7.2.2 ⟨14,0,[],[],[x,y]⟩ (nd:= .nil) (kd:=bJ [x,y]) (.inr ⟨rfl,rfl⟩) (.inl rfl)) ⟨?_⟩⟩⟩;refine ah.fo (os':=[some (PI.enc _ (PI.shut s1) 2),none,some (aB (PI.nodes s1))]) [2,0,8] [0,1,8] trivial (hU hP l s1) rfl rfl rfl rfl rfl ⟨rfl,rfl,trivial⟩ ?_;(conv=>whnf);exact ⟨_,s1.shut,rfl,rfl,h7⟩
    ·obtain ⟨v,os',h6,y,s1,rfl,rfl,rfl,rfl⟩:=ih _ _ hci hb;rw [hb] at hf;refine gC [0,3] h6 ⟨gN (by simp [Sh.len]) ⟨?_⟩⟩;obtain ⟨z,s',h8,h9⟩:=lI hP hl q1 (d+1) ns1 hf.2 h (nd:= .nil) (kd:=bJ [x,y]) (.inr ⟨rfl,rfl⟩) (.inl rfl);refine gC [0,6] h8 ⟨?_⟩;refine ah.fo (os':=[some (PI.enc _ (PI.shut s') 2),none,some (aB (PI.nodes s'))]) [2,0,8] [0,1,8] trivial (hU hP l s') rfl rfl rfl rfl rfl ⟨rfl,rfl,trivial⟩ ?_;(conv=>whnf);exact ⟨_,s'.shut,rfl,rfl,ji (by omega) h9⟩
  replace h:=(ab hs4).symm.trans h;refine gC [0,1] (n138 hP hl p (d+1) ns (bx hs4)) ⟨gX ⟨?_⟩⟩;by_cases hs5:isS l p 2 tIf=true
  ·replace h:=(aj hs5).symm.trans h;refine gC [0,1] (pT hP hl p (d+1) ns hs5) ⟨gY ⟨?_⟩⟩;replace h:(bnd (bnd (a8 l (p+1) [40]) fun p=>bnd (mm l n (.expr (d+1) p ns)) fun (a,p,ns)=>bnd (a8 l p [41]) fun p=>some (.ok (a,p,ns))) fun (a,p,ns)=>bnd (mm l n (.block (d+1) p ns)) fun (b,p,ns) =>
    if isS l p 2 kr=true then bnd (mm l n (.block (d+1) (p+1) ns)) fun (c,p,ns)=>cv l p ns ⟨13,0,[],[],[a,b,c]⟩ else cv l p ns ⟨13,0,[],[],[a,b]⟩)=some r:=h
   obtain ⟨v,os',h4,x,s',rfl,rfl,h5⟩:=GP hP hl ih (bg hs5) h2 h3' h;refine gC [0,1] h4 ⟨?_⟩;refine ah.fo (os':=[some (PI.enc _ (PI.shut s') 2),none,some (aB (PI.nodes s'))]) [2,0,3] [0,1,3] trivial (hU hP l s') rfl rfl rfl rfl rfl ⟨rfl,rfl,trivial⟩ ?_;(conv=>whnf);exact ⟨_,s'.shut,rfl,rfl,ji (by omega) h5⟩
  replace h:=(ab hs5).symm.trans h;refine gC [0,1] (n138 hP hl p (d+1) ns (bx hs5)) ⟨gX ⟨?_⟩⟩;by_cases hs6:isS l p 2 AA=true
  ·replace h:=(aj hs6).symm.trans h;refine gC [0,1] (pT hP hl p (d+1) ns hs6) ⟨gY ⟨?_⟩⟩;obtain ⟨v,os',h4,x,s',rfl,rfl,h5⟩:=GO hP hl ih (bg hs6) h2 h3' h;refine gC [0,1] h4 ⟨?_⟩;refine ah.fo (os':=[some (PI.enc _ (PI.shut s') 2),none,some (aB (PI.nodes s'))]) [2,0,3] [0,1,3] trivial (hU hP l s') rfl rfl rfl rfl rfl ⟨rfl,rfl,trivial⟩ ?_;(conv=>whnf);exact ⟨_,s'.shut,rfl,rfl,ji (by omega) h5⟩
  replace h:=(ab hs6).symm.trans h;refine gC [0,1] (n138 hP hl p (d+1) ns (bx hs6)) ⟨gX ⟨gC [0,1] (G9 hP hl p (d+1) ns 5 [123]) ⟨?_⟩⟩⟩;by_cases hs7:isS l p 5 [123]=true
  ·replace h:=(aj hs7).symm.trans h;refine gY ⟨?_⟩ hs7;obtain ⟨v,os',h4,x,s',rfl,rfl,h5⟩:=ih (.block (d+1) p ns) r ⟨h1,h2,h3'⟩ h;refine gC [0,1] h4 ⟨?_⟩;refine ah.fo (os':=[some (PI.enc _ (PI.shut s') 2),none,some (aB (PI.nodes s'))]) [2,0,3] [0,1,3] trivial (hU hP l s') rfl rfl rfl rfl rfl ⟨rfl,rfl,trivial⟩ ?_;(conv=>whnf);exact ⟨_,s'.shut,rfl,rfl,ji (by omega) h5⟩
  replace h:=(ab hs7).symm.trans h;refine gX ⟨gC [0,1] (D6 hP hl p (d+1) ns h1) ⟨?_⟩⟩ (bx hs7);have dflt:¬ (dc l p=1/\isS l (p+1) 5 [61]=true)->FnE C 199 [.ptr 0 0 0,ndV ⟨19,0,[],[],[]⟩ .nil .nil] [(s0 p (d+1) ns).enc l 1,aB ns] (IQ l ((d+1:Nat):Int) r):=fun hk=>by
   replace h:=(ab hk).symm.trans h;exact As hP hl ih h1 h2 h3' h
  by_cases hk:dc l p=1
  ·refine gY ⟨?_⟩ (aR hk);have hlt:p < l.length:=eZ (l:=l) (p:=p) (by rw [hk];decide);rw [aC (n:=(s0 p (d+1) ns).pos) (by have:=hl.len;show p < _;omega)];by_cases hq:p+1 < l.length
   ·obtain ⟨y,hy⟩:∃ y,l[p+1]?=some y:=⟨_,aa hq⟩
    refine gY ⟨?_⟩ (aR (by rw [aJ];show ((p:Nat):Int)+1 < _;omega));rw [aC (n:=(s0 p (d+1) ns).pos) (by have:=hl.len;show p < _;omega)];refine gD (fH hy) ⟨?_⟩;by_cases hyk:y.kind=5
    ·refine gY ⟨?_⟩ (aR hyk);rw [aC (n:=(s0 p (d+1) ns).pos) (by have:=hl.len;show p < _;omega)];refine gD (fH hy) ⟨?_⟩;by_cases hyt:y.text=[61]
     ·have hs8:isS l (p+1) 5 [61]=true:=by simp [isS,hy,hyk,hyt]
      replace h:=(aj ⟨hk,hs8⟩).symm.trans h;refine gY ⟨gC [0,1] (vv hP hl p (d+1) ns h1 (by decide) hk) ⟨gC [0,1] (pS hP hl (p+1) (d+1) ns hs8) ⟨?_⟩⟩⟩ (aR hyt);obtain ⟨v,os',h4,x,s',rfl,rfl,h5⟩:=As hP hl ih (show p+2<=l.length from hq) h2 h3' h;refine gC [0,1] h4 ⟨?_⟩;refine ah.fo (os':=[some (PI.enc _ (PI.shut s') 2),none,some (aB (PI.nodes s'))]) [2,0,4] [0,1,4] trivial (hU hP l s') rfl rfl rfl rfl rfl ⟨rfl,rfl,trivial⟩ ?_;(conv=>whnf);exact ⟨_,s'.shut,rfl,rfl,ji (by omega) h5⟩
     ·refine gX ⟨?_⟩ (aI hyt);obtain ⟨v,os',h4,x,s',rfl,rfl,h5⟩:=dflt (fun hh=>by have:=hh.2;simp [isS,hy,hyt] at this);refine gC [0,1] h4 ⟨?_⟩;refine ah.fo (os':=[some (PI.enc _ (PI.shut s') 2),none,some (aB (PI.nodes s'))]) [2,0,3] [0,1,3] trivial (hU hP l s') rfl rfl rfl rfl rfl ⟨rfl,rfl,trivial⟩ ?_;(conv=>whnf);exact ⟨_,s'.shut,rfl,rfl,ji (by omega) h5⟩
    ·refine gX ⟨?_⟩ (aI hyk);obtain ⟨v,os',h4,x,s',rfl,rfl,h5⟩:=dflt (fun hh=>by have:=hh.2;simp [isS,hy,hyk] at this);refine gC [0,1] h4 ⟨?_⟩;refine ah.fo (os':=[some (PI.enc _ (PI.shut s') 2),none,some (aB (PI.nodes s'))]) [2,0,3] [0,1,3] trivial (hU hP l s') rfl rfl rfl rfl rfl ⟨rfl,rfl,trivial⟩ ?_;(conv=>whnf);exact ⟨_,s'.shut,rfl,rfl,ji (by omega) h5⟩
   ·refine gX ⟨?_⟩ (aI (by rw [aJ];show ¬ ((p:Nat):Int)+1 < _;omega));obtain ⟨v,os',h4,x,s',rfl,rfl,h5⟩:=dflt (fun hh=>hq (bg hh.2));refine gC [0,1] h4 ⟨?_⟩;refine ah.fo (os':=[some (PI.enc _ (PI.shut s') 2),none,some (aB (PI.nodes s'))]) [2,0,3] [0,1,3] trivial (hU hP l s') rfl rfl rfl rfl rfl ⟨rfl,rfl,trivial⟩ ?_;(conv=>whnf);exact ⟨_,s'.shut,rfl,rfl,ji (by omega) h5⟩
  ·refine gX ⟨?_⟩ (aI hk);obtain ⟨v,os',h4,x,s',rfl,rfl,h5⟩:=dflt (fun hh=>hk hh.1);refine gC [0,1] h4 ⟨?_⟩;refine ah.fo (os':=[some (PI.enc _ (PI.shut s') 2),none,some (aB (PI.nodes s'))]) [2,0,3] [0,1,3] trivial (hU hP l s') rfl rfl rfl rfl rfl ⟨rfl,rfl,trivial⟩ ?_;(conv=>whnf);exact ⟨_,s'.shut,rfl,rfl,ji (by omega) h5⟩
end
end
theorem gZ (ts:List (List UInt8)):List.take ts.length (List.drop 0 (ts.map fun t=>[D.str t]))=ts.map fun t=>[D.str t]:=by
 rw [aq,ae (by simp)]
section
variable {C:Ctx} (hP:C.P=Tryz.prog)
include hP
section
variable {l:List Tok} (hl:dr l)
include hl
theorem GI (s:PI) (d:Nat) (name:List UInt8) (names:List (List UInt8)) (hc:s.code≠0) (hn:s.nodes.length<=200) {r:cV} (hs:IS d r 0 s) (hr:∃ e,r= .error e) :
  b4 C 2 [(2,none)] (IQ l d r) (Cfg.dy c139.l 1 [(0,.ptr 0 0 0),(3,.ptr 2 0 0)] [(0,s.enc l 3),(2,.st [.d (.int .i64 20),.d (.int .i64 0),.d (.str name),.d (strs names),.d .nil]),(3,aB s.nodes)] 4):=by
 obtain ⟨e,rfl⟩:=hr;refine gT ⟨?_⟩;obtain ⟨v,os',h6,y,s1,rfl,rfl,h7⟩:=x4 hP hl s hc hn;have hc1:s1.code≠0:=by rw [h7.1];exact hc
 refine gC [0,3] h6 ⟨gC [0,4] (kD hP hl s1 hc1 h7.2.2 ⟨20,0,name,names,[y]⟩ (nd:=strs names) (kd:=bJ [y]) (.inl rfl) (.inl rfl)) ⟨?_⟩⟩;refine ah.aD (os':=[some (PI.enc _ s1 2),none,some (aB (PI.nodes s1))]) [0,1,5] trivial rfl rfl ⟨rfl,rfl,trivial⟩ ?_;(conv=>whnf);exact ⟨_,s1,rfl,rfl,h7.1.trans hs.1,h7.2.1.trans hs.2.1,h7.2.2⟩
theorem yY (s:PI) (d:Nat) (name:List UInt8) (names:List (List UInt8)) (fv:V) (hfv:fv= .tt\/fv= .ff) (hc:s.code≠0) (hn:s.nodes.length<=200) {r:cV} (hs:IS d r 0 s) (hr:∃ e,r= .error e) :
  b4 C 2 [(2,none)] (IQ l d r) (Cfg.eF c139.l 0 [(0,.ptr 0 0 0),(2,.d (.int .i64 0)),(3,.ptr 2 0 0),(4,fv)] [(0,s.enc l 3),(2,.st [.d (.int .i64 20),.d (.int .i64 0),.d (.str name),.arr 4 0 names.length,.d .nil]),(3,aB s.nodes),(4,.da 1 (names.map fun t=>[.str t]))] 5):=by
 have fin:=GI hP hl s d name names hc hn hs hr;rcases hfv with rfl | rfl <;>
 ·refine gL ⟨gX ⟨?_⟩ (aI hc)⟩;rw [gZ];exact fin
variable {n:Nat} (ih:∀ c r,dK l c->mm l n c=some r->IC C l c r)
include ih
theorem Gj {name:List UInt8} {names:List (List UInt8)} {r:cV} (hc:dK l (.cd name names p ns)) (h:mm l (n+1) (.cd name names p ns)=some r):IC C l (.cd name names p ns) r:=by
 obtain ⟨h1,h2,h0⟩:=hc;have h30:(3:Int)≠0:=by decide
 have hkl:names.length<=300:=by have:=hl.len;omega
 simp only [mm] at h;show b4 C 2 [(2,none)] (IQ l ((0:Nat):Int) r) (Cfg.eF c139.l 0 [(0,.ptr 0 0 0),(2,.d (.int .i64 0)),(3,.ptr 2 0 0),(4,if names.isEmpty=true then .tt else .ff)] [(0,(s0 p 0 ns).enc l 3),(2,.st [.d (.int .i64 20),.d (.int .i64 0),.d (.str name),.arr 4 0 names.length,.d .nil]),(3,aB ns),(4,.da 1 (names.map fun t=>[.str t]))] 5);have fin:∀ q,q<=l.length->(bnd (mm l n (.block 0 q ns)) fun (a,p,ns)=>cv l p ns ⟨20,0,name,names,[a]⟩)=some r->b4 C 2 [(2,none)] (IQ l ((0:Nat):Int) r) (Cfg.dy c139.l 1 [(0,.ptr 0 0 0),(3,.ptr 2 0 0)] [(0,(s0 q 0 ns).enc l 3),(2,.st [.d (.int .i64 20),.d (.int .i64 0),.d (.str name),.d (strs names),.d .nil]),(3,aB ns)] 4):=by
  intro q hq h;refine gT ⟨?_⟩;have hci:dK l (.block 0 q ns):=⟨hq,h2,by omega⟩
  have hf:=dN l n _ hci;rcases cM h with ⟨e,he,rfl⟩ | ⟨⟨b,q1,ns1⟩,hb,h⟩
  ·obtain ⟨v,os',h6,y,s1,rfl,rfl,h7⟩:=ih _ _ hci he;rw [he] at hf;have hc1:s1.code≠0:=by rw [h7.1];exact hf
   refine gC [0,3] h6 ⟨gC [0,4] (kD hP hl s1 hc1 h7.2.2 ⟨20,0,name,names,[y]⟩ (nd:=strs names) (kd:=bJ [y]) (.inl rfl) (.inl rfl)) ⟨?_⟩⟩;refine ah.aD (os':=[some (PI.enc _ s1 2),none,some (aB (PI.nodes s1))]) [0,1,5] trivial rfl rfl ⟨rfl,rfl,trivial⟩ ?_;(conv=>whnf);exact ⟨_,s1,rfl,rfl,h7⟩
  ·obtain ⟨v,os',h6,y,s1,rfl,rfl,rfl,rfl⟩:=ih _ _ hci hb;rw [hb] at hf;refine gC [0,3] h6 ⟨?_⟩;obtain ⟨z,s',h8,h9⟩:=lI hP hl q1 0 ns1 hf.2 h (nd:=strs names) (kd:=bJ [y]) (.inl rfl) (.inl rfl);refine gC [0,4] h8 ⟨?_⟩;refine ah.aD (os':=[some (PI.enc _ s' 2),none,some (aB (PI.nodes s'))]) [0,1,5] trivial rfl rfl ⟨rfl,rfl,trivial⟩ ?_;(conv=>whnf);exact ⟨_,s',rfl,rfl,h9⟩
 have arg:∀ (fv:V),(fv= .tt\/fv= .ff)->∀ q,p<=q->q<=l.length->(bnd (cU l q 1) fun (t,p)=>mm l n (.cd name (names++[t]) p ns))=some r->b4 C 2 [(2,none)] (IQ l ((0:Nat):Int) r) (Cfg.dy c139.l 0 [(0,.ptr 0 0 0),(2,.d (.int .i64 0)),(3,.ptr 2 0 0),(4,fv)] [(0,(s0 q 0 ns).enc l 3),(2,.st [.d (.int .i64 20),.d (.int .i64 0),.d (.str name),.arr 4 0 names.length,.d .nil]),(3,aB ns),(4,.da 1 (names.map fun t=>[.str t]))] 5):=by
  intro fv hfv q hpq hq h;rcases hfv with rfl | rfl <;>
  ·refine gT ⟨?_⟩;by_cases hk:dc l q=1
   ·rw [show cU l q 1=some (.ok (cF l q,q+1)) by simp [cU,hk],sk] at h;replace h:mm l n (.cd name (names++[cF l q]) (q+1) ns)=some r:=h;refine gC [0,3] (vv hP hl q 0 ns hq (by decide) hk) ⟨?_⟩;rw [gZ];refine gN (by simp [Sh.len];omega) ⟨?_⟩;have:=ih (.cd name (names++[cF l q]) (q+1) ns) r ⟨eZ (by rw [hk];decide),h2,by simp;omega⟩ h;simp only [IC] at this;rw [show (names++[cF l q]).isEmpty=false by simp,ab (by decide)] at this;exact ah.to this (by rfl) (by simp [aB,PI.enc,Sh.len,s0])
   ·rw [show cU l q 1=some (.error (3,cY l q)) by simp [cU,hk]] at h;cases h;refine gC [0,3] (n194 hP hl q 0 ns hq (by decide) hk) ⟨?_⟩;rw [gZ];refine gN (by simp [Sh.len];omega) ⟨?_⟩;exact (yY hP hl (sF l q 0 ns 3) 0 name (names++[[]]) .ff (.inr rfl) h30 h2 (r:= .error (3,cY l q)) ⟨rfl,rfl,h2⟩ ⟨_,rfl⟩).to (by rfl) (by simp [aB,PI.enc,Sh.len,sF])
 cases hs:isS l p 5 [41] with
 | true =>
  rw [aj hs] at h;cases names with
  | nil =>
   refine gL ⟨gY ⟨gC [0,3] (vu hP hl p 0 ns hs) ⟨gX ⟨?_⟩⟩⟩⟩;exact fin (p+1) (bg hs) h
  | cons t0 ts =>
   refine gL ⟨gY ⟨gC [0,3] (vu hP hl p 0 ns hs) ⟨gX ⟨?_⟩⟩⟩⟩;rw [gZ];exact fin (p+1) (bg hs) h
 | false =>
  rw [ab (by rw [hs];decide)] at h;cases names with
  | nil =>
   rcases cM h with ⟨e,he,rfl⟩ | ⟨q,hq,h⟩
   ·cases he
   cases hq;refine gL ⟨gY ⟨gC [0,3] (n196 hP hl p 0 ns hs) ⟨gY ⟨?_⟩⟩⟩⟩;exact arg .tt (.inl rfl) p (al _) h1 h
  | cons t0 ts =>
   refine gL ⟨gY ⟨gC [0,3] (n196 hP hl p 0 ns hs) ⟨gY ⟨?_⟩⟩⟩⟩;cases hs2:isS l p 5 [44] with
   | true =>
    refine gC [0,3] (pS hP hl p 0 ns hs2) ⟨?_⟩;rcases cM h with ⟨e,he,rfl⟩ | ⟨q,hq,h⟩
    ·simp [a8,hs2] at he
    simp [a8,hs2] at hq;subst hq;exact arg .ff (.inr rfl) (p+1) (by omega) (bg hs2) h
   | false =>
    refine gC [0,3] (n195 hP hl p 0 ns hs2) ⟨?_⟩;rcases cM h with ⟨e,he,rfl⟩ | ⟨q,hq,h⟩
    ·simp [a8,hs2] at he;subst he;refine gT ⟨gC [0,3] (EW hP hl (sF l p 0 ns 3) h30 1 (by decide)) ⟨?_⟩⟩;rw [gZ];refine gN (by simp [Sh.len] at hkl ⊢;omega) ⟨?_⟩;exact (yY hP hl (sF l p 0 ns 3) 0 name ((t0::ts)++[[]]) .ff (.inr rfl) h30 h2 (r:= .error (3,cY l p)) ⟨rfl,rfl,h2⟩ ⟨_,rfl⟩).to (by rfl) (by simp [aB,PI.enc,Sh.len,sF])
    ·simp [a8,hs2] at hq
theorem Fh {r:cV} (h1:p<=l.length) (h2:ns.length<=200)
  (h:(bnd (cU l p 1) fun (t,p)=>bnd (a8 l p [40]) fun p=>mm l n (.cd t [] p ns))=some r):FnE C 139 [.ptr 0 0 0] [(s0 p 0 ns).enc l 1,aB ns] (IQ l ((0:Nat):Int) r):=by
 have h30:(3:Int)≠0:=by decide
 refine eE hP c139 ⟨?_⟩;by_cases hk:dc l p=1
 ·rw [show cU l p 1=some (.ok (cF l p,p+1)) by simp [cU,hk],sk] at h;replace h:(bnd (a8 l (p+1) [40]) fun q=>mm l n (.cd (cF l p) [] q ns))=some r:=h;refine gC [0,1] (vv hP hl p 0 ns h1 (by decide) hk) ⟨?_⟩;cases hs:isS l (p+1) 5 [40] with
  | true =>
   rw [show a8 l (p+1) [40]=some (.ok (p+2)) by simp [a8,hs],sk] at h;refine gC [0,1] (pS hP hl (p+1) 0 ns hs) ⟨?_⟩;exact ih (.cd (cF l p) [] (p+2) ns) r ⟨bg hs,h2,by simp⟩ h
  | false =>
   simp [a8,hs,bnd] at h;subst h;refine gC [0,1] (n195 hP hl (p+1) 0 ns hs) ⟨?_⟩;exact yY hP hl (sF l (p+1) 0 ns 3) 0 (cF l p) [] .tt (.inl rfl) h30 h2 ⟨rfl,rfl,h2⟩ ⟨_,rfl⟩
 ·rw [show cU l p 1=some (.error (3,cY l p)) by simp [cU,hk]] at h;cases h;refine gC [0,1] (n194 hP hl p 0 ns h1 (by decide) hk) ⟨gC [0,1] (pX hP hl (sF l p 0 ns 3) h30 [40]) ⟨?_⟩⟩;exact yY hP hl (sF l p 0 ns 3) 0 [] [] .tt (.inl rfl) h30 h2 ⟨rfl,rfl,h2⟩ ⟨_,rfl⟩
end
end
def Ax (ns:List Nd) (root:Int):V:= .agg [.d (.imm 5 (ns.map Nd.enc)),.d (.int .i64 root)]
def kT:cV->V
 | .error (c,pl)=> .tup [.agg [.d .nil,.d (.int .i64 0)],.d (.int .i64 pl),.d (.int .i64 c)]
 | .ok (y,p,ns)=> .tup [Ax ns y,.d (.int .i64 0),.d (.int .i64 0)]
section
variable {C:Ctx} (hP:C.P=Tryz.prog) (S:Shelf C)
include hP S
section
variable {l:List Tok} (hl:dr l)
include hl
theorem ic:∀ (n:Nat) (c:jg) (r:cV),dK l c->mm l n c=some r->IC C l c r
 | 0,c,r,hc,h=>by cases c<;>simp [mm] at h
 | n+1,c,r,hc,h=>by
  have ih:=ic n;cases c with
  | expr d p ns=>exact i239 hP hl ih hc h
  | op d k p ns=>exact i260 hP hl ih hc h
  | opL d k a p ns=>exact Gg hP hl ih hc h
  | un d p ns=>exact i278 hP hl ih hc h
  | jJ d p ns=>exact i286 hP hl ih S hc h
  | args d name first kids p ns=>exact Gf hP hl ih hc h
  | block d p ns=>exact i197 hP hl ih hc h
  | stmts d kids p ns=>exact Gi hP hl ih hc h
  | stmt d p ns=>exact i140 hP hl ih hc h
  | cd name names p ns=>exact Gj hP hl ih hc h
  | top kids p ns=>trivial
theorem Ia (s:PI) (ks:List Int) (hc:s.code≠0) (hn:s.nodes.length<=200) {r:cV} (hr:r= .error (s.code,s.place)) :
  b4 C 0 [(2,some (some 2)),(3,none),(4,none)] (fun v os'=>v=kT r/\os'=[]) (Cfg.dy c95.l 0 [(2,.ptr 0 0 0),(8,.ptr 1 0 0),(9,.ptr 2 0 0)] [(0,.st [.d .nil,.d (.int .i64 0)]),(1,s.enc l 3),(2,.st [.d (.int .i64 18),.d (.int .i64 0),.d (.str []),.d .nil,.d (bJ ks)]),(3,aB s.nodes)] 4):=by
 subst hr;refine gT ⟨gC [1,3] (kD hP hl s hc hn ⟨18,0,[],[],ks⟩ (nd:= .nil) (kd:=bJ ks) (.inr ⟨rfl,rfl⟩) (.inl rfl)) ⟨gY ⟨?_⟩ (by simp [hc])⟩⟩;refine ah.aD (os':=[]) [0] trivial (by rfl) (by rfl) trivial ?_;(conv=>whnf);exact ⟨rfl,rfl⟩
theorem Gp (s:PI) (ks:List Int) (hc:s.code≠0) (hn:s.nodes.length<=200) {r:cV} (hr:r= .error (s.code,s.place)) :
  b4 C 0 [(2,some (some 2)),(3,none),(4,none)] (fun v os'=>v=kT r/\os'=[]) (Cfg.eF c95.l 0 [(2,.ptr 0 0 0),(3,.d (.int .i64 0)),(4,.d (.int .i64 0)),(5,.d (qD l)),(8,.ptr 1 0 0),(9,.ptr 2 0 0)]
   [(0,.st [.d .nil,.d (.int .i64 0)]),(1,s.enc l 3),(2,.st [.d (.int .i64 18),.d (.int .i64 0),.d (.str []),.d .nil,.arr 4 0 ks.length]),(3,aB s.nodes),(4,.da 1 (ks.map fun k=>[.int .i64 k]))] 5):=by
 have fin:=Ia hP S hl s ks hc hn hr;refine gL ⟨gX ⟨?_⟩ (aI hc)⟩;rw [cW];exact fin
theorem Ge:∀ (n:Nat) (kids:List Int) (p:Nat) (ns:List Nd) (r:cV),dK l (.top kids p ns)->mm l n (.top kids p ns)=some r ->
  b4 C 0 [(2,some (some 2)),(3,none),(4,none)] (fun v os'=>v=kT r/\os'=[]) (Cfg.eF c95.l 0 [(2,.ptr 0 0 0),(3,.d (.int .i64 0)),(4,.d (.int .i64 0)),(5,.d (qD l)),(8,.ptr 1 0 0),(9,.ptr 2 0 0)]
   [(0,.st [.d .nil,.d (.int .i64 0)]),(1,(s0 p 0 ns).enc l 3),(2,.st [.d (.int .i64 18),.d (.int .i64 0),.d (.str []),.d .nil,.arr 4 0 kids.length]),(3,aB ns),(4,.da 1 (kids.map fun k=>[.int .i64 k]))] 5)
 | 0,kids,p,ns,r,hc,h=>by simp [mm] at h
 | n+1,kids,p,ns,r,hc,h=>by
  have hcc:=hc;obtain ⟨h1,h2,h0⟩:=hc;have hkl:kids.length<=300:=by have:=hl.len;omega
  have ih:=ic hP S hl n;have again:=Ge n;have hadv:=fun c hc=>jN l n c hc
  simp only [mm] at h;refine gL ⟨gY ⟨?_⟩⟩;by_cases hp:p < l.length
  ·rw [aj hp] at h;refine gY ⟨?_⟩ (aR (by rw [aJ];show ((p:Nat):Int) < _;omega));cases hs:isS l p 2 oE with
   | true =>
    rw [aj hs] at h;refine gC [1,3] (pT hP hl p 0 ns hs) ⟨gY ⟨?_⟩⟩;have hx:(bnd (bnd (cU l (p+1) 1) fun (t,p)=>bnd (a8 l p [40]) fun p=>mm l n (.cd t [] p ns)) fun (a,p,ns)=>mm l n (.top (kids++[a]) p ns))=some r:=by
     rw [<- h];cases cU l (p+1) 1 with
     | none=>rfl
     | some a =>
      cases a with
      | error e=>rfl
      | ok a =>
       obtain ⟨t,q⟩:=a;show (bnd (bnd (a8 l q [40]) fun p=>mm l n (.cd t [] p ns)) fun (a,p,ns)=>mm l n (.top (kids++[a]) p ns))=bnd (a8 l q [40]) fun p=>bnd (mm l n (.cd t [] p ns)) fun (a,p,ns)=>mm l n (.top (kids++[a]) p ns)
       cases a8 l q [40] with
       | none=>rfl
       | some a=>cases a<;>rfl
    have hf:dS (RB l (p+1)) (bnd (cU l (p+1) 1) fun (t,p)=>bnd (a8 l p [40]) fun p=>mm l n (.cd t [] p ns)) :=
     (eQ l (p+1) (by decide)).bnd fun ⟨t,tp⟩ ht=>(bV l tp [40]).bnd fun q hq=>(jN l n (.cd t [] q ns) ⟨hq.2,h2,by simp⟩).up (by have:=ht.1;have:=hq.1;dsimp only [lo] at *;omega)
    rcases cM hx with ⟨e,he,rfl⟩ | ⟨⟨a,q,ns'⟩,ha,h⟩
    ·obtain ⟨v,os',h4,x,s',rfl,rfl,h5⟩:=Fh hP hl ih (bg hs) h2 he;rw [he] at hf;have hc':s'.code≠0:=by rw [h5.1];exact hf
     refine gC [1,3] h4 ⟨?_⟩;rw [cW];refine gN (by simp [Sh.len];omega) ⟨?_⟩;exact (Gp hP S hl s' (kids++[x]) hc' h5.2.2 (by rw [h5.1,h5.2.1])).to (by rfl) (by simp [aB,PI.enc,Sh.len])
    ·obtain ⟨v,os',h4,x,s',rfl,rfl,rfl,rfl⟩:=Fh hP hl ih (bg hs) h2 ha;rw [ha] at hf;refine gC [1,3] h4 ⟨?_⟩;rw [cW];refine gN (by simp [Sh.len];omega) ⟨?_⟩;exact ah.to (again (kids++[x]) q ns' r ⟨hf.2.1,hf.2.2,by have:=hf.1;dsimp only at this;simp;omega⟩ h) (by rfl) (by simp [aB,PI.enc,Sh.len,s0])
   | false =>
    rw [ab (by rw [hs];decide)] at h;refine gC [1,3] (n138 hP hl p 0 ns hs) ⟨gX ⟨?_⟩⟩;have hci:dK l (.stmt 0 p ns):=⟨h1,h2,by omega⟩
    have hf:=dN l n _ hci;rcases cM h with ⟨e,he,rfl⟩ | ⟨⟨a,q,ns'⟩,ha,h⟩
    ·obtain ⟨v,os',h4,x,s',rfl,rfl,h5⟩:=ih _ _ hci he;rw [he] at hf;have hc':s'.code≠0:=by rw [h5.1];exact hf
     refine gC [1,3] h4 ⟨?_⟩;rw [cW];refine gN (by simp [Sh.len];omega) ⟨?_⟩;exact (Gp hP S hl s' (kids++[x]) hc' h5.2.2 (by rw [h5.1,h5.2.1])).to (by rfl) (by simp [aB,PI.enc,Sh.len])
    ·obtain ⟨v,os',h4,x,s',rfl,rfl,rfl,rfl⟩:=ih _ _ hci ha;rw [ha] at hf;have hadv:=hadv _ hci;rw [ha] at hadv;have hadv:=hadv.1;simp only [lo] at hadv;refine gC [1,3] h4 ⟨?_⟩;rw [cW];refine gN (by simp [Sh.len];omega) ⟨?_⟩;exact ah.to (again (kids++[x]) q ns' r ⟨hf.1,hf.2,by simp;omega⟩ h) (by rfl) (by simp [aB,PI.enc,Sh.len,s0])
  ·rw [ab hp] at h;refine gX ⟨?_⟩ (aI (by rw [aJ];show ¬ ((p:Nat):Int) < _;omega));rw [cW];refine gT ⟨?_⟩;obtain ⟨z,s',h8,h9⟩:=lI hP hl p 0 ns h2 h (nd:= .nil) (kd:=bJ kids) (.inr ⟨rfl,rfl⟩) (.inl rfl);refine gC [1,3] h8 ⟨?_⟩;cases r with
   | error e =>
    have hf:=oU (l:=l) (p:=p) (ns:=ns) ⟨18,0,[],[],kids⟩ h1 h2;rw [h] at hf;have hc':s'.code≠0:=by rw [h9.1];exact hf
    refine gY ⟨?_⟩ (by simp [hc']);refine ah.aD (os':=[]) [0] trivial (by rfl) (by rfl) trivial ?_;(conv=>whnf);refine ⟨?_,rfl⟩;rw [h9.1,h9.2.1];rfl
   | ok a =>
    obtain ⟨y,q,ns'⟩:=a;obtain ⟨rfl,rfl⟩:=h9;refine gX ⟨?_⟩;refine ah.aD (os':=[]) [0] trivial (by rfl) (by rfl) trivial ?_;(conv=>whnf);refine ⟨?_,rfl⟩;simp [kT,Ax,ae]
theorem t95 {n:Nat} {r:cV} (ht:t.length < 1073741824) (he:uL t= .ok l) (h:mm l n (.top [] 0 [])=some r):Fn C 95 [.d (.str t)] [] (kT r) []:=by
 refine eN hP c95 ⟨?_⟩;have hk:=F6 hP S t ht;rw [he] at hk;refine gO hk ⟨gX ⟨?_⟩⟩;exact Ge hP S hl n [] 0 [] r ⟨by omega,by simp,by simp⟩ h
end
end
def Tot {α:Type} (x:Option (Except (Int×Int) α)):Prop:=x≠none
theorem Tot.ok (x:Except (Int×Int) α):Tot (some x):=by unfold Tot;simp
theorem Tot.bnd {A:α->Prop} {x:Option (Except (Int×Int) α)} {f:α->Option (Except (Int×Int) β)} (h:Tot x) (ha:dS A x) (hf:∀ a,A a->Tot (f a)):Tot (Loc.bnd x f):=by
 match x,h,ha with
 | some (.error e),h,ha=>exact Tot.ok _
 | some (.ok a),h,ha=>exact hf a ha
theorem eh (l:List Tok) (p:Nat) (ns:List Nd) (x:Nd):Tot (cv l p ns x):=by
 unfold cv;split<;>exact Tot.ok _
theorem fm (l:List Tok) (p:Nat) (t:List UInt8):Tot (a8 l p t):=by
 unfold a8;split<;>exact Tot.ok _
theorem mA (l:List Tok) (p:Nat) (k:Int):Tot (cU l p k):=by
 unfold cU;split<;>exact Tot.ok _
def mu (l:List Tok):jg->Nat
 | .expr d p ns=>11 * (l.length - p)+8
 | .op d k p ns=>11 * (l.length - p)+(7 - k)
 | .opL d k a p ns=>11 * (l.length - p)
 | .un d p ns=>11 * (l.length - p)+1
 | .jJ d p ns=>11 * (l.length - p)
 | .args d name first kids p ns=>11 * (l.length - p)+9
 | .block d p ns=>11 * (l.length - p)
 | .stmts d kids p ns=>11 * (l.length - p)+10
 | .stmt d p ns=>11 * (l.length - p)+9
 | .cd name names p ns=>11 * (l.length - p)
 | .top kids p ns=>11 * (l.length - p)+10
theorem A8 (l:List Tok):∀ (n:Nat) (c:jg),dK l c->mu l c < n->Tot (mm l n c)
 | 0,c,_,h=>by omega
 | n+1,c,hc,hm=>by
  have ih:=A8 l n;have ad:=fun c hc=>jN l n c hc
  have hend:∀ (d:Nat) (kind:Int) (name:List UInt8) (p:Nat) (ns:List Nd),p<=l.length->ns.length<=200->d<=20->11 * (l.length - p)+8 < n->Tot (bnd (mm l n (.expr d p ns)) fun (a,p,ns)=>bnd (a8 l p [59]) fun p=>cv l p ns ⟨kind,0,name,[],[a]⟩):=fun d kind name p ns h1 h2 h3 hf =>
   Tot.bnd (ih (.expr d p ns) ⟨h1,h2,h3⟩ hf) (ad (.expr d p ns) ⟨h1,h2,h3⟩) fun ⟨a,ap,an⟩ ha=>(fm l ap [59]).bnd (bV l ap [59]) fun q hq=>eh _ _ _ _
  have hbr:∀ (d p:Nat) (ns:List Nd),ns.length<=200->d<=20->11 * (l.length - (p+1))+8 < n->Tot (bnd (a8 l p [40]) fun p=>bnd (mm l n (.expr d p ns)) fun (a,p,ns)=>bnd (a8 l p [41]) fun p=>some (.ok (a,p,ns))):=fun d p ns h2 h3 hf =>
   (fm l p [40]).bnd (bV l p [40]) fun q hq=>Tot.bnd (ih (.expr d q ns) ⟨hq.2,h2,h3⟩ (by rw [hq.1];exact hf)) (ad (.expr d q ns) ⟨hq.2,h2,h3⟩) fun ⟨a,ap,an⟩ ha=>(fm l ap [41]).bnd (bV l ap [41]) fun q' hq'=>Tot.ok _
  have hbf:∀ (d p:Nat) (ns:List Nd),ns.length<=200->d<=20->dS (RB l (p+1)) (bnd (a8 l p [40]) fun p=>bnd (mm l n (.expr d p ns)) fun (a,p,ns)=>bnd (a8 l p [41]) fun p=>some (.ok (a,p,ns))):=fun d p ns h2 h3 =>
   (bV l p [40]).bnd fun q hq=>dS.bnd (ad (.expr d q ns) ⟨hq.2,h2,h3⟩) fun ⟨a,ap,an⟩ ha=>(bV l ap [41]).bnd fun q' hq'=>⟨by have:=ha.1;have:=hq.1;have:=hq'.1;dsimp only [lo] at *;omega,hq'.2,ha.2.2⟩
  cases c with
  | expr d p ns =>
   obtain ⟨h1,h2,h3⟩:=hc;simp only [mm];simp only [mu] at hm;split
   ·exact Tot.ok _
   ·exact ih _ ⟨h1,h2,by omega,by omega⟩ (by simp only [mu];omega)
  | op d k p ns =>
   obtain ⟨h1,h2,h3,h4⟩:=hc;simp only [mm];simp only [mu] at hm;split
   ·exact ih _ ⟨h1,h2,h3⟩ (by simp only [mu];omega)
   ·exact Tot.bnd (ih _ ⟨h1,h2,h3,by omega⟩ (by simp only [mu];omega)) (ad _ ⟨h1,h2,h3,by omega⟩) fun ⟨a,ap,an⟩ ha=>ih _ ⟨ha.2.1,ha.2.2,h3,by omega⟩ (by have:=ha.1;have:=ha.2.1;dsimp only [mu,lo] at *;omega)
  | opL d k a p ns =>
   obtain ⟨h1,h2,h3,h4⟩:=hc;simp only [mm];simp only [mu] at hm;split
   ·rename_i h;have hlt:=eZ (l:=l) (p:=p) (by rw [h.1];decide);exact Tot.bnd (ih _ ⟨hlt,h2,h3,by omega⟩ (by simp only [mu];omega)) (ad _ ⟨hlt,h2,h3,by omega⟩) fun ⟨a,ap,an⟩ ha=>(eh _ _ _ _).bnd (dO _ ha.2.1 ha.2.2) fun ⟨b,bp,bn⟩ hb=>ih _ ⟨hb.2.1,hb.2.2,h3,h4⟩ (by have:=ha.1;have:=hb.1;have:=hb.2.1;dsimp only [mu,lo] at *;omega)
   ·exact Tot.ok _
  | un d p ns =>
   obtain ⟨h1,h2,h3⟩:=hc;simp only [mm];simp only [mu] at hm;split
   ·rename_i h;have hlt:p < l.length:=h.elim bg bg;split
    ·exact Tot.ok _
    ·exact Tot.bnd (ih _ ⟨hlt,h2,by omega⟩ (by simp only [mu];omega)) (ad _ ⟨hlt,h2,by omega⟩) fun ⟨a,ap,an⟩ ha=>eh _ _ _ _
   ·exact ih _ ⟨h1,h2,h3⟩ (by simp only [mu];omega)
  | jJ d p ns =>
   obtain ⟨h1,h2,h3⟩:=hc;simp only [mm];simp only [mu] at hm;split
   ·exact eh _ _ _ _
   split
   ·exact eh _ _ _ _
   split
   ·rename_i h;split
    ·rename_i h';exact ih _ ⟨bg h',h2,h3,by simp⟩ (by have:=bg h';simp only [mu];omega)
    ·exact eh _ _ _ _
   split
   ·exact eh _ _ _ _
   split
   ·exact eh _ _ _ _
   split
   ·exact eh _ _ _ _
   split
   ·rename_i h;exact Tot.bnd (ih _ ⟨bg h,h2,h3⟩ (by have:=bg h;simp only [mu];omega)) (ad _ ⟨bg h,h2,h3⟩) fun ⟨a,ap,an⟩ ha=>(fm l ap [41]).bnd (bV l ap [41]) fun q hq=>Tot.ok _
   ·exact Tot.ok _
  | args d name first kids p ns =>
   obtain ⟨h1,h2,h3,h4⟩:=hc;simp only [mm];simp only [mu] at hm;split
   ·exact eh _ _ _ _
   ·refine Tot.bnd (A:=fun q=>p<=q/\q<=l.length) ?_ ?_ fun q hq=>Tot.bnd (ih _ ⟨hq.2,h2,h3⟩ (by have:=hq.1;simp only [mu];omega)) (ad _ ⟨hq.2,h2,h3⟩) fun ⟨a,ap,an⟩ ha=>ih _ ⟨ha.2.1,ha.2.2,h3,by have:=ha.1;have:=hq.1;dsimp only [lo] at *;simp;omega⟩ (by have:=ha.1;have:=ha.2.1;have:=hq.1;dsimp only [mu,lo] at *;omega)
    ·split
     ·exact Tot.ok _
     ·exact fm _ _ _
    ·split
     ·exact ⟨al _,h1⟩
     ·exact (bV l p _).mono fun q hq=>⟨by omega,hq.2⟩
  | block d p ns =>
   obtain ⟨h1,h2,h3⟩:=hc;simp only [mm];simp only [mu] at hm;exact (fm l p _).bnd (bV l p _) fun q hq=>ih _ ⟨hq.2,h2,h3,by simp⟩ (by have:=hq.1;have:=hq.2;simp only [mu];omega)
  | stmts d kids p ns =>
   obtain ⟨h1,h2,h3,h4⟩:=hc;simp only [mm];simp only [mu] at hm;split
   ·exact eh _ _ _ _
   ·exact Tot.bnd (ih _ ⟨h1,h2,h3⟩ (by simp only [mu];omega)) (ad _ ⟨h1,h2,h3⟩) fun ⟨a,ap,an⟩ ha=>ih _ ⟨ha.2.1,ha.2.2,h3,by have:=ha.1;dsimp only [lo] at *;simp;omega⟩ (by have:=ha.1;have:=ha.2.1;dsimp only [mu,lo] at *;omega)
  | stmt d p ns =>
   obtain ⟨h1,h2,h3⟩:=hc;simp only [mu] at hm;show Tot (if d=20 then _ else _);split
   ·exact Tot.ok _
   have h3':d+1<=20:=by omega
   split
   ·exact (mA l _ _).bnd (eQ l _ (by decide)) fun ⟨a,ap⟩ ha=>(fm l _ _).bnd (bV l _ _) fun q hq=>hend _ _ _ _ _ hq.2 h2 h3' (by have:=ha.1;have:=hq.1;have:=hq.2;dsimp only at *;omega)
   split
   ·rename_i h;exact hend _ _ _ _ _ (bg h) h2 h3' (by have:=bg h;omega)
   split
   ·rename_i h;exact hend _ _ _ _ _ (bg h) h2 h3' (by have:=bg h;omega)
   split
   ·rename_i h;exact Tot.bnd (hbr _ _ _ h2 h3' (by have:=bg h;omega)) (hbf _ _ _ h2 h3') fun ⟨a,ap,an⟩ ha=>Tot.bnd (ih _ ⟨ha.2.1,ha.2.2,h3'⟩ (by have:=ha.1;have:=ha.2.1;dsimp only [mu] at *;omega)) (ad _ ⟨ha.2.1,ha.2.2,h3'⟩) fun ⟨b,bp,bn⟩ hb=>eh _ _ _ _
   split
   ·rename_i h0;refine Tot.bnd (hbr _ _ _ h2 h3' (by have:=bg h0;omega)) (hbf _ _ _ h2 h3') fun ⟨a,ap,an⟩ ha=>Tot.bnd (ih _ ⟨ha.2.1,ha.2.2,h3'⟩ (by have:=ha.1;have:=ha.2.1;dsimp only [mu] at *;omega)) (ad _ ⟨ha.2.1,ha.2.2,h3'⟩) fun ⟨b,bp,bn⟩ hb=>?_
    dsimp only;split
    ·rename_i h;exact Tot.bnd (ih _ ⟨bg h,hb.2.2,h3'⟩ (by have:=bg h;have:=ha.1;have:=hb.1;dsimp only [mu,lo] at *;omega)) (ad _ ⟨bg h,hb.2.2,h3'⟩) fun ⟨c,cp,cn⟩ hc=>eh _ _ _ _
    ·exact eh _ _ _ _
   split
   ·rename_i h;refine Tot.bnd (ih _ ⟨bg h,h2,h3'⟩ (by have:=bg h;simp only [mu];omega)) (ad _ ⟨bg h,h2,h3'⟩) fun ⟨a,ap,an⟩ ha=>Tot.bnd (A:=fun q=>ap<=q/\q<=l.length) ?_ ?_ fun q hq=>(fm l _ _).bnd (bV l _ _) fun q2 hq2=>(mA l _ _).bnd (eQ l _ (by decide)) fun ⟨t,tp⟩ ht=>(fm l _ _).bnd (bV l _ _) fun q3 hq3=>Tot.bnd (ih _ ⟨hq3.2,ha.2.2,h3'⟩ (by have:=ha.1;have:=hq.1;have:=hq2.1;have:=ht.1;have:=hq3.1;have:=hq3.2;dsimp only [mu,lo] at *;omega)) (ad _ ⟨hq3.2,ha.2.2,h3'⟩) fun ⟨b,bp,bn⟩ hb=>eh _ _ _ _
    ·split<;>exact Tot.ok _
    ·split
     ·rename_i h;exact ⟨by omega,bg h⟩
     ·show (3:Int)≠0;decide
   split
   ·exact ih _ ⟨h1,h2,h3'⟩ (by simp only [mu];omega)
   split
   ·rename_i h;exact hend _ _ _ _ _ (bg h.2) h2 h3' (by have:=bg h.2;omega)
   ·exact hend _ _ _ _ _ h1 h2 h3' (by omega)
  | cd name names p ns =>
   obtain ⟨h1,h2,h4⟩:=hc;simp only [mm];simp only [mu] at hm;split
   ·rename_i h;exact Tot.bnd (ih _ ⟨bg h,h2,by omega⟩ (by have:=bg h;simp only [mu];omega)) (ad _ ⟨bg h,h2,by omega⟩) fun ⟨a,ap,an⟩ ha=>eh _ _ _ _
   ·refine Tot.bnd (A:=fun q=>p<=q/\q<=l.length) ?_ ?_ fun q hq=>(mA l _ _).bnd (eQ l _ (by decide)) fun ⟨t,tp⟩ ht=>ih _ ⟨ht.2,h2,by have:=ht.1;have:=hq.1;simp;omega⟩ (by have:=ht.1;have:=ht.2;have:=hq.1;simp only [mu];omega)
    ·split
     ·exact Tot.ok _
     ·exact fm _ _ _
    ·split
     ·exact ⟨al _,h1⟩
     ·exact (bV l p _).mono fun q hq=>⟨by omega,hq.2⟩
  | top kids p ns =>
   obtain ⟨h1,h2,h4⟩:=hc;simp only [mm];simp only [mu] at hm;split
   ·split
    ·rename_i h;exact (mA l _ _).bnd (eQ l _ (by decide)) fun ⟨t,tp⟩ ht=>(fm l _ _).bnd (bV l _ _) fun q hq=>Tot.bnd (ih _ ⟨hq.2,h2,by simp⟩ (by have:=bg h;have:=ht.1;have:=hq.1;simp only [mu];omega)) (ad _ ⟨hq.2,h2,by simp⟩) fun ⟨a,ap,an⟩ ha=>ih _ ⟨ha.2.1,ha.2.2,by have:=ha.1;have:=ht.1;have:=hq.1;dsimp only [lo] at *;simp;omega⟩ (by have:=bg h;have:=ha.1;have:=ha.2.1;have:=ht.1;have:=hq.1;dsimp only [mu,lo] at *;omega)
    ·exact Tot.bnd (ih _ ⟨h1,h2,by omega⟩ (by simp only [mu];omega)) (ad _ ⟨h1,h2,by omega⟩) fun ⟨a,ap,an⟩ ha=>ih _ ⟨ha.2.1,ha.2.2,by have:=ha.1;dsimp only [lo] at *;simp;omega⟩ (by have:=ha.1;have:=ha.2.1;dsimp only [mu,lo] at *;omega)
   ·exact eh _ _ _ _
theorem qC (hl:l.length<=300):∃ r,mm l 4000 (.top [] 0 [])=some r:=by
 have:=A8 l 4000 (.top [] 0 []) ⟨by omega,by simp,by simp⟩ (by simp only [mu];omega);cases h:mm l 4000 (.top [] 0 []) with
 | none=>exact absurd h this
 | some r=>exact ⟨r,rfl⟩
def PI.aY (l:List Tok) (s:PI) (a:Nat):O:= .st [.d (qD l),.d (.int .i64 s.pos),.arr a 0 s.nodes.length,.d (.int .i64 s.opn),.d (.int .i64 s.code),.d (.int .i64 s.place)]
def oc (l:List Tok):Int:=match l[l.length - 1]? with
 | some x=>((x.place+1:Nat):Int)
 | none=>0
def gV (l:List Tok) (p:Nat):V:=match l[p]? with
 | some x=> .agg [.d (.int .i64 x.kind),.d (.int .i64 x.place),.d (.str x.text)]
 | none=> .agg [.d (.int .i64 0),.d (.int .i64 (oc l)),.d (.str [])]
section
variable {C:Ctx} (hP:C.P=Tryz.prog)
include hP
theorem Bn (hl:dr l) (s:PI):Fn C 174 [.ptr 0 0 0] [s.aY l 1,aB s.nodes] (gV l s.pos) [some (s.aY l 1),some (aB s.nodes)]:=by
 refine eN hP IZ ⟨gP (fun h2=>⟨?_⟩) fun h2=>⟨?_⟩⟩
 ·have h2:s.pos < l.length:=by have:=ai h2;simp at this;omega
  obtain ⟨x,hx⟩:∃ x,l[s.pos]?=some x:=⟨_,aa h2⟩
  refine gD (fH hx) ⟨?_⟩;refine ah.aD (os':=[some (s.aY l 1),some (aB s.nodes)]) [0,1,2] trivial (by rfl) (by rfl) ⟨rfl,rfl,trivial⟩ ?_;(conv=>whnf);exact ⟨by rw [gV,hx],rfl⟩
 ·have h2:¬ s.pos < l.length:=by have:=ao h2;simp at this;omega
  have hn:l[s.pos]?=none:=bF (by omega);refine gP (fun h3=>⟨?_⟩) fun h3=>⟨?_⟩
  ·have h3:0 < l.length:=by have:=ai h3;simp at this;omega
   obtain ⟨x,hx⟩:∃ x,l[l.length - 1]?=some x:=⟨_,aa (by omega)⟩
   have hlen:(l.map Tok.enc).length=l.length:=by simp
   rw [wrap_i64 (by have:=hl.len;rw [hlen];omega)];refine ah.exD (row:=x.enc) (by rw [hlen,show ((l.length:Int) - 1).toNat=l.length - 1 by omega];simp [hx]) (by rw [hlen];omega) rfl ?_;refine gG ⟨?_⟩;have hp:=hl.place x (aP hx);rw [aC (by omega)];refine ah.aD (os':=[some (s.aY l 1),some (aB s.nodes)]) [0,1,2] trivial (by rfl) (by rfl) ⟨rfl,rfl,trivial⟩ ?_;(conv=>whnf);exact ⟨by simp only [gV,hn,oc,hx],rfl⟩
  ·have h3:l=[]:=by
    cases l with
    | nil=>rfl
    | cons a l=>simp at h3
   refine ah.aD (os':=[some (s.aY l 1),some (aB s.nodes)]) [0,1,2] trivial (by rfl) (by rfl) ⟨rfl,rfl,trivial⟩ ?_;(conv=>whnf);subst h3;exact ⟨by simp [gV,oc],rfl⟩
theorem xO (hl:dr l) (s:PI) (c:Int):Fn C 123 [.ptr 0 0 0,.d (.int .i64 c)] [s.aY l 1,aB s.nodes] (.tup []) [some ((s.fail l c).aY l 1),some (aB s.nodes)]:=by
 refine eN hP I8 ⟨gP (fun h1=>⟨?_⟩) fun h1=>⟨?_⟩⟩
 ·have h1:s.code=0:=ai h1;have hk:=Bn hP hl {s with code:=c};cases hx:l[s.pos]? with
  | some x =>
   rw [show gV l ({s with code:=c}:PI).pos= .agg [.d (.int .i64 x.kind),.d (.int .i64 x.place),.d (.str x.text)] by simp only [gV,hx]] at hk;refine gC [0,1] hk ⟨lW ⟨⟨?_,rfl,trivial⟩,rfl⟩⟩;simp [PI.fail,h1,cY,hx];rfl
  | none =>
   rw [show gV l ({s with code:=c}:PI).pos= .agg [.d (.int .i64 0),.d (.int .i64 (oc l)),.d (.str [])] by simp only [gV,hx]] at hk;refine gC [0,1] hk ⟨lW ⟨⟨?_,rfl,trivial⟩,rfl⟩⟩;simp [PI.fail,h1,cY,hx,oc];rfl
 ·have h1:¬ s.code=0:=ao h1;refine lW ⟨⟨?_,rfl,trivial⟩,rfl⟩;simp [PI.fail,h1];rfl
def isX (l:List Tok) (p:Nat) (t:List UInt8):Bool:=match l[p]? with
 | some x=>(decide (x.kind=2) || decide (x.kind=5))&&decide (x.text=t)
 | none=>false
omit hP in
theorem EJ (h:isX l p t=true):p < l.length:=by
 unfold isX at h;cases hx:l[p]? with
 | none=>rw [hx] at h;cases h
 | some x=>exact (af.1 hx).1
theorem Gc (hl:dr l) (s:PI) (t:List UInt8) (ht:t≠[]):Fn C 117 [.ptr 0 0 0,.d (.str t)] [s.aY l 1,aB s.nodes] (.d (.bool (isX l s.pos t))) [some (s.aY l 1),some (aB s.nodes)]:=by
 refine eN hP c117 ⟨?_⟩;have hk:=Bn hP hl s;cases hx:l[s.pos]? with
 | some x =>
  rw [show gV l s.pos= .agg [.d (.int .i64 x.kind),.d (.int .i64 x.place),.d (.str x.text)] by simp only [gV,hx]] at hk;refine gC [0,1] hk ⟨gP (fun h1=>⟨?_⟩) fun h1=>⟨?_⟩⟩
  ·refine ah.aD (os':=[some (s.aY l 1),some (aB s.nodes)]) [0,1] trivial rfl rfl ⟨rfl,rfl,trivial⟩ ?_;(conv=>whnf);exact ⟨by simp [isX,hx,ai h1],rfl⟩
  ·have h1:¬ x.kind=2:=ao h1;refine gP (fun h2=>⟨?_⟩) fun h2=>⟨?_⟩
   ·refine ah.aD (os':=[some (s.aY l 1),some (aB s.nodes)]) [0,1] trivial rfl rfl ⟨rfl,rfl,trivial⟩ ?_;(conv=>whnf);exact ⟨by simp [isX,hx,ai h2],rfl⟩
   ·have h2:¬ x.kind=5:=ao h2;refine ah.aD (os':=[some (s.aY l 1),some (aB s.nodes)]) [0,1] trivial rfl rfl ⟨rfl,rfl,trivial⟩ ?_;(conv=>whnf);exact ⟨by simp [isX,hx,h1,h2],rfl⟩
 | none =>
  rw [show gV l s.pos= .agg [.d (.int .i64 0),.d (.int .i64 (oc l)),.d (.str [])] by simp only [gV,hx]] at hk;refine gC [0,1] hk ⟨gX ⟨gX ⟨?_⟩⟩⟩;refine ah.aD (os':=[some (s.aY l 1),some (aB s.nodes)]) [0,1] trivial rfl rfl ⟨rfl,rfl,trivial⟩ ?_;(conv=>whnf);exact ⟨by simp [isX,hx],rfl⟩
def tkB (l:List Tok) (s:PI) (t:List UInt8):Bool:=decide (s.code=0)&&isX l s.pos t
theorem k83 (hl:dr l) (s:PI) (t:List UInt8) (ht:t≠[]):Fn C 83 [.ptr 0 0 0,.d (.str t)] [s.aY l 1,aB s.nodes] (.d (.bool (tkB l s t))) [some ((s.adv (tkB l s t)).aY l 1),some (aB s.nodes)]:=by
 refine eN hP c83 ⟨gP (fun h1=>⟨?_⟩) fun h1=>⟨?_⟩⟩
 ·have h1:s.code=0:=ai h1;refine gC [0,1] (Gc hP hl s t ht) ⟨gP (fun h2=>⟨?_⟩) fun h2=>⟨?_⟩⟩
  ·have hb:tkB l s t=true:=by simp [tkB,h1,h2]
   rw [hb,aC (by have:=EJ h2;have:=hl.len;omega)];exact lW ⟨⟨rfl,rfl,trivial⟩,rfl⟩
  ·have hb:tkB l s t=false:=by simp [tkB,h2]
   rw [hb];exact lW ⟨⟨rfl,rfl,trivial⟩,rfl⟩
 ·have h1:¬ s.code=0:=ao h1;have hb:tkB l s t=false:=by simp [tkB,h1]
  rw [hb];exact lW ⟨⟨rfl,rfl,trivial⟩,rfl⟩
def PI.nV (l:List Tok) (s:PI) (t:List UInt8):PI:=if s.code=0 then (if isX l s.pos t=true then s.adv true else s.fail l 3) else s
theorem HZ (hl:dr l) (s:PI) (t:List UInt8) (ht:t≠[]):Fn C 119 [.ptr 0 0 0,.d (.str t)] [s.aY l 1,aB s.nodes] (.tup []) [some ((s.nV l t).aY l 1),some (aB s.nodes)]:=by
 refine eN hP c119 ⟨gP (fun h1=>⟨?_⟩) fun h1=>⟨?_⟩⟩
 ·have h1:s.code=0:=ai h1;have hk:=k83 hP hl s t ht;cases h2:isX l s.pos t with
  | true =>
   rw [show tkB l s t=true by simp [tkB,h1,h2]] at hk;refine gC [0,1] hk ⟨gX ⟨lW ⟨⟨?_,rfl,trivial⟩,rfl⟩⟩⟩;simp [PI.nV,h1,h2];rfl
  | false =>
   rw [show tkB l s t=false by simp [tkB,h2]] at hk;refine gC [0,1] hk ⟨gY ⟨gC [0,1] (xO hP hl s 3) ⟨lW ⟨⟨?_,rfl,trivial⟩,rfl⟩⟩⟩⟩;simp [PI.nV,h1,h2];rfl
 ·have h1:¬ s.code=0:=ao h1;refine lW ⟨⟨?_,rfl,trivial⟩,rfl⟩;simp [PI.nV,h1];rfl
def hJ (l:List Tok) (p:Nat):List UInt8:=if dc l p=1 then cF l p else []
def PI.hJ (l:List Tok) (s:PI):PI:=if dc l s.pos=1 then s.adv true else s.fail l 3
theorem H0 (hl:dr l) (s:PI):Fn C 118 [.ptr 0 0 0] [s.aY l 1,aB s.nodes] (.d (.str (Loc.hJ l s.pos))) [some ((s.hJ l).aY l 1),some (aB s.nodes)]:=by
 refine eN hP Ja ⟨?_⟩;have hk:=Bn hP hl s;cases hx:l[s.pos]? with
 | some x =>
  have hlt:=(af.1 hx).1;rw [show gV l s.pos= .agg [.d (.int .i64 x.kind),.d (.int .i64 x.place),.d (.str x.text)] by simp only [gV,hx]] at hk;refine gC [0,1] hk ⟨gP (fun h1=>⟨?_⟩) fun h1=>⟨?_⟩⟩
  ·have h1:¬ x.kind=1:=by simpa using h1
   have hb:¬ dc l s.pos=1:=by simp only [dc,hx];exact h1
   refine gC [0,1] (xO hP hl s 3) ⟨?_⟩;refine ah.aD (os':=[some ((s.hJ l).aY l 1),some (aB s.nodes)]) [0,1] trivial rfl rfl ⟨?_,rfl,trivial⟩ ?_
   ·simp only [PI.hJ,ab hb];rfl
   ·(conv=>whnf);exact ⟨by rw [Loc.hJ,ab hb],rfl⟩
  ·have h1:x.kind=1:=by simpa using h1
   have hb:dc l s.pos=1:=by simp only [dc,hx];exact h1
   rw [aC (by have:=hl.len;omega)];refine ah.aD (os':=[some ((s.hJ l).aY l 1),some (aB s.nodes)]) [0,1] trivial rfl rfl ⟨?_,rfl,trivial⟩ ?_
   ·simp only [PI.hJ,aj hb];rfl
   ·(conv=>whnf);exact ⟨by rw [Loc.hJ,aj hb];simp only [cF,hx],rfl⟩
 | none =>
  have hb:¬ dc l s.pos=1:=by simp only [dc,hx];decide
  rw [show gV l s.pos= .agg [.d (.int .i64 0),.d (.int .i64 (oc l)),.d (.str [])] by simp only [gV,hx]] at hk;refine gC [0,1] hk ⟨gY ⟨gC [0,1] (xO hP hl s 3) ⟨?_⟩⟩⟩;refine ah.aD (os':=[some ((s.hJ l).aY l 1),some (aB s.nodes)]) [0,1] trivial rfl rfl ⟨?_,rfl,trivial⟩ ?_
  ·simp only [PI.hJ,ab hb];rfl
  ·(conv=>whnf);exact ⟨by rw [Loc.hJ,ab hb],rfl⟩
def PI.down (l:List Tok) (s:PI):PI:=if 20 < s.opn+1 then PI.fail l {s with opn:=s.opn+1} 9 else {s with opn:=s.opn+1}
theorem EE (hl:dr l) (s:PI) (h0:0<=s.opn) (h1:s.opn<=100):Fn C 121 [.ptr 0 0 0] [s.aY l 1,aB s.nodes] (.d (.bool (decide ((s.down l).code=0)))) [some ((s.down l).aY l 1),some (aB s.nodes)]:=by
 refine eN hP I9 ⟨?_⟩;rw [wrap_i64 (by omega)];refine gP (fun h2=>⟨?_⟩) fun h2=>⟨?_⟩
 ·have h2:20 < s.opn+1:=ai h2;refine gC [0,1] (xO hP hl {s with opn:=s.opn+1} 9) ⟨?_⟩;refine ah.aD (os':=[some ((s.down l).aY l 1),some (aB s.nodes)]) [0,1] trivial rfl rfl ⟨?_,rfl,trivial⟩ ?_
  ·simp only [PI.down,aj h2];rfl
  ·(conv=>whnf);exact ⟨by simp only [PI.down,aj h2],rfl⟩
 ·have h2:¬ 20 < s.opn+1:=ao h2;refine ah.aD (os':=[some ((s.down l).aY l 1),some (aB s.nodes)]) [0,1] trivial rfl rfl ⟨?_,rfl,trivial⟩ ?_
  ·simp only [PI.down,ab h2];rfl
  ·(conv=>whnf);exact ⟨by simp only [PI.down,ab h2],rfl⟩
def PI.put (l:List Tok) (s:PI) (x:Nd):PI:=if s.nodes.length=200 then s.fail l 6 else {s with nodes:=s.nodes++[x]}
def PI.AT (s:PI):Int:=if s.nodes.length=200 then 0 else s.nodes.length
theorem k86 (hl:dr l) (s:PI) (x:Nd) (hn:s.nodes.length<=200) (hn1:x.names.length<=1000) (hn2:x.kids.length<=1000) (hnd:lsD (strs x.names) nd) (hkd:lsD (bJ x.kids) kd) :
  Fn C 86 [.ptr 0 0 0,ndV x nd kd] [s.aY l 1,aB s.nodes] (.d (.int .i64 s.AT)) [some ((s.put l x).aY l 2),none,some (aB (s.put l x).nodes)]:=by
 have hfn:(s.fail l 6).nodes=s.nodes:=by unfold PI.fail;split<;>rfl
 refine eH hP c86 ?_;by_cases h2:s.nodes.length=200
 ·rcases hnd with rfl | ⟨rfl,hnd⟩<;>rcases hkd with rfl | ⟨rfl,hkd⟩ <;>
  ·refine gG ⟨?_⟩;refine gY ⟨gC [0,1] (xO hP hl s 6) ⟨?_⟩⟩ (aR (by rw [h2];rfl));refine ah.aD (os':=[some ((s.fail l 6).aY l 2),none,some (aB s.nodes)]) [0,1,3] trivial rfl rfl ⟨rfl,rfl,trivial⟩ ?_;(conv=>whnf);exact ⟨by rw [PI.AT,aj h2],by rw [PI.put,aj h2,hfn]⟩
 ·rcases hnd with rfl | ⟨rfl,hnd⟩<;>rcases hkd with rfl | ⟨rfl,hkd⟩ <;>
  ·refine gG ⟨gX ⟨?_⟩ (aI (by omega))⟩;refine gN (by simp<;>omega) ⟨?_⟩;refine gN (by simp<;>omega) ⟨?_⟩;refine gN (by simp [Sh.len];omega) ⟨?_⟩;refine ah.aD (os':=[some ((s.put l x).aY l 2),none,some (aB (s.put l x).nodes)]) [0,1,7] trivial (by rfl) (by rfl) ⟨?_,?_,trivial⟩ ?_
   ·(conv=>lhs;whnf);simp [PI.aY,PI.put,h2,Sh.len]
   ·(conv=>lhs;whnf);simp_all [PI.put,h2,aB,Nd.enc,ae,strs,bJ]
   ·(conv=>whnf);refine ⟨?_,rfl⟩;rw [PI.AT,ab h2,wrap_i64 (by simp [Sh.len];omega)];simp [Sh.len]
end
abbrev St:=Except (Int×Int) (Nat×List Nd)
def onS {β:Type} (ρ:St) (F:Nat->List Nd->Option (Except (Int×Int) β)):Option (Except (Int×Int) β):=match ρ with
 | .ok (p,ns)=>F p ns
 | .error e=>some (.error e)
def T (l:List Tok) (d:Nat) (ρ:St) (s:PI):Prop:=match ρ with
 | .ok (p,ns)=>s=s0 p d ns/\p<=l.length/\ns.length<=200
 | .error e=>s.code=e.1/\s.place=e.2/\e.1≠0/\s.nodes.length<=200/\s.pos<=l.length/\s.opn=d
def st (r:cV):St:=match r with
 | .ok (y,p,ns)=> .ok (p,ns)
 | .error e=> .error e
def vl (r:cV) (x:Int):Prop:=∀ y p ns,r= .ok (y,p,ns)->x=y
def SQ (l:List Tok) (d:Nat) (r:cV) (v:V) (os':List (Option O)):Prop :=
 ∃ (x:Int) (s:PI),v= .d (.int .i64 x)/\os'=[some (s.aY l 2),none,some (aB s.nodes)]/\T l d (st r) s/\vl r x
def ndS (l:List Tok) (k:Int) (t:List UInt8) (ρ:St):St:=match ρ with
 | .ok (p,ns)=>if isS l p k t=true then .ok (p+1,ns) else .error (3,cY l p)
 | .error e=> .error e
def nmS (l:List Tok) (ρ:St):St:=match ρ with
 | .ok (p,ns)=>if dc l p=1 then .ok (p+1,ns) else .error (3,cY l p)
 | .error e=> .error e
theorem ed {ρ:St} {F:Nat->List Nd->Option cV} {K:Int×Nat×List Nd->Option (Except (Int×Int) β)} {r:Except (Int×Int) β} (h:onS ρ (fun p ns=>bnd (F p ns) K)=some r) :
  ∃ r2,onS ρ F=some r2/\∀ x,vl r2 x->onS (st r2) (fun p ns=>K (x,p,ns))=some r:=by
 match ρ,h with
 | .error e,h=>cases h;exact ⟨.error e,rfl,fun x hx=>rfl⟩
 | .ok (p,ns),h =>
  have h:bnd (F p ns) K=some r:=h;rcases cM h with ⟨e,he,rfl⟩ | ⟨⟨a,q,ns'⟩,ha,h⟩
  ·exact ⟨.error e,he,fun x hx=>rfl⟩
  ·refine ⟨.ok (a,q,ns'),ha,fun x hx=>?_⟩;rw [hx a q ns' rfl];exact h
theorem iX {ρ:St} {K:Nat->List Nd->Option (Except (Int×Int) β)} {r:Except (Int×Int) β} (h:onS ρ (fun p ns=>bnd (a8 l p t) fun q=>K q ns)=some r):onS (ndS l 5 t ρ) K=some r:=by
 match ρ,h with
 | .error e,h=>exact h
 | .ok (p,ns),h =>
  have h:bnd (a8 l p t) (fun q=>K q ns)=some r:=h;unfold a8 at h;unfold ndS;by_cases hs:isS l p 5 t=true
  ·rw [aj hs] at h;simp only [aj hs];exact h
  ·rw [ab hs] at h;simp only [ab hs];exact h
theorem Fk {ρ:St} {K:Nat->List Nd->Option (Except (Int×Int) β)} {r:Except (Int×Int) β} (h:onS ρ (fun p ns=>bnd (if isS l p 2 t=true then some (.ok (p+1)) else some (.error (3,cY l p))) fun q=>K q ns)=some r):onS (ndS l 2 t ρ) K=some r:=by
 match ρ,h with
 | .error e,h=>exact h
 | .ok (p,ns),h =>
  have h:bnd (if isS l p 2 t=true then some (.ok (p+1)) else some (.error (3,cY l p))) (fun q=>K q ns)=some r:=h;unfold ndS;by_cases hs:isS l p 2 t=true
  ·rw [aj hs] at h;simp only [aj hs];exact h
  ·rw [ab hs] at h;simp only [ab hs];exact h
def tx (l:List Tok) (ρ:St) (t:List UInt8):Prop:=∀ p ns,ρ= .ok (p,ns)->dc l p=1->t=cF l p
theorem stepT {ρ:St} {K:List UInt8×Nat->List Nd->Option (Except (Int×Int) β)} {r:Except (Int×Int) β} (h:onS ρ (fun p ns=>bnd (cU l p 1) fun y=>K y ns)=some r) (ht:tx l ρ t):onS (nmS l ρ) (fun q ns=>K (t,q) ns)=some r:=by
 match ρ,h,ht with
 | .error e,h,_=>exact h
 | .ok (p,ns),h,ht =>
  have h:bnd (cU l p 1) (fun y=>K y ns)=some r:=h;unfold cU at h;unfold nmS;by_cases hs:dc l p=1
  ·rw [aj hs] at h;simp only [aj hs];rw [ht p ns rfl hs];exact h
  ·rw [ab hs] at h;simp only [ab hs];exact h
theorem cm (hl:dr l) (ht:¬ t∈words) (p:Nat):isX l p t=isS l p 5 t:=by
 unfold isX isS;cases hx:l[p]? with
 | none=>rfl
 | some x =>
  have hm:=aP hx;by_cases h2:x.kind=2
  ·have hw:=hl.word x hm h2;have hn:¬ x.text=t:=fun h=>ht (h▸hw)
   simp [hn]
  ·simp [h2]
theorem dI (hl:dr l) (ht:t∈words) (p:Nat):isX l p t=isS l p 2 t:=by
 unfold isX isS;cases hx:l[p]? with
 | none=>rfl
 | some x =>
  have hm:=aP hx;by_cases h2:x.kind=5
  ·have hw:=hl.sign x hm h2;have hn:¬ x.text=t:=fun h=>hw (h▸ht)
   simp [hn]
  ·simp [h2]
theorem T.nodes {ρ:St} (h:T l d ρ s):s.nodes.length<=200:=by
 match ρ,h with
 | .ok (p,ns),h=>rw [h.1];exact h.2.2
 | .error e,h=>exact h.2.2.2.1
theorem T.opn {ρ:St} (h:T l d ρ s):s.opn=d:=by
 match ρ,h with
 | .ok (p,ns),h=>rw [h.1];rfl
 | .error e,h=>exact h.2.2.2.2.2
section
variable {C:Ctx} (hP:C.P=Tryz.prog)
include hP
section
variable {l:List Tok} (hl:dr l) {d:Nat} {ρ:St} {s:PI} (q:T l d ρ s)
include hl q
theorem kM (k:Int) (t:List UInt8) (hk:∀ p,isX l p t=isS l p k t) (ht:t≠[]):∃ s',Fn C 119 [.ptr 0 0 0,.d (.str t)] [s.aY l 1,aB s.nodes] (.tup []) [some (s'.aY l 1),some (aB s'.nodes)]/\T l d (ndS l k t ρ) s':=by
 have hk0:=HZ hP hl s t ht;refine ⟨s.nV l t,?_,?_⟩
 ·have e:(s.nV l t).nodes=s.nodes:=by
   unfold PI.nV PI.fail PI.adv;repeat' split
   all_goals rfl
  rw [e];exact hk0
 ·match ρ,q with
  | .error e,q =>
   unfold PI.nV;rw [ab (by rw [q.1];exact q.2.2.1)];exact q
  | .ok (p,ns),q =>
   obtain ⟨rfl,h1,h2⟩:=q;unfold PI.nV ndS;rw [aj (show (s0 p d ns).code=0 from rfl)];show T l d (if isS l p k t=true then _ else _) (if isX l p t=true then _ else _);rw [hk p];by_cases hs:isS l p k t=true
   ·rw [aj hs,aj hs];exact ⟨rfl,bg hs,h2⟩
   ·rw [ab hs,ab hs];exact ⟨rfl,rfl,by show (3:Int)≠0;decide,h2,h1,rfl⟩
theorem Cm:∃ (t:List UInt8) (s':PI),Fn C 118 [.ptr 0 0 0] [s.aY l 1,aB s.nodes] (.d (.str t)) [some (s'.aY l 1),some (aB s'.nodes)]/\T l d (nmS l ρ) s'/\tx l ρ t:=by
 have hk0:=H0 hP hl s;refine ⟨Loc.hJ l s.pos,s.hJ l,?_,?_,?_⟩
 ·have e:(s.hJ l).nodes=s.nodes:=by
   unfold PI.hJ PI.fail PI.adv;repeat' split
   all_goals rfl
  rw [e];exact hk0
 ·match ρ,q with
  | .error e,q =>
   unfold PI.hJ PI.fail;split
   ·rename_i h;exact ⟨q.1,q.2.1,q.2.2.1,q.2.2.2.1,eZ (by rw [h];decide),q.2.2.2.2.2⟩
   ·rw [ab (by rw [q.1];exact q.2.2.1)];exact q
  | .ok (p,ns),q =>
   obtain ⟨rfl,h1,h2⟩:=q;unfold PI.hJ nmS;by_cases hs:dc l p=1
   ·rw [show (s0 p d ns).pos=p from rfl,aj hs];dsimp only;rw [aj hs];exact ⟨rfl,eZ (by rw [hs];decide),h2⟩
   ·rw [show (s0 p d ns).pos=p from rfl,ab hs];dsimp only;rw [ab hs];exact ⟨rfl,rfl,by show (3:Int)≠0;decide,h2,h1,rfl⟩
 ·intro p ns hr hk;subst hr;obtain ⟨rfl,h1,h2⟩:=q;show Loc.hJ l p=_;rw [Loc.hJ,aj hk]
theorem u86 (x:Nd) (hn1:x.names.length<=1000) (hn2:x.kids.length<=1000) (hnd:lsD (strs x.names) nd) (hkd:lsD (bJ x.kids) kd) {r:cV} (h:onS ρ (fun p ns=>cv l p ns x)=some r) :
  ∃ (y:Int) (s':PI),Fn C 86 [.ptr 0 0 0,ndV x nd kd] [s.aY l 1,aB s.nodes] (.d (.int .i64 y)) [some (s'.aY l 2),none,some (aB s'.nodes)]/\T l d (st r) s'/\vl r y:=by
 have hk0:=k86 hP hl s x q.nodes hn1 hn2 hnd hkd;refine ⟨s.AT,s.put l x,hk0,?_,?_⟩
 ·match ρ,q,h with
  | .error e,q,h =>
   cases h;unfold PI.put;split
   ·unfold PI.fail;rw [ab (by rw [q.1];exact q.2.2.1)];exact q
   ·rename_i hh;refine ⟨q.1,q.2.1,q.2.2.1,?_,q.2.2.2.2.1,q.2.2.2.2.2⟩;have:=q.2.2.2.1;simp;omega
  | .ok (p,ns),q,h =>
   obtain ⟨rfl,h1,h2⟩:=q;have h:cv l p ns x=some r:=h;unfold cv at h;unfold PI.put;by_cases hh:ns.length=200
   ·rw [aj hh] at h;cases h;rw [aj (show (s0 p d ns).nodes.length=200 from hh)];exact ⟨rfl,rfl,by show (6:Int)≠0;decide,h2,h1,rfl⟩
   ·rw [ab hh] at h;cases h;rw [ab (show ¬ (s0 p d ns).nodes.length=200 from hh)];exact ⟨rfl,h1,by simp;omega⟩
 ·intro y p' ns' hr;subst hr
  match ρ,q,h with
  | .error e,q,h=>cases h
  | .ok (p,ns),q,h =>
   obtain ⟨rfl,h1,h2⟩:=q;have h:cv l p ns x=some (.ok (y,p',ns')):=h;unfold cv at h;by_cases hh:ns.length=200
   ·rw [aj hh] at h;cases h
   ·rw [ab hh] at h;cases h;unfold PI.AT;exact ab hh
end
section
variable {l:List Tok} (hl:dr l) {d:Nat}
include hl
theorem y83 (k:Int) (hk:∀ p,isX l p t=isS l p k t) (ht:t≠[]) (h:isS l p k t=true):Fn C 83 [.ptr 0 0 0,.d (.str t)] [(s0 p d ns).aY l 1,aB ns] (.d (.bool true)) [some ((s0 (p+1) d ns).aY l 1),some (aB ns)]:=by
 have:=k83 hP hl (s0 p d ns) t ht
 rwa [show tkB l (s0 p d ns) t=true by unfold tkB;rw [show (s0 p d ns).pos=p from rfl,hk p,h];rfl] at this
theorem n83 (k:Int) (hk:∀ p,isX l p t=isS l p k t) (ht:t≠[]) (h:isS l p k t=false):Fn C 83 [.ptr 0 0 0,.d (.str t)] [(s0 p d ns).aY l 1,aB ns] (.d (.bool false)) [some ((s0 p d ns).aY l 1),some (aB ns)]:=by
 have:=k83 hP hl (s0 p d ns) t ht
 rwa [show tkB l (s0 p d ns) t=false by unfold tkB;rw [show (s0 p d ns).pos=p from rfl,hk p,h,Bool.and_false]] at this
theorem e83 (hc:s.code≠0) (ht:t≠[]):Fn C 83 [.ptr 0 0 0,.d (.str t)] [s.aY l 1,aB s.nodes] (.d (.bool false)) [some (s.aY l 1),some (aB s.nodes)]:=by
 have:=k83 hP hl s t ht
 rwa [show tkB l s t=false by unfold tkB;rw [aI hc];rfl] at this
theorem sQ (p:Nat) (ns:List Nd) (k:Int) (hk:∀ p,isX l p t=isS l p k t) (ht:t≠[]):Fn C 117 [.ptr 0 0 0,.d (.str t)] [(s0 p d ns).aY l 1,aB ns] (.d (.bool (isS l p k t))) [some ((s0 p d ns).aY l 1),some (aB ns)]:=by
 have:=Gc hP hl (s0 p d ns) t ht
 rwa [show isX l (s0 p d ns).pos t=isS l p k t from hk p] at this
theorem zz {x:Tok} (hx:l[p]?=some x):Fn C 174 [.ptr 0 0 0] [(s0 p d ns).aY l 1,aB ns] (.agg [.d (.int .i64 x.kind),.d (.int .i64 x.place),.d (.str x.text)]) [some ((s0 p d ns).aY l 1),some (aB ns)]:=by
 have:=Bn hP hl (s0 p d ns)
 rwa [show gV l (s0 p d ns).pos= .agg [.d (.int .i64 x.kind),.d (.int .i64 x.place),.d (.str x.text)] by simp only [gV,show (s0 p d ns).pos=p from rfl,hx]] at this
theorem Fg (hx:l[p]?=none):Fn C 174 [.ptr 0 0 0] [(s0 p d ns).aY l 1,aB ns] (.agg [.d (.int .i64 0),.d (.int .i64 (oc l)),.d (.str [])]) [some ((s0 p d ns).aY l 1),some (aB ns)]:=by
 have:=Bn hP hl (s0 p d ns)
 rwa [show gV l (s0 p d ns).pos= .agg [.d (.int .i64 0),.d (.int .i64 (oc l)),.d (.str [])] by simp only [gV,show (s0 p d ns).pos=p from rfl,hx]] at this
theorem DT (hd:d < 20):Fn C 121 [.ptr 0 0 0] [(s0 p d ns).aY l 1,aB ns] (.d (.bool true)) [some ((s0 p (d+1) ns).aY l 1),some (aB ns)]:=by
 have:=EE hP hl (s0 p d ns) (by show (0:Int)<=(d:Int);omega) (by show (d:Int)<=100;omega)
 rwa [show (s0 p d ns).down l=s0 p (d+1) ns by unfold PI.down;rw [ab (show ¬ 20 < (s0 p d ns).opn+1 by show ¬ 20 < (d:Int)+1;omega)];rfl] at this
theorem n121 :Fn C 121 [.ptr 0 0 0] [(s0 p 20 ns).aY l 1,aB ns] (.d (.bool false)) [some ((sF l p 21 ns 9).aY l 1),some (aB ns)]:=by
 have:=EE hP hl (s0 p 20 ns) (by show (0:Int)<=20;decide) (by show (20:Int)<=100;decide)
 rwa [show (s0 p 20 ns).down l=sF l p 21 ns 9 from rfl] at this
theorem Ii (hc:s.code≠0) (h0:0<=s.opn) (h1:s.opn<=100):Fn C 121 [.ptr 0 0 0] [s.aY l 1,aB s.nodes] (.d (.bool false)) [some (PI.aY l {s with opn:=s.opn+1} 1),some (aB s.nodes)]:=by
 have:=EE hP hl s h0 h1;have e:s.down l={s with opn:=s.opn+1}:=by
  unfold PI.down PI.fail;rw [ab hc];split<;>rfl
 rwa [e,aI hc] at this
end
end
def OpL (C:Ctx) (l:List Tok) (c:L) (d:Nat) (r:cV) (a:Int) (s:PI):Prop:=b4 C 2 [(2,none)] (SQ l d r) (Cfg.eF c 0 [(0,.ptr 0 0 0),(2,.d (.int .i64 0)),(3,.d (.int .i64 a))] [(0,s.aY l 2),(2,aB s.nodes)] 3)
def KdL (C:Ctx) (l:List Tok) (d:Nat) (r:cV) (ks:List Int) (s:PI):Prop:=b4 C 2 [(2,none)] (SQ l d r) (Cfg.eF E7.l 0 [(0,.ptr 0 0 0),(2,.d (.int .i64 0)),(3,.arr 2 0 ks.length)] [(0,s.aY l 3),(2,.da 1 (ks.map fun k=>[.int .i64 k])),(3,aB s.nodes)] 4)
section
variable {C:Ctx} (hP:C.P=Tryz.prog)
include hP
section
variable {l:List Tok} (hl:dr l) {d:Nat} {e:Int×Int} {s:PI} (q:T l d (.error e) s)
include hl q
omit hP hl in
theorem T.code:s.code≠0:=by rw [q.1];exact q.2.2.1
omit hP hl q in
theorem vlE (x:Int):vl (.error e) x:=fun y p ns h=>by cases h
theorem DK (a:Int):OpL C l xg.l d (.error e) a s:=by
 refine gL ⟨gX ⟨gT ⟨?_⟩⟩ (aI (T.code q))⟩;refine ah.aD (os':=[some (PI.aY _ s 2),none,some (aB (PI.nodes s))]) [0,1,2] trivial rfl rfl ⟨rfl,rfl,trivial⟩ ?_;(conv=>whnf);exact ⟨_,s,rfl,rfl,q,vlE _⟩
theorem DL (a:Int):OpL C l xh.l d (.error e) a s:=by
 refine gL ⟨gX ⟨gT ⟨?_⟩⟩ (aI (T.code q))⟩;refine ah.aD (os':=[some (PI.aY _ s 2),none,some (aB (PI.nodes s))]) [0,1,2] trivial rfl rfl ⟨rfl,rfl,trivial⟩ ?_;(conv=>whnf);exact ⟨_,s,rfl,rfl,q,vlE _⟩
theorem DM (a:Int):OpL C l xi.l d (.error e) a s:=by
 refine gL ⟨gX ⟨gT ⟨?_⟩⟩ (aI (T.code q))⟩;refine ah.aD (os':=[some (PI.aY _ s 2),none,some (aB (PI.nodes s))]) [0,1,2] trivial rfl rfl ⟨rfl,rfl,trivial⟩ ?_;(conv=>whnf);exact ⟨_,s,rfl,rfl,q,vlE _⟩
theorem DN (a:Int):OpL C l Ai.l d (.error e) a s:=by
 refine gL ⟨gC [0,2] (e83 hP hl (T.code q) (t:=[38,38]) (by decide)) ⟨gX ⟨?_⟩⟩⟩;refine ah.aD (os':=[some (PI.aY _ s 2),none,some (aB (PI.nodes s))]) [0,1,2] trivial rfl rfl ⟨rfl,rfl,trivial⟩ ?_;(conv=>whnf);exact ⟨_,s,rfl,rfl,q,vlE _⟩
omit q in
theorem DP {s:PI} (q:T l (d+1) (.error e) s) (hd:d<=50) (a:Int):OpL C l c175.l d (.error e) a s:=by
 refine gL ⟨gC [0,2] (e83 hP hl (T.code q) (t:=[124,124]) (by decide)) ⟨gX ⟨?_⟩⟩⟩;have ho:=q.opn;rw [wrap_i64 (by omega)];refine ah.aD (os':=[some (PI.aY _ ({s with opn:=s.opn - 1}) 2),none,some (aB (PI.nodes ({s with opn:=s.opn - 1})))]) [0,1,2] trivial rfl rfl ⟨rfl,rfl,trivial⟩ ?_;(conv=>whnf);exact ⟨_,{s with opn:=s.opn - 1},rfl,rfl,⟨q.1,q.2.1,q.2.2.1,q.2.2.2.1,q.2.2.2.2.1,by show s.opn - 1=d;omega⟩,vlE _⟩
theorem Gv (hd:d<=50):FnE C 175 [.ptr 0 0 0] [s.aY l 1,aB s.nodes] (SQ l d (.error e)):=by
 refine eE hP c175 ⟨?_⟩;have ho:=q.opn;refine gC [0,1] (Ii hP hl (T.code q) (by omega) (by omega)) ⟨gY ⟨?_⟩⟩;rw [show s.opn+1 - 1=s.opn by omega,wrap_i64 (by omega)];refine ah.aD (os':=[some (PI.aY _ s 2),none,some (aB (PI.nodes s))]) [0,1,2] trivial rfl rfl ⟨rfl,rfl,trivial⟩ ?_;(conv=>whnf);exact ⟨_,s,rfl,rfl,q,vlE _⟩
theorem BP (ks:List Int) (hk:ks.length<=301):KdL C l d (.error e) ks s:=by
 refine gL ⟨gX ⟨?_⟩ (aI (T.code q))⟩;rw [cW];refine gT ⟨?_⟩;obtain ⟨y,s1,k1,q1,_⟩:=u86 hP hl q ⟨18,0,[],[],ks⟩ (by simp) (by show ks.length<=_;omega) (nd:= .nil) (kd:=bJ ks) (.inr ⟨rfl,rfl⟩) (.inl rfl) (r:= .error e) rfl;refine gC [0,2] k1 ⟨?_⟩;refine ah.aD (os':=[some (PI.aY _ s1 2),none,some (aB (PI.nodes s1))]) [0,1,3] trivial rfl rfl ⟨rfl,rfl,trivial⟩ ?_;(conv=>whnf);exact ⟨_,s1,rfl,rfl,q1,vlE _⟩
theorem Gw:FnE C 120 [.ptr 0 0 0] [s.aY l 1,aB s.nodes] (SQ l d (.error e)):=by
 refine eE hP E7 ⟨?_⟩;obtain ⟨s1,k1,q1⟩:=kM hP hl q 5 [123] (cm hl (by decide)) (by decide);refine gC [0,1] k1 ⟨?_⟩;exact BP hP hl q1 [] (by simp)
end
end
end Go.Proofs.YtggoiofammbchaaGreatDoor.Loc
