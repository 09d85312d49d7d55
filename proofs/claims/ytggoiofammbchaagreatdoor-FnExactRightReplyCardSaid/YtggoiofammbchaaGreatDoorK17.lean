/- Part 17 of a chain that ends in the statement named in GOCLAIM.json; no condition. -/
import Derived.Test.YtggoiofammbchaaGreatDoorK16
set_option maxRecDepth 100000
set_option maxHeartbeats 2000000
set_option linter.all false
namespace Go.Proofs.YtggoiofammbchaaGreatDoor.Loc
open Go
variable {a b:Sc}
def slI (l:List (List UInt8)) (t:List UInt8):Int:=if au l t < 0 then 0 else au l t
structure mg (C:Ctx):Prop where
 slot:∀ (fn:List (List UInt8)) (g:Gs) (ns:List Nd) (root:Int) (t:List UInt8),g.names.length<=1073741824->Fn C 214 [.ptr 0 0 0,.d (.str t)] [g.enc fn,bz ns root] (.d (.int .i64 (slI g.names t))) [some (g.enc fn),some (bz ns root)]
def clI (fn:List (List UInt8)) (t:List UInt8):Int:=idxOf t fn 0
def lB (C:Ctx) (fn:List (List UInt8)) (ns:List Nd) (root:Int) (t:Tr):Prop:=∀ (g:Gs) (k:Int),Sub ns t k->t.wf->g.names.length+t.sz<=1073741000->g.code.length+4 * t.sz<=1073741000 ->
 Fn C 146 [.ptr 0 0 0,.d (.int .i64 k)] [g.enc fn,bz ns root] (.tup []) [some ((t.gen slI (clI fn) g).enc fn),some (bz ns root)]
section
variable {C:Ctx} (hP:C.P=Tryz.prog)
include hP
omit hP in
theorem wH (t:List UInt8):∀ (l:List (List UInt8)) (k:Nat),-1<=idxOf t l k/\idxOf t l k < k+l.length+1
 | [],k=>by simp [idxOf];omega
 | s::l,k=>by
  have:=wH t l (k+1);simp only [idxOf,aT];split<;>omega
theorem Hq (fn:List (List UInt8)) (hfn:fn.length<=1073741000) (g:Gs) (ns:List Nd) (root:Int) (nd:Nd) (hl:g.code.length<=1073741000) (hk:nd.kids.length<=1073741000) :
  Fn C 244 [.ptr 0 0 0,.agg (nd.enc.map .d)] [g.enc fn,bz ns root] (.tup []) [some ((g.put (if 0<=clI fn nd.text then iOp 10 (clI fn nd.text+1) nd.kids.length [] else iOp 11 nd.kids.length 0 nd.text)).enc fn),some (bz ns root)]:=by
 have hil:=wH nd.text fn 0;rw [show idxOf nd.text fn 0=clI fn nd.text from rfl] at hil;refine eN hP Iw ⟨gO (k81 hP fn nd.text (by omega)) ⟨?_⟩⟩;rw [show idxOf nd.text fn 0=clI fn nd.text from rfl];refine gP (fun h=>⟨?_⟩) fun h=>⟨?_⟩
 ·rw [aj (ai h)];rw [wrap_i64 ⟨by omega,by omega⟩,show (List.map (fun k=>[D.int IntKind.i64 k]) nd.kids).length=nd.kids.length by simp];exact gC [0,1] (lG hP fn g ns root (iOp 10 (clI fn nd.text+1) nd.kids.length []) hl) ⟨lW ⟨⟨rfl,rfl,trivial⟩,rfl⟩⟩
 ·rw [ab (ao h)];rw [show (List.map (fun k=>[D.int IntKind.i64 k]) nd.kids).length=nd.kids.length by simp];exact gC [0,1] (lG hP fn g ns root (iOp 11 nd.kids.length 0 nd.text) hl) ⟨lW ⟨⟨rfl,rfl,trivial⟩,rfl⟩⟩
theorem Hr (fn:List (List UInt8)) (g:Gs) (ns:List Nd) (root:Int) (op:Int) (nd:Nd) (a b:Tr) (ka kb:Int) (hk:nd.kids=[ka,kb]) (ha:lB C fn ns root a) (hb:lB C fn ns root b) (hsa:Sub ns a ka) (hsb:Sub ns b kb) (hwa:a.wf) (hwb:b.wf)
  (h1:g.names.length+szs [a,b]<=1073741000) (h2:g.code.length+4 * szs [a,b]+4<=1073741000) :
  Fn C 243 [.ptr 0 0 0,.d (.int .i64 op),.agg (nd.enc.map .d)] [g.enc fn,bz ns root] (.tup []) [some ((fE slI (clI fn) op [a,b] g).enc fn),some (bz ns root)]:=by
 obtain ⟨kind,n,text,names,kids⟩:=nd;obtain rfl:kids=[ka,kb]:=hk;simp only [szs] at h1 h2;have ga:=dP slI (clI fn) a g;have c1:=ha g ka hsa hwa (by omega) (by omega);simp only [fE,fI];generalize a.gen slI (clI fn) g=g1 at ga c1 ⊢;have hn1:=ga.names;have hc1:=ga.2;have c2:=lG hP fn g1 ns root (iOp op 0 0 []) (by omega);have p1:(g1.put (iOp op 0 0 [])).code.length=g1.code.length+1:=by simp [Gs.put]
 have p2:(g1.put (iOp op 0 0 [])).names=g1.names:=rfl;have gb:=dP slI (clI fn) b (g1.put (iOp op 0 0 []));have c3:=hb (g1.put (iOp op 0 0 [])) kb hsb hwb (by rw [p2];omega) (by omega);generalize b.gen slI (clI fn) (g1.put (iOp op 0 0 []))=g3 at gb c3 ⊢;have hn3:=gb.names;have hc3:=gb.2;have c4:=xN hP fn g3 ns root g1.code.length (by omega) (by omega);refine eN hP Ix ⟨?_⟩;refine ah.exD (row:=[.int .i64 ka]) rfl (by omega) rfl ?_;refine gG ⟨gC [0,1] c1 ⟨gC [0,1] c2 ⟨?_⟩⟩⟩;refine ah.exD (row:=[.int .i64 kb]) rfl (by omega) rfl ?_;exact gG ⟨gC [0,1] c3 ⟨gC [0,1] c4 ⟨lW ⟨⟨rfl,rfl,trivial⟩,rfl⟩⟩⟩⟩
omit hP in
theorem kC (sl:List (List UInt8)->List UInt8->Int) (cl:List UInt8->Int):∀ (l m:List Tr) (g:Gs),cX sl cl (l++m) g=cX sl cl m (cX sl cl l g)
 | [],m,g=>rfl
 | t::l,m,g=>kC sl cl l m (t.gen sl cl g)
theorem HD (hS:mg C) (fn:List (List UInt8)) (hfn:fn.length<=1073741000) (g:Gs) (ns:List Nd) (root:Int) (ix kind n:Int) (text:List UInt8) (names:List (List UInt8)) (ts:List Tr) (kids:List Int) (hx:1<=kind/\kind<=10) (hall:∀ t∈ts,lB C fn ns root t) (hs:dx ns ts kids) (hwf:(Tr.mk ix kind n text names ts).wf)
  (h1:g.names.length+szs ts<=1073741000) (h2:g.code.length+4 * szs ts+4<=1073741000) :
  Fn C 211 [.ptr 0 0 0,.agg ((Nd.enc ⟨kind,n,text,names,kids⟩).map .d)] [g.enc fn,bz ns root] (.tup []) [some (((Tr.mk ix kind n text names ts).gen slI (clI fn) g).enc fn),some (bz ns root)]:=by
 have htl:=eP hs;have hlz:=fC ts;by_cases h89:kind=8\/kind=9
 ·have h20:¬ kind=20:=by omega
  rw [Tr.gen,ab h20,aj h89];obtain ⟨a,b,rfl⟩:∃ a b,ts=[a,b]:=by
   have:=hwf.1.2.2;rcases h89 with rfl | rfl
   all_goals
    simp at this;obtain ⟨a,b,h,_⟩:=this;exact ⟨a,b,h⟩
  match kids,hs with
  | [ka,kb],hs =>
  have c:=fun op nd hk=>Hr hP fn g ns root op nd a b ka kb hk (hall a (by simp)) (hall b (by simp)) hs.1 hs.2.1 hwf.2.1 hwf.2.2.1 h1 h2
  rcases h89 with rfl | rfl
  ·refine eN hP E2 ⟨?_⟩
   (repeat' (first | refine gY ⟨?_⟩ | refine gX ⟨?_⟩ | fail))
   exact gC [0,1] (c 8 ⟨8,n,text,names,[ka,kb]⟩ rfl) ⟨lW ⟨⟨rfl,rfl,trivial⟩,rfl⟩⟩
  ·refine eN hP E2 ⟨?_⟩
   (repeat' (first | refine gY ⟨?_⟩ | refine gX ⟨?_⟩ | fail))
   exact gC [0,1] (c 9 ⟨9,n,text,names,[ka,kb]⟩ rfl) ⟨lW ⟨⟨rfl,rfl,trivial⟩,rfl⟩⟩
 have hgen:(Tr.mk ix kind n text names ts).gen slI (clI fn) g=(cX slI (clI fn) ts g).emit slI (clI fn) kind n text ts.length:=by
  rw [Tr.gen,ab (by omega),ab h89,ab (by omega),ab (by omega),ab (by omega),ab (by omega)]
 rw [hgen];have gg:=eu slI (clI fn) ts g;generalize hg1:cX slI (clI fn) ts g=g1 at gg ⊢;have hn1:=gg.names;have hc1:=gg.2;have put:=fun i=>lG hP fn g1 ns root i (by omega)
 refine eN hP E2 ⟨?_⟩;refine gX ⟨?_⟩ (by simp;omega);refine gX ⟨?_⟩ (by simp;omega);rw [show (List.map (fun k=>[D.int IntKind.i64 k]) kids).length=kids.length by simp];refine ah.loop (fun j:Nat=>ts.length - j) (fun j=>j<=ts.length) (fun j=>[(0,.ptr 0 0 0),(3,.ptr 2 0 0),(19,.d (bJ kids)),(20,.d (.int .i64 (kids.length:Nat))),(21,.d (.int .i64 (j:Nat)))]) (fun j=>[(0,(cX slI (clI fn) (ts.take j) g).enc fn),(1,bz ns root),(2,.st ((Nd.enc ⟨kind,n,text,names,kids⟩).map .d))]) 3 ?_ 0 (by omega);intro j hj ih;have gg':=eu slI (clI fn) (ts.take j) g;generalize hg':cX slI (clI fn) (ts.take j) g=g' at gg' ⊢;have hn':=gg'.names;have hc':=gg'.2;refine gG ⟨gP (fun h=>⟨?_⟩) fun h=>⟨?_⟩⟩
 ·have hlt:j < ts.length:=by rw [htl];simpa using h
  obtain ⟨kk,hk1,hk2⟩:=eX hs (aa hlt);refine ah.exD (row:=[.int .i64 kk]) (by simp [hk1]) (by omega) rfl ?_;refine gG ⟨?_⟩;have hsz:szs (ts.take j)+ts[j].sz<=szs ts:=by
   have:=congrArg szs (List.take_append_drop j ts);rw [av hlt,gB] at this;simp only [szs] at this;omega
  refine gC [0,1] (hall ts[j] (aZ hlt) g' kk hk2 (ep hwf.2 _ (aZ hlt)) (by omega) (by omega)) ⟨?_⟩;rw [aC (by omega)];refine (ih (j+1) hlt (by omega)).to rfl ?_;rw [aG hlt,kC,hg'];rfl
 ·have hge:ts.length<=j:=by
   have:¬ (j < kids.length):=by simpa using h
   omega
  rw [ae hge,hg1] at hg';subst hg';clear ih;obtain hkk:kind=1\/kind=2\/kind=3\/kind=4\/kind=5\/kind=6\/kind=7\/kind=10:=by omega
  rcases hkk with rfl | rfl | rfl | rfl | rfl | rfl | rfl | rfl
  ·(repeat' (first | refine gY ⟨?_⟩ | refine gX ⟨?_⟩ | fail))
   exact gO (sB hP n) ⟨gC [0,1] (put (fN (iH n))) ⟨lW ⟨⟨rfl,rfl,trivial⟩,rfl⟩⟩⟩
  ·(repeat' (first | refine gY ⟨?_⟩ | refine gX ⟨?_⟩ | fail))
   exact gO (k99 hP text) ⟨gC [0,1] (put (fN (dH text))) ⟨lW ⟨⟨rfl,rfl,trivial⟩,rfl⟩⟩⟩
  ·(repeat' (first | refine gY ⟨?_⟩ | refine gX ⟨?_⟩ | fail))
   exact gO (C5 hP (decide (n=1))) ⟨gC [0,1] (put (fN (iW (decide (n=1))))) ⟨lW ⟨⟨rfl,rfl,trivial⟩,rfl⟩⟩⟩
  ·(repeat' (first | refine gY ⟨?_⟩ | refine gX ⟨?_⟩ | fail))
   exact gC [0,1] (put (fN bO)) ⟨lW ⟨⟨rfl,rfl,trivial⟩,rfl⟩⟩
  ·(repeat' (first | refine gY ⟨?_⟩ | refine gX ⟨?_⟩ | fail))
   exact gC [0,1] (hS.slot fn g1 ns root text (by omega)) ⟨gC [0,1] (put (iOp 2 (slI g1.names text) 0 [])) ⟨lW ⟨⟨rfl,rfl,trivial⟩,rfl⟩⟩⟩
  ·(repeat' (first | refine gY ⟨?_⟩ | refine gX ⟨?_⟩ | fail))
   exact gC [0,1] (put (iOp 4 0 0 text)) ⟨lW ⟨⟨rfl,rfl,trivial⟩,rfl⟩⟩
  ·(repeat' (first | refine gY ⟨?_⟩ | refine gX ⟨?_⟩ | fail))
   exact gC [0,1] (put (iOp 5 0 0 text)) ⟨lW ⟨⟨rfl,rfl,trivial⟩,rfl⟩⟩
  ·(repeat' (first | refine gY ⟨?_⟩ | refine gX ⟨?_⟩ | fail))
   refine gC [0,1] (Hq hP fn hfn g1 ns root ⟨10,n,text,names,kids⟩ (by omega) (by simp only;omega)) ⟨?_⟩;rw [htl];exact lW ⟨⟨rfl,rfl,trivial⟩,rfl⟩
omit hP in
theorem eU (i:Ins) (g:Gs):(g.put i).code.length=g.code.length+1/\(g.put i).names=g.names:=⟨by simp [Gs.put],rfl⟩
omit hP in
theorem fp (p:Nat) (g:Gs):(g.here p).code.length=g.code.length/\(g.here p).names=g.names:=⟨by simp [Gs.here],rfl⟩
omit hP in
theorem tc (t:List UInt8) (g:Gs):(g.store t).code.length=g.code.length+1/\(g.store t).names.length=g.names.length+1:=⟨by simp [Gs.store],by simp [Gs.store]⟩
omit hP in
theorem kO {α:Type} (l:List α):List.take l.length (List.drop 0 l)=l:=by rw [aq,b8]
theorem zG (fn:List (List UInt8)) (g:Gs) (ns:List Nd) (root:Int) (n:Int) (text:List UInt8) (names:List (List UInt8)) (a b:Tr) (ka kb:Int) (hall:∀ t∈[a,b],lB C fn ns root t) (hs:dx ns [a,b] [ka,kb]) (hws:wfs [a,b])
  (h1:g.names.length+szs [a,b]+1<=1073741000) (h2:g.code.length+4 * szs [a,b]+4<=1073741000) :
  Fn C 212 [.ptr 0 0 0,.agg ((Nd.enc ⟨14,n,text,names,[ka,kb]⟩).map .d)] [g.enc fn,bz ns root] (.tup []) [some ((fD slI (clI fn) g.code.length [a,b] g).enc fn),some (bz ns root)]:=by
 simp only [szs] at h1 h2;simp only [fD,fR];have g1k:=dP slI (clI fn) a (g);have g1C:=hall a (by simp) (g) ka hs.1 hws.1 (by omega) (by omega);generalize a.gen slI (clI fn) (g)=g1 at g1k g1C ⊢;have g1n:=g1k.names;have g1c:=g1k.2;have g2C:=lG hP fn (g1) ns root (iOp 7 0 0 []) (by omega);obtain ⟨g2l,g2m⟩:=eU (iOp 7 0 0 []) (g1);generalize (g1).put (iOp 7 0 0 [])=g2 at g2C g2l g2m ⊢;have g2M:g2.names.length=(g1).names.length:=by rw [g2m]
 have g3k:=dP slI (clI fn) b (g2);have g3C:=hall b (by simp) (g2) kb hs.2.1 hws.2.1 (by omega) (by omega);generalize b.gen slI (clI fn) (g2)=g3 at g3k g3C ⊢;have g3n:=g3k.names;have g3c:=g3k.2;have g4C:=lG hP fn (g3) ns root (iOp 6 g.code.length 0 []) (by omega);obtain ⟨g4l,g4m⟩:=eU (iOp 6 g.code.length 0 []) (g3);generalize (g3).put (iOp 6 g.code.length 0 [])=g4 at g4C g4l g4m ⊢;have g4M:g4.names.length=(g3).names.length:=by rw [g4m]
 have g5C:=xN hP fn (g4) ns root (g1.code.length) (by omega) (by omega);obtain ⟨g5l,g5m⟩:=fp (g1.code.length) (g4);generalize (g4).here (g1.code.length)=g5 at g5C g5l g5m ⊢;have g5M:g5.names.length=(g4).names.length:=by rw [g5m]
 have hcl:(g.code.map Ins.enc).length=g.code.length:=by simp
 refine eN hP c212 ⟨?_⟩
 (repeat' (first | refine gY ⟨?_⟩ | refine gX ⟨?_⟩ | fail))
 rw [kO,kO,hcl];refine ah.exD (row:=[.int .i64 ka]) rfl (by omega) rfl ?_;refine gG ⟨gC [0,1] g1C ⟨gC [0,1] g2C ⟨?_⟩⟩⟩;refine ah.exD (row:=[.int .i64 kb]) rfl (by omega) rfl ?_;exact gG ⟨gC [0,1] g3C ⟨gC [0,1] g4C ⟨gC [0,1] g5C ⟨lW ⟨⟨rfl,rfl,trivial⟩,rfl⟩⟩⟩⟩⟩
theorem El (fn:List (List UInt8)) (g:Gs) (ns:List Nd) (root:Int) (n:Int) (text:List UInt8) (names:List (List UInt8)) (a b:Tr) (ka kb:Int) (hall:∀ t∈[a,b],lB C fn ns root t) (hs:dx ns [a,b] [ka,kb]) (hws:wfs [a,b])
  (h1:g.names.length+szs [a,b]+1<=1073741000) (h2:g.code.length+4 * szs [a,b]+4<=1073741000) :
  Fn C 212 [.ptr 0 0 0,.agg ((Nd.enc ⟨13,n,text,names,[ka,kb]⟩).map .d)] [g.enc fn,bz ns root] (.tup []) [some ((hZ slI (clI fn) [a,b] g).enc fn),some (bz ns root)]:=by
 simp only [szs] at h1 h2;simp only [hZ,iy,iw];have g1k:=dP slI (clI fn) a (g);have g1C:=hall a (by simp) (g) ka hs.1 hws.1 (by omega) (by omega);generalize a.gen slI (clI fn) (g)=g1 at g1k g1C ⊢;have g1n:=g1k.names;have g1c:=g1k.2;have g2C:=lG hP fn (g1) ns root (iOp 7 0 0 []) (by omega);obtain ⟨g2l,g2m⟩:=eU (iOp 7 0 0 []) (g1);generalize (g1).put (iOp 7 0 0 [])=g2 at g2C g2l g2m ⊢;have g2M:g2.names.length=(g1).names.length:=by rw [g2m]
 have g3k:=dP slI (clI fn) b (g2);have g3C:=hall b (by simp) (g2) kb hs.2.1 hws.2.1 (by omega) (by omega);generalize b.gen slI (clI fn) (g2)=g3 at g3k g3C ⊢;have g3n:=g3k.names;have g3c:=g3k.2;have g5C:=xN hP fn (g3) ns root (g1.code.length) (by omega) (by omega);obtain ⟨g5l,g5m⟩:=fp (g1.code.length) (g3);generalize (g3).here (g1.code.length)=g5 at g5C g5l g5m ⊢;have g5M:g5.names.length=(g3).names.length:=by rw [g5m]
 refine eN hP c212 ⟨?_⟩
 (repeat' (first | refine gY ⟨?_⟩ | refine gX ⟨?_⟩ | fail))
 rw [kO];refine ah.exD (row:=[.int .i64 ka]) rfl (by omega) rfl ?_;refine gG ⟨gC [0,1] g1C ⟨gC [0,1] g2C ⟨?_⟩⟩⟩;refine ah.exD (row:=[.int .i64 kb]) rfl (by omega) rfl ?_;refine gG ⟨gC [0,1] g3C ⟨?_⟩⟩
 (repeat' (first | refine gY ⟨?_⟩ | refine gX ⟨?_⟩ | fail))
 exact gC [0,1] g5C ⟨lW ⟨⟨rfl,rfl,trivial⟩,rfl⟩⟩
theorem Bl (fn:List (List UInt8)) (g:Gs) (ns:List Nd) (root:Int) (n:Int) (text:List UInt8) (names:List (List UInt8)) (a b c:Tr) (ka kb kc:Int) (hall:∀ t∈[a,b,c],lB C fn ns root t) (hs:dx ns [a,b,c] [ka,kb,kc]) (hws:wfs [a,b,c])
  (h1:g.names.length+szs [a,b,c]+1<=1073741000) (h2:g.code.length+4 * szs [a,b,c]+4<=1073741000) :
  Fn C 212 [.ptr 0 0 0,.agg ((Nd.enc ⟨13,n,text,names,[ka,kb,kc]⟩).map .d)] [g.enc fn,bz ns root] (.tup []) [some ((hZ slI (clI fn) [a,b,c] g).enc fn),some (bz ns root)]:=by
 simp only [szs] at h1 h2;simp only [hZ,iy,iw];have g1k:=dP slI (clI fn) a (g);have g1C:=hall a (by simp) (g) ka hs.1 hws.1 (by omega) (by omega);generalize a.gen slI (clI fn) (g)=g1 at g1k g1C ⊢;have g1n:=g1k.names;have g1c:=g1k.2;have g2C:=lG hP fn (g1) ns root (iOp 7 0 0 []) (by omega);obtain ⟨g2l,g2m⟩:=eU (iOp 7 0 0 []) (g1);generalize (g1).put (iOp 7 0 0 [])=g2 at g2C g2l g2m ⊢;have g2M:g2.names.length=(g1).names.length:=by rw [g2m]
 have g3k:=dP slI (clI fn) b (g2);have g3C:=hall b (by simp) (g2) kb hs.2.1 hws.2.1 (by omega) (by omega);generalize b.gen slI (clI fn) (g2)=g3 at g3k g3C ⊢;have g3n:=g3k.names;have g3c:=g3k.2;have g4C:=lG hP fn (g3) ns root (iOp 6 0 0 []) (by omega);obtain ⟨g4l,g4m⟩:=eU (iOp 6 0 0 []) (g3);generalize (g3).put (iOp 6 0 0 [])=g4 at g4C g4l g4m ⊢;have g4M:g4.names.length=(g3).names.length:=by rw [g4m]
 have g5C:=xN hP fn (g4) ns root (g1.code.length) (by omega) (by omega);obtain ⟨g5l,g5m⟩:=fp (g1.code.length) (g4);generalize (g4).here (g1.code.length)=g5 at g5C g5l g5m ⊢;have g5M:g5.names.length=(g4).names.length:=by rw [g5m]
 have g6k:=dP slI (clI fn) c (g5);have g6C:=hall c (by simp) (g5) kc hs.2.2.1 hws.2.2.1 (by omega) (by omega);generalize c.gen slI (clI fn) (g5)=g6 at g6k g6C ⊢;have g6n:=g6k.names;have g6c:=g6k.2;have g7C:=xN hP fn (g6) ns root (g3.code.length) (by omega) (by omega);obtain ⟨g7l,g7m⟩:=fp (g3.code.length) (g6);generalize (g6).here (g3.code.length)=g7 at g7C g7l g7m ⊢;have g7M:g7.names.length=(g6).names.length:=by rw [g7m]
 refine eN hP c212 ⟨?_⟩
 (repeat' (first | refine gY ⟨?_⟩ | refine gX ⟨?_⟩ | fail))
 rw [kO];refine ah.exD (row:=[.int .i64 ka]) rfl (by omega) rfl ?_;refine gG ⟨gC [0,1] g1C ⟨gC [0,1] g2C ⟨?_⟩⟩⟩;refine ah.exD (row:=[.int .i64 kb]) rfl (by omega) rfl ?_;refine gG ⟨gC [0,1] g3C ⟨?_⟩⟩
 (repeat' (first | refine gY ⟨?_⟩ | refine gX ⟨?_⟩ | fail))
 refine gC [0,1] g4C ⟨gC [0,1] g5C ⟨?_⟩⟩;refine ah.exD (row:=[.int .i64 kc]) rfl (by omega) rfl ?_;exact gG ⟨gC [0,1] g6C ⟨gC [0,1] g7C ⟨lW ⟨⟨rfl,rfl,trivial⟩,rfl⟩⟩⟩⟩
theorem C6 (fn:List (List UInt8)) (g:Gs) (ns:List Nd) (root:Int) (n:Int) (text:List UInt8) (names:List (List UInt8)) (a b:Tr) (ka kb:Int) (hall:∀ t∈[a,b],lB C fn ns root t) (hs:dx ns [a,b] [ka,kb]) (hws:wfs [a,b])
  (h1:g.names.length+szs [a,b]+1<=1073741000) (h2:g.code.length+4 * szs [a,b]+4<=1073741000) :
  Fn C 212 [.ptr 0 0 0,.agg ((Nd.enc ⟨17,n,text,names,[ka,kb]⟩).map .d)] [g.enc fn,bz ns root] (.tup []) [some ((gK slI (clI fn) text g.names.length [a,b] g).enc fn),some (bz ns root)]:=by
 simp only [szs] at h1 h2;simp only [gK,iR];have g1C:=lG hP fn (g) ns root (iOp 14 0 0 []) (by omega);obtain ⟨g1l,g1m⟩:=eU (iOp 14 0 0 []) (g);generalize (g).put (iOp 14 0 0 [])=g1 at g1C g1l g1m ⊢;have g1M:g1.names.length=(g).names.length:=by rw [g1m]
 have g2k:=dP slI (clI fn) a (g1);have g2C:=hall a (by simp) (g1) ka hs.1 hws.1 (by omega) (by omega);generalize a.gen slI (clI fn) (g1)=g2 at g2k g2C ⊢;have g2n:=g2k.names;have g2c:=g2k.2;have g3C:=lG hP fn (g2) ns root (iOp 15 0 0 []) (by omega);obtain ⟨g3l,g3m⟩:=eU (iOp 15 0 0 []) (g2);generalize (g2).put (iOp 15 0 0 [])=g3 at g3C g3l g3m ⊢;have g3M:g3.names.length=(g2).names.length:=by rw [g3m]
 have g4C:=lG hP fn (g3) ns root (iOp 6 0 0 []) (by omega);obtain ⟨g4l,g4m⟩:=eU (iOp 6 0 0 []) (g3);generalize (g3).put (iOp 6 0 0 [])=g4 at g4C g4l g4m ⊢;have g4M:g4.names.length=(g3).names.length:=by rw [g4m]
 have g5C:=xN hP fn (g4) ns root (g.code.length) (by omega) (by omega);obtain ⟨g5l,g5m⟩:=fp (g.code.length) (g4);generalize (g4).here (g.code.length)=g5 at g5C g5l g5m ⊢;have g5M:g5.names.length=(g4).names.length:=by rw [g5m]
 have g6C:=FO hP fn (g5) ns root text (by omega) (by omega);obtain ⟨g6l,g6M⟩:=tc text (g5);generalize (g5).store text=g6 at g6C g6l g6M ⊢;have g7k:=dP slI (clI fn) b (g6);have g7C:=hall b (by simp) (g6) kb hs.2.1 hws.2.1 (by omega) (by omega);generalize b.gen slI (clI fn) (g6)=g7 at g7k g7C ⊢;have g7n:=g7k.names;have g7c:=g7k.2;have g8C:=xN hP fn (g7) ns root (g3.code.length) (by omega) (by omega);obtain ⟨g8l,g8m⟩:=fp (g3.code.length) (g7);generalize (g7).here (g3.code.length)=g8 at g8C g8l g8m ⊢;have g8M:g8.names.length=(g7).names.length:=by rw [g8m]
 refine eN hP c212 ⟨?_⟩
 (repeat' (first | refine gY ⟨?_⟩ | refine gX ⟨?_⟩ | fail))
 rw [kO,eI];refine gC [0,1] g1C ⟨?_⟩;refine ah.exD (row:=[.int .i64 ka]) rfl (by omega) rfl ?_;refine gG ⟨gC [0,1] g2C ⟨gC [0,1] g3C ⟨gC [0,1] g4C ⟨gC [0,1] g5C ⟨gC [0,1] g6C ⟨?_⟩⟩⟩⟩⟩⟩;refine ah.exD (row:=[.int .i64 kb]) rfl (by omega) rfl ?_;refine gG ⟨gC [0,1] g7C ⟨gC [0,1] g8C ⟨gN ?_ ⟨?_⟩⟩⟩⟩
 ·exact ⟨by omega,by rw [eI];omega⟩
 refine lW ⟨⟨?_,rfl,trivial⟩,rfl⟩;(conv=>lhs;whnf);rw [show ct (bd g8.names).length none (some (g.names.length:Int))=g.names.length from rfl,show 0+bH none=0 from rfl,aq,jq];rfl
theorem tL (fn:List (List UInt8)) (g:Gs) (ns:List Nd) (root:Int) (n:Int) (text:List UInt8) (names:List (List UInt8)) (ts:List Tr) (kids:List Int) (hall:∀ t∈ts,lB C fn ns root t) (hs:dx ns ts kids) (hws:wfs ts)
  (h1:g.names.length+szs ts+1<=1073741000) (h2:g.code.length+4 * szs ts+4<=1073741000) :
  Fn C 212 [.ptr 0 0 0,.agg ((Nd.enc ⟨18,n,text,names,kids⟩).map .d)] [g.enc fn,bz ns root] (.tup []) [some (((cX slI (clI fn) ts g).cut g.names.length).enc fn),some (bz ns root)]:=by
 have htl:=eP hs;have hlz:=fC ts;have gg:=eu slI (clI fn) ts g;generalize hg1:cX slI (clI fn) ts g=g1 at gg ⊢;have hn1:=gg.names;refine eN hP c212 ⟨?_⟩
 (repeat' (first | refine gY ⟨?_⟩ | refine gX ⟨?_⟩ | fail))
 rw [kO,eI,show (List.map (fun k=>[D.int IntKind.i64 k]) (Nd.mk 18 n text names kids).kids).length=kids.length by simp];refine ah.loop (fun j:Nat=>ts.length - j) (fun j=>j<=ts.length) (fun j=>[(0,.ptr 0 0 0),(4,.d (.int .i64 (g.names.length:Nat))),(131,.d (bJ kids)),(132,.d (.int .i64 (kids.length:Nat))),(133,.d (.int .i64 (j:Nat)))]) (fun j=>[(0,(cX slI (clI fn) (ts.take j) g).enc fn),(1,bz ns root)]) 2 ?_ 0 (by omega);intro j hj ih;have gg':=eu slI (clI fn) (ts.take j) g;generalize hg':cX slI (clI fn) (ts.take j) g=g' at gg' ⊢;have hn':=gg'.names;have hc':=gg'.2;refine gG ⟨gP (fun h=>⟨?_⟩) fun h=>⟨?_⟩⟩
 ·have hlt:j < ts.length:=by rw [htl];simpa using h
  obtain ⟨kk,hk1,hk2⟩:=eX hs (aa hlt);refine ah.exD (row:=[.int .i64 kk]) (by simp [hk1]) (by omega) rfl ?_;refine gG ⟨?_⟩;have hsz:szs (ts.take j)+ts[j].sz<=szs ts:=by
   have:=congrArg szs (List.take_append_drop j ts);rw [av hlt,gB] at this;simp only [szs] at this;omega
  refine gC [0,1] (hall ts[j] (aZ hlt) g' kk hk2 (ep hws _ (aZ hlt)) (by omega) (by omega)) ⟨?_⟩;rw [aC (by omega)];refine (ih (j+1) hlt (by omega)).to rfl ?_;rw [aG hlt,kC,hg'];rfl
 ·have hge:ts.length<=j:=by
   have:¬ (j < kids.length):=by simpa using h
   omega
  rw [ae hge,hg1] at hg';subst hg';refine gN ?_ ⟨?_⟩
  ·exact ⟨by omega,by rw [eI];omega⟩
  refine lW ⟨⟨?_,rfl,trivial⟩,rfl⟩;(conv=>lhs;whnf);rw [show ct (bd g1.names).length none (some (g.names.length:Int))=g.names.length from rfl,show 0+bH none=0 from rfl,aq,jq];rfl
theorem EM (hS:mg C) (fn:List (List UInt8)) (hfn:fn.length<=1073741000) (ns:List Nd) (root:Int) (ix kind n:Int) (text:List UInt8) (names:List (List UInt8)) (ts:List Tr) (hall:∀ t∈ts,lB C fn ns root t):lB C fn ns root (.mk ix kind n text names ts):=by
 intro g k hsub hwf h1 h2;obtain ⟨hki,kids,h0,hnd,hsubs⟩:=hsub;subst hki;simp only [Tr.sz] at h1 h2;have c210:=FP hP kind;by_cases hx:1<=kind/\kind<=10
 ·rw [aR hx] at c210;refine eN hP c146 ⟨gD (bM hnd) ⟨gO c210 ⟨?_⟩⟩ h0⟩
  (repeat' (first | refine gY ⟨?_⟩ | refine gX ⟨?_⟩ | fail))
  exact gC [0,1] (HD hP hS fn hfn g ns root k kind n text names ts kids hx hall hsubs hwf (by omega) (by omega)) ⟨lW ⟨⟨rfl,rfl,trivial⟩,rfl⟩⟩
 rw [aI hx] at c210;obtain ⟨hsh,hws⟩:=hwf;have hsh:=hsh.2.2;have key:∀ (r:Gs),(kind=13\/kind=14\/kind=17\/kind=18)->Fn C 212 [.ptr 0 0 0,.agg ((Nd.enc ⟨kind,n,text,names,kids⟩).map .d)] [g.enc fn,bz ns root] (.tup []) [some (r.enc fn),some (bz ns root)] ->
   Fn C 146 [.ptr 0 0 0,.d (.int .i64 k)] [g.enc fn,bz ns root] (.tup []) [some (r.enc fn),some (bz ns root)]:=by
  intro r hk c;rcases hk with rfl | rfl | rfl | rfl
  all_goals
   refine eN hP c146 ⟨gD (bM hnd) ⟨gO c210 ⟨?_⟩⟩ h0⟩
   (repeat' (first | refine gY ⟨?_⟩ | refine gX ⟨?_⟩ | fail))
   exact gC [0,1] c ⟨lW ⟨⟨rfl,rfl,trivial⟩,rfl⟩⟩
 have kinds:kind=20\/kind=13\/kind=14\/kind=17\/kind=18\/kind=11\/kind=12\/kind=15\/kind=16\/kind=19:=by omega
 rcases kinds with rfl | rfl | rfl | rfl | rfl | rfl | rfl | rfl | rfl | rfl
 ·rw [Tr.gen,aj rfl];refine eN hP c146 ⟨gD (bM hnd) ⟨gO c210 ⟨?_⟩⟩ h0⟩
  (repeat' (first | refine gY ⟨?_⟩ | refine gX ⟨?_⟩ | fail))
  exact lW ⟨⟨rfl,rfl,trivial⟩,rfl⟩
 ·rw [show (Tr.mk k 13 n text names ts).gen slI (clI fn) g=hZ slI (clI fn) ts g by rw [Tr.gen];simp];simp at hsh;obtain ⟨a,ha,b,hb,hq⟩:=hsh;rcases hq with rfl | ⟨c,rfl,hc⟩
  ·match kids,hsubs with
   | [ka,kb],hsubs=>exact key _ (by simp) (El hP fn g ns root n text names a b ka kb hall hsubs hws (by omega) (by omega))
  ·match kids,hsubs with
   | [ka,kb,kc],hsubs=>exact key _ (by simp) (Bl hP fn g ns root n text names a b c ka kb kc hall hsubs hws (by omega) (by omega))
 ·rw [show (Tr.mk k 14 n text names ts).gen slI (clI fn) g=fD slI (clI fn) g.code.length ts g by rw [Tr.gen];simp];simp at hsh;obtain ⟨a,b,rfl,_⟩:=hsh
  match kids,hsubs with
  | [ka,kb],hsubs=>exact key _ (by simp) (zG hP fn g ns root n text names a b ka kb hall hsubs hws (by omega) (by omega))
 ·rw [show (Tr.mk k 17 n text names ts).gen slI (clI fn) g=gK slI (clI fn) text g.names.length ts g by rw [Tr.gen];simp];simp at hsh;obtain ⟨_,a,b,rfl,_⟩:=hsh
  match kids,hsubs with
  | [ka,kb],hsubs=>exact key _ (by simp) (C6 hP fn g ns root n text names a b ka kb hall hsubs hws (by omega) (by omega))
 ·rw [show (Tr.mk k 18 n text names ts).gen slI (clI fn) g=(cX slI (clI fn) ts g).cut g.names.length by rw [Tr.gen];simp];exact key _ (by simp) (tL hP fn g ns root n text names ts kids hall hsubs hws (by omega) (by omega))
 ·simp at hsh;obtain ⟨a,rfl,_⟩:=hsh
  match kids,hsubs with
  | [ka],hsubs =>
  simp only [szs] at h1 h2;have g1k:=dP slI (clI fn) a g;have g1C:=hall a (by simp) g ka hsubs.1 hws.1 (by omega) (by omega);rw [show (Tr.mk k 11 n text names [a]).gen slI (clI fn) g=(fun g1:Gs=>g1.store text) (a.gen slI (clI fn) g) by rw [Tr.gen];rfl];generalize a.gen slI (clI fn) g=g1 at g1k g1C ⊢;have g1n:=g1k.names;have g1c:=g1k.2;simp only;refine eN hP c146 ⟨gD (bM hnd) ⟨gO c210 ⟨?_⟩⟩ h0⟩
  (repeat' (first | refine gY ⟨?_⟩ | refine gX ⟨?_⟩ | fail))
  refine ah.exD (row:=[.int .i64 ka]) rfl (by omega) rfl ?_;refine gG ⟨gC [0,1] g1C ⟨?_⟩⟩
  (repeat' (first | refine gY ⟨?_⟩ | refine gX ⟨?_⟩ | fail))
  exact gC [0,1] (FO hP fn g1 ns root text (by omega) (by omega)) ⟨lW ⟨⟨rfl,rfl,trivial⟩,rfl⟩⟩
 ·simp at hsh;obtain ⟨a,rfl,_⟩:=hsh
  match kids,hsubs with
  | [ka],hsubs =>
  simp only [szs] at h1 h2;have g1k:=dP slI (clI fn) a g;have g1C:=hall a (by simp) g ka hsubs.1 hws.1 (by omega) (by omega);rw [show (Tr.mk k 12 n text names [a]).gen slI (clI fn) g=(fun g1:Gs=>g1.put (iOp 3 (slI g1.names text) 0 [])) (a.gen slI (clI fn) g) by rw [Tr.gen];rfl];generalize a.gen slI (clI fn) g=g1 at g1k g1C ⊢;have g1n:=g1k.names;have g1c:=g1k.2;simp only;refine eN hP c146 ⟨gD (bM hnd) ⟨gO c210 ⟨?_⟩⟩ h0⟩
  (repeat' (first | refine gY ⟨?_⟩ | refine gX ⟨?_⟩ | fail))
  refine ah.exD (row:=[.int .i64 ka]) rfl (by omega) rfl ?_;refine gG ⟨gC [0,1] g1C ⟨?_⟩⟩
  (repeat' (first | refine gY ⟨?_⟩ | refine gX ⟨?_⟩ | fail))
  exact gC [0,1] (hS.slot fn g1 ns root text (by omega)) ⟨gC [0,1] (lG hP fn g1 ns root (iOp 3 (slI g1.names text) 0 []) (by omega)) ⟨lW ⟨⟨rfl,rfl,trivial⟩,rfl⟩⟩⟩
 ·simp at hsh;obtain ⟨a,rfl,_⟩:=hsh
  match kids,hsubs with
  | [ka],hsubs =>
  simp only [szs] at h1 h2;have g1k:=dP slI (clI fn) a g;have g1C:=hall a (by simp) g ka hsubs.1 hws.1 (by omega) (by omega);rw [show (Tr.mk k 15 n text names [a]).gen slI (clI fn) g=(fun g1:Gs=>g1.put (iOp 12 0 0 [])) (a.gen slI (clI fn) g) by rw [Tr.gen];rfl];generalize a.gen slI (clI fn) g=g1 at g1k g1C ⊢;have g1n:=g1k.names;have g1c:=g1k.2;simp only;refine eN hP c146 ⟨gD (bM hnd) ⟨gO c210 ⟨?_⟩⟩ h0⟩
  (repeat' (first | refine gY ⟨?_⟩ | refine gX ⟨?_⟩ | fail))
  refine ah.exD (row:=[.int .i64 ka]) rfl (by omega) rfl ?_;refine gG ⟨gC [0,1] g1C ⟨?_⟩⟩
  (repeat' (first | refine gY ⟨?_⟩ | refine gX ⟨?_⟩ | fail))
  exact gC [0,1] (lG hP fn g1 ns root (iOp 12 0 0 []) (by omega)) ⟨lW ⟨⟨rfl,rfl,trivial⟩,rfl⟩⟩
 ·simp at hsh;obtain ⟨a,rfl,_⟩:=hsh
  match kids,hsubs with
  | [ka],hsubs =>
  simp only [szs] at h1 h2;have g1k:=dP slI (clI fn) a g;have g1C:=hall a (by simp) g ka hsubs.1 hws.1 (by omega) (by omega);rw [show (Tr.mk k 16 n text names [a]).gen slI (clI fn) g=(fun g1:Gs=>g1.put (iOp 13 0 0 [])) (a.gen slI (clI fn) g) by rw [Tr.gen];rfl];generalize a.gen slI (clI fn) g=g1 at g1k g1C ⊢;have g1n:=g1k.names;have g1c:=g1k.2;simp only;refine eN hP c146 ⟨gD (bM hnd) ⟨gO c210 ⟨?_⟩⟩ h0⟩
  (repeat' (first | refine gY ⟨?_⟩ | refine gX ⟨?_⟩ | fail))
  refine ah.exD (row:=[.int .i64 ka]) rfl (by omega) rfl ?_;refine gG ⟨gC [0,1] g1C ⟨?_⟩⟩
  (repeat' (first | refine gY ⟨?_⟩ | refine gX ⟨?_⟩ | fail))
  exact gC [0,1] (lG hP fn g1 ns root (iOp 13 0 0 []) (by omega)) ⟨lW ⟨⟨rfl,rfl,trivial⟩,rfl⟩⟩
 ·simp at hsh;obtain ⟨a,rfl,_⟩:=hsh
  match kids,hsubs with
  | [ka],hsubs =>
  simp only [szs] at h1 h2;have g1k:=dP slI (clI fn) a g;have g1C:=hall a (by simp) g ka hsubs.1 hws.1 (by omega) (by omega);rw [show (Tr.mk k 19 n text names [a]).gen slI (clI fn) g=(fun g1:Gs=>g1.put (iOp 16 0 0 [])) (a.gen slI (clI fn) g) by rw [Tr.gen];rfl];generalize a.gen slI (clI fn) g=g1 at g1k g1C ⊢;have g1n:=g1k.names;have g1c:=g1k.2;simp only;refine eN hP c146 ⟨gD (bM hnd) ⟨gO c210 ⟨?_⟩⟩ h0⟩
  (repeat' (first | refine gY ⟨?_⟩ | refine gX ⟨?_⟩ | fail))
  refine ah.exD (row:=[.int .i64 ka]) rfl (by omega) rfl ?_;refine gG ⟨gC [0,1] g1C ⟨?_⟩⟩
  (repeat' (first | refine gY ⟨?_⟩ | refine gX ⟨?_⟩ | fail))
  exact gC [0,1] (lG hP fn g1 ns root (iOp 16 0 0 []) (by omega)) ⟨lW ⟨⟨rfl,rfl,trivial⟩,rfl⟩⟩
mutual
theorem yQ (hS:mg C) (fn:List (List UInt8)) (hfn:fn.length<=1073741000) (ns:List Nd) (root:Int):∀ t:Tr,lB C fn ns root t
 | .mk ix kind n text names kids=>EM hP hS fn hfn ns root ix kind n text names kids (rE hS fn hfn ns root kids)
theorem rE (hS:mg C) (fn:List (List UInt8)) (hfn:fn.length<=1073741000) (ns:List Nd) (root:Int):∀ l:List Tr,∀ t∈l,lB C fn ns root t
 | []=>by simp
 | a::l=>by
  have h1:=yQ hS fn hfn ns root a;have h2:=rE hS fn hfn ns root l;intro t h;rcases aQ.1 h with rfl | h
  ·exact h1
  ·exact h2 t h
end
end
structure vq (C:Ctx):Prop where
 clone:∀ l:List (List UInt8),l.length<=1073741824->Fn C 209 [.d (strs l)] [] (.arr 0 0 l.length) [some (.da 1 (bd l))]
section
variable {C:Ctx} (hP:C.P=Tryz.prog)
include hP
theorem FZ (hS:vq C) (ns:List Nd) (root k:Int) (nd:Nd) (h0:0<=k) (hnd:ns[k.toNat]?=some nd) (hnn:nd.names.length<=1073741824):Fn C 145 [.ptr 0 0 0,.d (.int .i64 k)] [bz ns root] (.arr 1 0 (bP (decide (k=root)) nd.names).length) [some (bz ns root),some (.da 1 (bd (bP (decide (k=root)) nd.names)))]:=by
 refine eN hP GH ⟨gP (fun h=>⟨?_⟩) fun h=>⟨?_⟩⟩
 ·refine ah.aD (os':=[some (bz ns root),some (.da 1 (bd [yt]))]) [0,1] trivial rfl rfl ⟨rfl,rfl,trivial⟩ ?_;(conv=>whnf);rw [h];exact ⟨rfl,rfl⟩
 ·refine gD (bM hnd) ⟨gO (hS.clone nd.names hnn) ⟨?_⟩⟩ h0;refine ah.aD (os':=[some (bz ns root),some (.da 1 (bd nd.names))]) [0,1] trivial rfl rfl ⟨rfl,rfl,trivial⟩ ?_;(conv=>whnf);rw [h];exact ⟨rfl,rfl⟩
def jX (fn:List (List UInt8)) (root:Int) (t:Tr):List Ins :=
 let g0:Gs:={names:=bP (decide (t.ix=root)) t.names,code:=[]}
 let g1:=if t.ix=root then t.gen slI (clI fn) g0 else cX slI (clI fn) t.kids g0
 ((g1.put (fN bO)).put (iOp 12 0 0 [])).code
structure Fc where
 name:List UInt8
 params:Int
 aL:Int
 code:List Ins
def Fc.enc (f:Fc):List D:=[.str f.name,.int .i64 f.params,.int .i64 f.aL,.imm 7 (f.code.map Ins.enc)]
def fcM (fn:List (List UInt8)) (root:Int) (M:List (D×Int)) (t:Tr):Fc :=
 ⟨if t.ix=root then [] else t.text,(bP (decide (t.ix=root)) t.names).length,cL M (.int .i64 t.ix),jX fn root t⟩
def oe (fn:List (List UInt8)) (root:Int) (M:List (D×Int)):List Tr->List Fc->Option (List Fc)
 | [],l=>some l
 | t::ts,l=>if 400 < (jX fn root t).length then none else oe fn root M ts (l++[fcM fn root M t])
def pE:Option (List Fc)->V
 | none=> .tup [.agg [.d .nil],.d (.int .i64 6)]
 | some l=> .tup [.agg [.d (.imm 4 (l.map Fc.enc))],.d (.int .i64 0)]
def rX (ns:List Nd) (root:Int) (r:Tr):V :=
 if (gq ns root r).1.code≠0 then .tup [.agg [.d .nil],.d (.int .i64 (gq ns root r).1.code)]
 else pE (oe ((aX r.kids).map Tr.text) root (gq ns root r).2 (r::aX r.kids) [])
omit hP in
theorem qL (ar:List UInt8->Option Int) (root:Int):∀ (l:List Tr) (x:Sc×List (D×Int)),(∀ p∈x.2,jO (some .i64) p.1)->∀ p∈(cG ar root l x).2,jO (some .i64) p.1
 | [],x,h=>h
 | t::l,x,h=>by
  rw [cG];refine qL ar root l _ fun p hp=>?_
  rcases kW hp with hp | rfl
  ·exact h p hp
  ·rfl
theorem Br (fn:List (List UInt8)) (hS:mg C) (hfn:fn.length<=1073741000) (g:Gs) (ns:List Nd) (root k:Int) (n:Int) (text:List UInt8) (names:List (List UInt8)) (ts:List Tr) (kids:List Int) (h0:0<=k) (hnd:ns[k.toNat]?=some ⟨18,n,text,names,kids⟩) (hs:dx ns ts kids) (hws:wfs ts)
  (h1:g.names.length+szs ts+1<=1073741000) (h2:g.code.length+4 * szs ts+4<=1073741000) :
  Fn C 146 [.ptr 0 0 0,.d (.int .i64 k)] [g.enc fn,bz ns root] (.tup []) [some (((cX slI (clI fn) ts g).cut g.names.length).enc fn),some (bz ns root)]:=by
 have c210:=FP hP 18;have c:=tL hP fn g ns root n text names ts kids (rE hP hS fn hfn ns root ts) hs hws h1 h2;generalize (cX slI (clI fn) ts g).cut g.names.length=r at c ⊢;refine eN hP c146 ⟨gD (bM hnd) ⟨gO c210 ⟨?_⟩⟩ h0⟩
 (repeat' (first | refine gY ⟨?_⟩ | refine gX ⟨?_⟩ | fail))
 exact gC [0,1] c ⟨lW ⟨⟨rfl,rfl,trivial⟩,rfl⟩⟩
theorem k96 (hS3:mh C) (hS4:pr C) (hS5:mg C) (hS6:vq C) (ns:List Nd) (root:Int) (text:List UInt8) (n:Int) (ts:List Tr) (kids:List Int) (h0:0<=root) (hnd:ns[root.toNat]?=some ⟨18,n,text,[],kids⟩) (hs:dx ns ts kids) (hw:wfs ts) (hb:szs ts<=200) :
  Fn C 96 [lz ns root] [] (rX ns root (.mk root 18 n text [] ts)) []:=by
 have xk:=HU hP hS3 hS4 ns root text [] n ts kids h0 hnd hs hw (by omega) rfl;unfold rX;generalize hNM:gq ns root (.mk root 18 n text [] ts)=NM;rw [show oP ns root (.mk root 18 n text [] ts)=(.tup [.agg [.d (.int .i64 NM.1.code),.d (.int .i64 NM.1.node)],.mp 1],NM.2) by rw [<- hNM];rfl] at xk;obtain ⟨S,M⟩:=NM;simp only at xk;refine eN hP c96 ⟨gC [0] xk ⟨gP (fun h=>⟨?_⟩) fun h=>⟨?_⟩⟩⟩
 ·rw [aj (by simpa using h)];exact lW ⟨trivial,rfl⟩
 rw [ab (by simpa using h)];have hlz:=fC ts;refine gC [0] (HS hP ns root _ h0 hnd ts hs (by omega)) ⟨gC [0] (EB hP ns root _ h0 hnd ts hs (by omega)) ⟨?_⟩⟩;have hfl:(aX ts).length<=ts.length:=List.length_filter_le _ _;refine gN ?_ ⟨?_⟩
 ·simp [Sh.len];omega
 refine gN ?_ ⟨?_⟩
 ·first | exact trivial | exact And.intro rfl trivial | exact And.intro rfl (And.intro rfl trivial) | exact And.intro rfl (And.intro rfl (And.intro rfl trivial))
 have hkeys:∀ p∈M,jO (some .i64) p.1:=by
  have:M=(gq ns root (.mk root 18 n text [] ts)).2:=by rw [hNM]
  rw [this];unfold gq;exact qL _ _ _ _ (by simp)
 have hfs:=jw hs;have hfw:∀ t∈aX ts,t.wf/\t.kind=20:=fun t ht=>⟨ep hw t (List.mem_filter.1 ht).1,by simpa using (List.mem_filter.1 ht).2⟩
 have hfz:∀ t∈aX ts,t.sz<=szs ts:=fun t ht=>mo (List.mem_filter.1 ht).1
 rw [show (Tr.mk root 18 n text [] ts).kids=ts from rfl];generalize hfse:aX ts=fs at hfl hfs hfw hfz ⊢;rw [show List.take fs.length (List.drop 0 (kN fs))=(fs.map Tr.text).map (fun s=>[D.str s]) by rw [aq,ae (by simp [kN])];simp [kN],
  show (Sh.ds (List.take fs.length (List.drop 0 (de fs))) fs.length).len=fs.length from rfl,
  show List.take [A.t 25].length (List.drop 0 [[D.int IntKind.i64 root]])++List.take fs.length (List.drop 0 (de fs))=de (Tr.mk root 18 n text [] ts::fs) by rw [aq,aq,ae (l:=de fs) (by simp [de])];rfl,
  show [A.t 25].length+fs.length=(Tr.mk root 18 n text [] ts::fs).length by simp;omega]
 generalize hFN:fs.map Tr.text=FN;have hFNl:FN.length<=1073741000:=by rw [<- hFN];simp;omega
 have hgs:∀ g∈Tr.mk root 18 n text [] ts::fs,g=Tr.mk root 18 n text [] ts\/g∈fs:=fun g hg=>aQ.1 hg
 have hgl:(Tr.mk root 18 n text [] ts::fs).length<=1073741000:=by simp;omega
 generalize (Tr.mk root 18 n text [] ts::fs)=gs at hgs hgl ⊢;generalize hR:oe FN root M gs []=R;have start:b4 C 0 [(2,some (some 1)),(3,none)] (fun v1 os1=>v1=pE R/\os1=[])
   (Cfg.eF c96.l 0 [(1,.ptr 0 0 0),(2,.ptr 1 0 0),(5,.mp 2),(6,.ptr 3 0 0),(7,.d (strs FN)),(28,.arr 4 0 gs.length),(29,.d (.int .i64 (gs.length:Nat))),(30,.d (.int .i64 0))]
    [(0,bz ns root),(1,.st [.d .nil]),(2,.mp M),(3,.st [.arr 5 0 0]),(4,.da 1 (de gs)),(5,.da 4 [])] 6):=by
  refine ah.loop (fun x:Nat×List Fc=>gs.length - x.1) (fun x=>x.1<=gs.length/\x.2.length<=x.1/\oe FN root M (gs.drop x.1) x.2=R) (fun x=>[(1,.ptr 0 0 0),(2,.ptr 1 0 0),(5,.mp 2),(6,.ptr 3 0 0),(7,.d (strs FN)),(28,.arr 4 0 gs.length),(29,.d (.int .i64 (gs.length:Nat))),(30,.d (.int .i64 (x.1:Nat)))])
   (fun x=>[(0,bz ns root),(1,.st [.d .nil]),(2,.mp M),(3,.st [.arr 5 0 x.2.length]),(4,.da 1 (de gs)),(5,.da 4 (x.2.map Fc.enc))]) 6 ?_ (0,[]) ⟨by simp,by simp,hR⟩
  intro ⟨j,l⟩ ⟨hj,hl,hRj⟩ ih;simp only at hj hl hRj ih ⊢;refine gG ⟨gP (fun h=>⟨?_⟩) fun h=>⟨?_⟩⟩
  ·have hlt:j < gs.length:=by simpa using h
   have hr:(de gs)[j]?=some [.int .i64 gs[j].ix]:=by simp [de,aa hlt]
   have hg:=hgs gs[j] (aZ hlt);rw [av hlt,oe] at hRj;generalize gs[j]=t at hr hg hRj;refine gN ?_ ⟨?_⟩
   ·omega
   refine ah.exD (row:=[.int .i64 t.ix]) (by simpa using hr) trivial rfl ?_;refine gG ⟨?_⟩;obtain ⟨kind,m,txt,tk,nd0,ndk,hsk,hwk,hzk,hnm,hone⟩:∃ kind m txt tk,0<=t.ix/\ns[t.ix.toNat]?=some ⟨kind,m,txt,t.names,tk⟩/\dx ns t.kids tk/\wfs t.kids/\szs t.kids<=200/\t.names.length<=300/\((t=Tr.mk root 18 n text [] ts/\kind=18)\/(t.text=txt/\kind=20/\∃ b,t.kids=[b])):=by
    rcases hg with rfl | hg
    ·exact ⟨18,n,text,kids,h0,hnd,hs,hw,hb,by simp [Tr.names],.inl ⟨rfl,rfl⟩⟩
    ·have a1:=hfs t hg;have a2:=hfw t hg;have a3:=hfz t hg
     match t,a1,a2,a3 with
     | .mk ix kind m txt nms ks,a1,a2,a3 =>
     obtain ⟨_,kids',k0,k1,k2⟩:=a1;have hk:kind=20:=a2.2;have hsh:=a2.1.1.2.2;subst hk;simp at hsh;obtain ⟨hsh1,b,hb1,_⟩:=hsh;exact ⟨20,m,txt,kids',k0,k1,k2,a2.1.2,by simp only [Tr.sz] at a3;simp only [Tr.kids];omega,hsh1,.inr ⟨rfl,rfl,b,hb1⟩⟩
   have c145:Fn C 145 [.ptr 0 0 0,.d (.int .i64 t.ix)] [bz ns root] (.arr 1 0 (bP (decide (t.ix=root)) t.names).length) [some (bz ns root),some (.da 1 (bd (bP (decide (t.ix=root)) t.names)))]:=FZ hP hS6 ns root t.ix _ nd0 ndk (by show t.names.length<=1073741824;omega);have hB:(bP (decide (t.ix=root)) t.names).length<=300:=by
    unfold bP;split
    ·simp
    ·exact hnm
   have tl:∀ (g1:Gs) (nm:List UInt8),g1.code.length<=1000->((g1.put (fN bO)).put (iOp 12 0 0 [])).code=jX FN root t->(⟨nm,(bP (decide (t.ix=root)) t.names).length,cL M (.int .i64 t.ix),jX FN root t⟩:Fc)=fcM FN root M t ->
     b4 C 0 [(2,some (some 1)),(3,none)] (fun v1 os1=>v1=pE R/\os1=[])
      (Cfg.dy c96.l 0 [(1,.ptr 0 0 0),(2,.ptr 1 0 0),(5,.mp 2),(6,.ptr 3 0 0),(7,.d (strs FN)),(10,.ptr 4 0 0),(11,.ptr 5 0 0),(28,.arr 6 0 gs.length),(29,.d (.int .i64 (gs.length:Nat))),(30,.d (.int .i64 (j:Nat)))]
       [(0,bz ns root),(1,.st [.d .nil]),(2,.mp M),(3,.st [.arr 7 0 l.length]),(4,.st [.ptr 0 0 0,.d (strs FN),.own false 1 (bd g1.names),.own false 7 (g1.code.map Ins.enc)]),(5,.st [.d (.str nm),.d (.int .i64 ((bP (decide (t.ix=root)) t.names).length:Nat)),.d (.int .i64 (cL M (.int .i64 t.ix))),.d .nil]),(6,.da 1 (de gs)),(7,.da 4 (l.map Fc.enc))] 8):=by
    intro g1 nm hg1 hbody hfc;refine gT ⟨gC [4,0] (lG hP FN g1 ns root (fN bO) (by omega)) ⟨?_⟩⟩;refine gC [4,0] (lG hP FN (g1.put (fN bO)) ns root (iOp 12 0 0 []) (by simp [Gs.put];omega)) ⟨?_⟩;rw [hbody,kO,show (List.map Ins.enc (jX FN root t)).length=(jX FN root t).length by simp];refine gP (fun h4=>⟨?_⟩) fun h4=>⟨?_⟩
    ·rw [aj (by simp at h4;omega)] at hRj;rw [<- hRj];exact lW ⟨trivial,rfl⟩
    ·rw [ab (by simp at h4;omega)] at hRj;refine gN ?_ ⟨?_⟩
     ·show l.length+1<=_;omega
     rw [aC (by omega)];refine (ih (j+1,l++[fcM FN root M t]) ⟨hlt,by simp;omega,hRj⟩ (by simp only;omega)).to ?_ ?_
     ·rfl
     ·rw [aq,ae (by simp),<- hfc,fa,aH];rfl
   generalize hBe:bP (decide (t.ix=root)) t.names=B at c145 tl hB;refine gC [0] c145 ⟨gN ⟨rfl,hkeys⟩ ⟨?_⟩⟩;rw [show List.take B.length (List.drop 0 (bd B))=bd B by rw [aq,ae (by simp [bd])],eI];rw [show List.take B.length (List.drop 0 (bd B))=bd B by rw [aq,ae (by simp [bd])]];rcases hone with ⟨rfl,rfl⟩ | ⟨htx,rfl,b,hb1⟩
   ·have gg:=eu slI (clI FN) ts ⟨B,[]⟩;have c146:=Br hP FN hS5 hFNl ⟨B,[]⟩ ns root root m txt [] ts tk nd0 ndk hsk hwk (by simp only;omega) (by simp;omega);have cg:=ya gg;refine gY ⟨gC [7,0] c146 ⟨?_⟩⟩ (by simp [Tr.ix]);refine (tl _ [] ?_ ?_ ?_).toC rfl rfl
    ·exact bG cg.2.2 (by simp;omega)
    ·have e1:jX FN root (Tr.mk root 18 n text [] ts)=((((cX slI (clI FN) ts ⟨B,[]⟩).cut B.length).put (fN bO)).put (iOp 12 0 0 [])).code:=by
      rw [<- hBe];unfold jX;simp only [Tr.ix,bo];rw [Tr.gen];rfl
     rw [e1]
    ·unfold fcM;rw [hBe,aj (show (Tr.mk root 18 n text [] ts).ix=root from rfl)]
   ·have hne:¬ t.ix=root:=by
     intro e;rw [e,hnd] at ndk;simp at ndk
    refine gX ⟨gD (bM ndk) ⟨?_⟩ nd0⟩ (by simpa using hne);rw [hb1] at hsk hwk hzk
    match tk,hsk with
    | [kb],hsk =>
    simp only [szs] at hzk;have gg:=dP slI (clI FN) b ⟨B,[]⟩;have c146:=yQ hP hS5 FN hFNl ns root b ⟨B,[]⟩ kb hsk.1 hwk.1 (by simp only;omega) (by simp;omega);refine gD (bM ndk) ⟨?_⟩ nd0;refine ah.exD (row:=[.int .i64 kb]) rfl (by omega) rfl ?_;refine gG ⟨gC [7,0] c146 ⟨?_⟩⟩;refine (tl _ txt ?_ ?_ ?_).toC rfl rfl
    ·exact bG gg.2.2 (by simp;omega)
    ·unfold jX;simp only;rw [ab hne,hBe,hb1];rfl
    ·unfold fcM;rw [hBe,ab hne,htx]
  ·have hge:gs.length<=j:=by simpa using h
   rw [List.drop_of_length_le hge,oe] at hRj;rw [<- hRj];refine ah.aD (os':=[]) [1] trivial rfl rfl trivial ?_;(conv=>whnf);rw [aq,ae (by simp)];exact ⟨rfl,rfl⟩
 exact start.to rfl rfl
def GM (ns:List Nd) (root:Int) (r:Tr):Prop:=∃ n text ts kids,r= .mk root 18 n text [] ts/\0<=root/\ns[root.toNat]?=some ⟨18,n,text,[],kids⟩/\dx ns ts kids/\wfs ts/\szs ts<=200
theorem k57 (S:Shelf C) (hS3:mh C) (hS4:pr C) (hS5:mg C) (hS6:vq C) (t:List UInt8) (ht:¬ 600 < t.length) :
  (∀ c p,par t= .error (c,p)->c≠0->Fn C 57 [.d (.str t)] [] (.tup [.agg [.d .nil],.d (.int .i64 c)]) [])/\(∀ k p ns r,par t= .ok (k,p,ns)->GM ns k r->Fn C 57 [.d (.str t)] [] (rX ns k r) []):=by
 have c95:=k95 hP S t ht;refine ⟨fun c p hp hc=>?_,fun k p ns r hp hr=>?_⟩
 ·rw [hp] at c95;exact eN hP c57 ⟨gO c95 ⟨gY ⟨lW ⟨trivial,rfl⟩⟩ (by simpa using hc)⟩⟩
 ·rw [hp] at c95;obtain ⟨n,text,ts,kids,rfl,h0,hnd,hs,hw,hb⟩:=hr;have c96:=k96 hP hS3 hS4 hS5 hS6 ns k text n ts kids h0 hnd hs hw hb;have hform:∃ (x:D) (c:Int),rX ns k (.mk k 18 n text [] ts)= .tup [.agg [.d x],.d (.int .i64 c)]:=by
   unfold rX;split
   ·exact ⟨_,_,rfl⟩
   ·unfold pE;split
    ·exact ⟨_,_,rfl⟩
    ·exact ⟨_,_,rfl⟩
  obtain ⟨x,c,hx⟩:=hform;rw [hx] at c96 ⊢;exact eN hP c57 ⟨gO c95 ⟨gX ⟨gO c96 ⟨lW ⟨trivial,rfl⟩⟩⟩⟩⟩
end
def dh (a b:Sc):Prop:=a.names=b.names/\a.own=b.own/\a.di=b.di
theorem dh.refl (a:Sc):dh a a:=⟨rfl,rfl,rfl⟩
theorem dh.trans {c:Sc} (h:dh a b) (h':dh b c):dh a c:=⟨h.1.trans h'.1,h.2.1.trans h'.2.1,h.2.2.trans h'.2.2⟩
theorem dh.symm (h:dh a b):dh b a:=⟨h.1.symm,h.2.1.symm,h.2.2.symm⟩
theorem gm (c k:Int) (s:Sc):dh (s.fail c k) s:=by unfold Sc.fail;split<;>exact ⟨rfl,rfl,rfl⟩
theorem jW (h:dh a b) (t:List UInt8) (k:Int):dh (a.cq t k) (b.cq t k):=by
 obtain ⟨h1,h2,h3⟩:=h;have key:∀ s:Sc,dh (s.cq t k) {s with names:=s.names++[t],di:=max s.di (s.names.length+1)}:=by
  intro s;unfold Sc.cq;simp only;split
  ·exact gm _ _ _
  ·exact .refl _
 have mid:dh {a with names:=a.names++[t],di:=max a.di (a.names.length+1)} {b with names:=b.names++[t],di:=max b.di (b.names.length+1)}:=⟨by simp [h1],h2,by simp [h1,h3]⟩
 exact (key a).trans (mid.trans (key b).symm)
theorem Ae (ar:List UInt8->Option Int) (t:List UInt8) (n:Nat) (k:Int) (s:Sc):dh (s.call ar t n k) s:=by
 unfold Sc.call;split
 ·exact gm _ _ _
 ·split
  ·exact gm _ _ _
  ·exact .refl _
theorem dm (ar:List UInt8->Option Int) (kind:Int) (t:List UInt8) (n:Nat) (k:Int) (s:Sc):dh (s.meet ar kind t n k) s:=by
 unfold Sc.meet;split
 ·split
  ·exact gm _ _ _
  ·exact .refl _
 ·split
  ·exact Ae _ _ _ _ _
  ·exact .refl _
theorem gy (t:List UInt8) (k:Int) (s:Sc):dh (s.declare t k) (s.cq t k):=by
 unfold Sc.declare;refine jW ?_ t k;split
 ·exact gm _ _ _
 ·exact .refl _
mutual
theorem eJ (ar:List UInt8->Option Int):∀ (t:Tr) (a b:Sc),dh a b->dh (t.walk ar a) (t.walk ar b)
 | .mk ix kind n text names kids,a,b,h=>by
  unfold Tr.walk;split
  ·exact h
  split
  ·rw [h.1];exact ud ar text ix b.names.length kids a b h
  split
  ·have h2:=dM ar kids {a with own:=a.names.length} {b with own:=b.names.length} ⟨h.1,by simp [h.1],h.2.2⟩;exact ⟨by simp only;rw [h2.1,h.1],h.2.1,h2.2.2⟩
  ·have h2:=dM ar kids _ _ (((dm ar kind text kids.length ix a).trans h).trans (dm ar kind text kids.length ix b).symm);simp only;split
   ·exact ((gy _ _ _).trans (jW h2 _ _)).trans (gy _ _ _).symm
   ·exact h2
theorem dM (ar:List UInt8->Option Int):∀ (l:List Tr) (a b:Sc),dh a b->dh (walks ar l a) (walks ar l b)
 | [],a,b,h=>h
 | t::l,a,b,h=>by
  unfold walks;exact dM ar l _ _ (eJ ar t a b h)
theorem ud (ar:List UInt8->Option Int) (text:List UInt8) (ix:Int) (n:Nat):∀ (l:List Tr) (a b:Sc),dh a b->dh (dT ar text ix n l a) (dT ar text ix n l b)
 | [],a,b,h=>h
 | t::l,a,b,h=>by
  unfold dT;exact sA ar text ix l _ _ (eJ ar t a b h)
theorem sA (ar:List UInt8->Option Int) (text:List UInt8) (ix:Int):∀ (l:List Tr) (a b:Sc),dh a b->dh (dV ar text ix l a) (dV ar text ix l b)
 | [],a,b,h=>h
 | t::l,a,b,h=>by
  unfold dV;have h2:=eJ ar t _ _ (jW h text ix);exact ⟨by simp only;rw [h2.1,h.1],h2.2.1,h2.2.2⟩
end
section
variable (ar:List UInt8->Option Int) (sl:List (List UInt8)->List UInt8->Int) (cl:List UInt8->Int)
theorem iN (kind:Int) (t:List UInt8) (n:Nat) (k:Int) (s:Sc):(s.meet ar kind t n k).names=s.names:=(dm ar kind t n k s).1
theorem mQ (t:List UInt8) (k:Int) (s:Sc):(s.declare t k).names=s.names++[t]:=by rw [(gy t k s).1,bZ]
theorem xZ (kind n:Int) (text:List UInt8) (nk:Nat) (g:Gs):(g.emit sl cl kind n text nk).names=if kind=11 then g.names++[text] else g.names:=by
 by_cases h11:kind=11
 ·subst h11;rw [aj rfl];unfold Gs.emit;simp [Gs.store]
 ·rw [ab h11];unfold Gs.emit;by_cases h1:kind=1
  ·rw [aj h1];rfl
  rw [ab h1];by_cases h2:kind=2
  ·rw [aj h2];rfl
  rw [ab h2];by_cases h3:kind=3
  ·rw [aj h3];rfl
  rw [ab h3];by_cases h4:kind=4
  ·rw [aj h4];rfl
  rw [ab h4];by_cases h5:kind=5
  ·rw [aj h5];rfl
  rw [ab h5];by_cases h6:kind=6
  ·rw [aj h6];rfl
  rw [ab h6];by_cases h7:kind=7
  ·rw [aj h7];rfl
  rw [ab h7];by_cases h10:kind=10
  ·rw [aj h10];rfl
  rw [ab h10];rw [ab h11];by_cases h12:kind=12
  ·rw [aj h12];rfl
  rw [ab h12];by_cases h15:kind=15
  ·rw [aj h15];rfl
  rw [ab h15];by_cases h16:kind=16
  ·rw [aj h16];rfl
  rw [ab h16];by_cases h19:kind=19
  ·rw [aj h19];rfl
  rw [ab h19]
theorem pj (t:Tr) (h:blK t) (s:Sc):(t.walk ar s).names=s.names:=by
 cases t with
 | mk ix kind n text names kids =>
  have h:kind=18:=h;subst h;obtain ⟨_,l,h2,_⟩:=b5 ar kids {s with own:=s.names.length};simp only [Tr.walk];simp only [show ¬ ((18:Int)=20) by decide,show ¬ ((18:Int)=17) by decide,aV,bo];rw [h2];simp
mutual
theorem cE:∀ (t:Tr) (g:Gs) (s:Sc),t.wf->g.names=s.names->(t.gen sl cl g).names=(t.walk ar s).names
 | .mk ix kind n text names kids,g,s,hwf,h=>by
  obtain ⟨hsh,hws⟩:=hwf;have hsh:=hsh.2.2;have hmt:g.names=(s.meet ar kind text kids.length ix).names:=by rw [iN,h]
  unfold Tr.gen Tr.walk;by_cases h20:kind=20
  ·rw [aj h20,aj h20];exact h
  rw [ab h20,ab h20];by_cases h89:kind=8\/kind=9
  ·rw [aj h89,ab (by omega),ab (by omega)];simp only;rw [ab (by omega)];have hl:kids.length=2:=by
    rcases h89 with rfl | rfl
    all_goals
     simp at hsh;obtain ⟨a,b,h,_⟩:=hsh;rw [h];rfl
   exact sH kind kids g _ hl hws hmt
  rw [ab h89];by_cases h13:kind=13
  ·rw [aj h13,ab (by omega),ab (by omega)];simp only;rw [ab (by omega)];have hl:kids.length=2\/kids.length=3:=by
    subst h13;simp at hsh;obtain ⟨a,_,b,_,h⟩:=hsh;rcases h with h | ⟨c,h,_⟩
    ·rw [h];exact .inl rfl
    ·rw [h];exact .inr rfl
   exact wM kids g _ hl hws hmt
  rw [ab h13];by_cases h14:kind=14
  ·rw [aj h14,ab (by omega),ab (by omega)];simp only;rw [ab (by omega)];have hl:kids.length=2:=by
    subst h14;simp at hsh;obtain ⟨a,b,h,_⟩:=hsh;rw [h];rfl
   exact sG g.code.length kids g _ hl hws hmt
  rw [ab h14];by_cases h17:kind=17
  ·rw [aj h17,aj h17];have hl:kids.length=2/\∀ a∈kids,blK a:=by
    subst h17;simp at hsh;obtain ⟨_,a,b,h,h1,h2⟩:=hsh;rw [h];exact ⟨rfl,by simp;exact ⟨h1,h2⟩⟩
   exact u4 text ix kids g s hl.1 hl.2 hws h
  rw [ab h17,ab h17];by_cases h18:kind=18
  ·rw [aj h18,aj h18];simp only;have:=dv kids g {s with own:=s.names.length} hws h;rw [Gs.cut];simp only;rw [this,h]
  ·rw [ab h18,ab h18];simp only;have:=dv kids g _ hws hmt;rw [xZ];by_cases h11:kind=11
   ·rw [aj h11,aj h11,mQ,this]
   ·rw [ab h11,ab h11,this]
theorem dv:∀ (l:List Tr) (g:Gs) (s:Sc),wfs l->g.names=s.names->(cX sl cl l g).names=(walks ar l s).names
 | [],g,s,_,h=>h
 | t::l,g,s,hw,h=>by
  unfold cX walks;exact dv l _ _ hw.2 (cE t g s hw.1 h)
theorem sH (kind:Int):∀ (l:List Tr) (g:Gs) (s:Sc),l.length=2->wfs l->g.names=s.names->(fE sl cl kind l g).names=(walks ar l s).names
 | [],g,s,hl,_,h=>by simp at hl
 | a::l,g,s,hl,hw,h=>by
  unfold fE walks;exact rG _ l _ _ (by simpa using hl) hw.2 (cE a g s hw.1 h)
theorem rG (p:Nat):∀ (l:List Tr) (g:Gs) (s:Sc),l.length=1->wfs l->g.names=s.names->(fI sl cl p l g).names=(walks ar l s).names
 | [],g,s,hl,_,h=>by simp at hl
 | b::l,g,s,hl,hw,h=>by
  have:l=[]:=by simpa using hl
  subst this;unfold fI walks;exact cE b g s hw.1 h
theorem wM:∀ (l:List Tr) (g:Gs) (s:Sc),(l.length=2\/l.length=3)->wfs l->g.names=s.names->(hZ sl cl l g).names=(walks ar l s).names
 | [],g,s,hl,_,h=>by simp at hl
 | a::l,g,s,hl,hw,h=>by
  unfold hZ walks;exact u6 _ l _ _ (by simpa using hl) hw.2 (cE a g s hw.1 h)
theorem u6 (p:Nat):∀ (l:List Tr) (g:Gs) (s:Sc),(l.length=1\/l.length=2)->wfs l->g.names=s.names->(iy sl cl p l g).names=(walks ar l s).names
 | [],g,s,hl,_,h=>by simp at hl
 | b::l,g,s,hl,hw,h=>by
  unfold iy walks;exact u5 p l _ _ (by simpa using hl) hw.2 (cE b g s hw.1 h)
theorem u5 (p:Nat):∀ (l:List Tr) (g:Gs) (s:Sc),(l=[]\/l.length=1)->wfs l->g.names=s.names->(iw sl cl p l g).names=(walks ar l s).names
 | [],g,s,hl,_,h=>h
 | c::l,g,s,hl,hw,h=>by
  have:l=[]:=by simpa using hl
  subst this;unfold iw walks;exact cE c _ s hw.1 h
theorem sG (start:Nat):∀ (l:List Tr) (g:Gs) (s:Sc),l.length=2->wfs l->g.names=s.names->(fD sl cl start l g).names=(walks ar l s).names
 | [],g,s,hl,_,h=>by simp at hl
 | a::l,g,s,hl,hw,h=>by
  unfold fD walks;exact rF start _ l _ _ (by simpa using hl) hw.2 (cE a g s hw.1 h)
theorem rF (start p:Nat):∀ (l:List Tr) (g:Gs) (s:Sc),l.length=1->wfs l->g.names=s.names->(fR sl cl start p l g).names=(walks ar l s).names
 | [],g,s,hl,_,h=>by simp at hl
 | b::l,g,s,hl,hw,h=>by
  have:l=[]:=by simpa using hl
  subst this;unfold fR walks;exact cE b g s hw.1 h
theorem u4 (text:List UInt8) (ix:Int):∀ (l:List Tr) (g:Gs) (s:Sc),l.length=2->(∀ a∈l,blK a)->wfs l->g.names=s.names->(gK sl cl text g.names.length l g).names=(dT ar text ix s.names.length l s).names
 | [],g,s,hl,_,_,h=>by simp at hl
 | a::l,g,s,hl,hbk,hw,h=>by
  unfold gK dT;have h1:=cE a (g.put (iOp 14 0 0 [])) s hw.1 h;have h2:=pj ar a (hbk a (by simp)) s;simp only;rw [show g.names.length=(a.walk ar s).names.length by rw [h2,h]];exact sE text ix _ l _ _ (by simpa using hl) hw.2 h1
theorem sE (text:List UInt8) (ix:Int) (q:Nat):∀ (l:List Tr) (g:Gs) (s:Sc),l.length=1->wfs l->g.names=s.names->(iR sl cl text s.names.length q l g).names=(dV ar text ix l s).names
 | [],g,s,hl,_,h=>by simp at hl
 | b::l,g,s,hl,hw,h=>by
  unfold iR dV;have h1:=cE b (g.store text) (s.cq text ix) hw.1 (by rw [bZ,Gs.store,h]);simp only [Gs.cut,Gs.here];rw [h1]
end
end
section
variable {C:Ctx} (hP:C.P=Tryz.prog)
include hP
def fA (f:List Int) (c:List Ins):O:= .st [.ptr 1 0 0,.d (bJ f),.own false 7 (c.map Ins.enc)]
theorem jP (f:List Int) (c:List Ins) (s:Sc) (ns:List Nd) (root:Int) (i:Ins) (hl:c.length<=1073741000):Fn C 128 [.ptr 0 0 0,i.v] [fA f c,s.aY ns root] (.d (.int .i64 c.length)) [some (fA f (c++[i])),some (s.aY ns root)]:=by
 have hcl:(c.map Ins.enc).length=c.length:=by simp
 have hsh:(Sh.ds [[D.int .i64 i.op,.int .i64 i.a,.int .i64 i.b,.str i.text,.int .i64 i.val.kind,.int .i64 i.val.n,.str i.val.t]] [[D.int .i64 i.op,.int .i64 i.a,.int .i64 i.b,.str i.text,.int .i64 i.val.kind,.int .i64 i.val.n,.str i.val.t]].length).len=1:=rfl;have hrows:List.take (c.map Ins.enc).length (List.drop 0 (c.map Ins.enc))++[[D.int .i64 i.op,.int .i64 i.a,.int .i64 i.b,.str i.text,.int .i64 i.val.kind,.int .i64 i.val.n,.str i.val.t]]=(c++[i]).map Ins.enc:=by rw [aq,b8];simp;rfl
 refine eN hP I7 ⟨gN ?_ ⟨?_⟩⟩
 ·show (c.map Ins.enc).length+1<=_;omega
 repeat' (refine gN ?_ ⟨?_⟩;simp [ew])
 rw [show IntKind.i64.wrap ((((c.map Ins.enc).length+(Sh.ds [[D.int .i64 i.op,.int .i64 i.a,.int .i64 i.b,.str i.text,.int .i64 i.val.kind,.int .i64 i.val.n,.str i.val.t]] [[D.int .i64 i.op,.int .i64 i.a,.int .i64 i.b,.str i.text,.int .i64 i.val.kind,.int .i64 i.val.n,.str i.val.t]].length).len:Nat):Int) - 1)=(c.length:Int) by
  rw [hsh,hcl,wrap_i64 ⟨by omega,by omega⟩];omega]
 refine lW ⟨⟨?_,rfl,trivial⟩,rfl⟩;(conv=>lhs;whnf);rw [hrows,hsh,hcl,aq,ae (by simp)];rfl
theorem Bu (f:List Int) (c:List Ins) (s:Sc) (ns:List Nd) (root:Int) (v:Val) (hl:c.length<=1073741000):Fn C 127 [.ptr 0 0 0,v.v] [fA f c,s.aY ns root] (.tup []) [some (fA f (c++[fN v])),some (s.aY ns root)]:=by
 exact eN hP c127 ⟨gC [0,1] (jP hP f c s ns root (fN v) hl) ⟨lW ⟨⟨rfl,rfl,trivial⟩,rfl⟩⟩⟩
theorem wA (f:List Int) (g:Gs) (s:Sc) (ns:List Nd) (root:Int) (p:Nat) (hp:p < g.code.length) (hl:g.code.length<=1073741824):Fn C 184 [.ptr 0 0 0,.d (.int .i64 p)] [fA f g.code,s.aY ns root] (.tup []) [some (fA f (g.here p).code),some (s.aY ns root)]:=by
 have hcl:(g.code.map Ins.enc).length=g.code.length:=by simp
 have hrow:(g.code.map Ins.enc)[0+((p:Nat):Int).toNat]?=some (g.code[p].enc):=by simp [aa hp]
 have hset:(g.here p).code=g.code.set p ⟨g.code[p].op,g.code.length,g.code[p].b,g.code[p].text,g.code[p].val⟩:=by
  unfold Gs.here;apply List.ext_getElem?;intro q;rw [List.getElem?_modify,List.getElem?_set];by_cases hq:p=q
  ·subst hq;simp [aa hp,hp]
  ·simp [hq]
 rw [hset];generalize hx:g.code[p]=x at hrow hset;refine eN hP IV ⟨gN ?_ ⟨?_⟩⟩
 ·omega
 refine gD hrow ⟨?_⟩;repeat' (refine gN ?_ ⟨?_⟩;simp [ew])
 refine lW ⟨⟨?_,rfl,trivial⟩,rfl⟩;(conv=>lhs;whnf);rw [aq,ae (by simp),fA,List.map_set,hcl,show 0+((p:Nat):Int).toNat=p by omega];rfl
end
def posOf (x:Int):List Int->Nat->Int
 | [],_=> -1
 | y::l,k=>if x=y then k else posOf x l (k+1)
theorem vX (x:Int):∀ (l:List Int) (k:Nat),x∈l->0<=posOf x l k
 | [],k,h=>by cases h
 | y::l,k,h=>by
  unfold posOf;split
  ·omega
  ·rename_i hne;exact vX x l (k+1) (by rcases aQ.1 h with h | h;exact absurd h hne;exact h)
def clS (us:List Tr) (f:List Int) (t:List UInt8):Int:=if iA us t < 0 then -1 else posOf (iA us t) f 0
section
variable {C:Ctx} (hP:C.P=Tryz.prog)
include hP
theorem HG (f:List Int) (hfl:f.length<=1073741000) (hnd:f.Nodup) (c:List Ins) (s:Sc) (ns:List Nd) (root:Int) (rd:Nd) (h0r:0<=root) (hrd:ns[root.toNat]?=some rd) (us:List Tr) (hus:dx ns us rd.kids) (hul:us.length<=1073741824) (hf:∀ t,0<=iA us t->iA us t∈f)
  (nd:Nd) (hk:nd.kids.length<=1073741000) (hl:c.length<=1073741000) :
  Fn C 185 [.ptr 0 0 0,.agg (nd.enc.map .d)] [fA f c,s.aY ns root] (.tup []) [some (fA f (c++[if 0<=clS us f nd.text then iOp 10 (clS us f nd.text+1) nd.kids.length [] else iOp 11 nd.kids.length 0 nd.text])),some (s.aY ns root)]:=by
 have E3:=FV hP ns root rd h0r hrd us hus nd.text hul;refine eN hP IU ⟨gO E3 ⟨?_⟩⟩;have hin:=hf nd.text;unfold clS;generalize iA us nd.text=at' at hin ⊢;have hkl:(List.map (fun k=>[D.int IntKind.i64 k]) nd.kids).length=nd.kids.length:=by simp
 refine gP (fun h=>⟨?_⟩) fun h=>⟨?_⟩
 ·have h:at' < 0:=by simpa using h
  rw [aj h,ab (by decide),hkl];exact gC [0,1] (jP hP f c s ns root (iOp 11 nd.kids.length 0 nd.text) hl) ⟨lW ⟨⟨rfl,rfl,trivial⟩,rfl⟩⟩
 ·have h:¬ at' < 0:=by simpa using h
  have hin:=hin (by omega);have hpos:=vX at' f 0 hin;rw [ab h,aj hpos];generalize hPe:posOf at' f 0=P at hpos ⊢;refine ah.loop (fun x:Nat×List Ins=>f.length - x.1) (fun x=>x.1<=f.length/\((x.2=c/\posOf at' (f.drop x.1) x.1=P)\/(x.2=c++[iOp 10 (P+1) nd.kids.length []]/\¬ at'∈f.drop x.1))) (fun x=>[(0,.ptr 0 0 0),(3,.ptr 2 0 0),(4,.d (.int .i64 at')),(5,.d (.int .i64 (x.1:Nat)))]) (fun x=>[(0,fA f x.2),(1,s.aY ns root),(2,.st (nd.enc.map .d))]) 3 ?_ (0,c) ⟨by simp,.inl ⟨rfl,hPe⟩⟩;intro ⟨j,c'⟩ ⟨hj,hc'⟩ ih;simp only at hj hc' ih ⊢;refine gG ⟨?_⟩;rw [show (List.map (fun k=>[D.int IntKind.i64 k]) f).length=f.length by simp];refine gP (fun h=>⟨?_⟩) fun h=>⟨?_⟩
  ·have hlt:j < f.length:=by simpa using h
   refine ah.exD (row:=[.int .i64 f[j]]) (by simp [aa hlt]) (by omega) rfl ?_;refine gG ⟨?_⟩;have hd:f.drop j=f[j]::f.drop (j+1):=av hlt;have hn2:(f.drop j).Nodup:=hnd.sublist (List.drop_sublist j f);rw [hd] at hc' hn2;generalize f[j]=y at hd hc' hn2 ⊢;refine gP (fun hy=>⟨?_⟩) fun hy=>⟨?_⟩
   ·have hy:y=at':=by simpa using hy
    subst hy;rcases hc' with ⟨rfl,hp⟩ | ⟨_,hnin⟩
    ·rw [posOf,aj rfl] at hp;subst hp;rw [hkl,show IntKind.i64.wrap (1+(j:Int))=(j:Int)+1 by rw [wrap_i64 ⟨by omega,by omega⟩];omega];refine gC [0,1] (jP hP f c' s ns root (iOp 10 ((j:Int)+1) nd.kids.length []) hl) ⟨?_⟩;rw [aC (by omega)];exact (ih (j+1,c'++[iOp 10 ((j:Int)+1) nd.kids.length []]) ⟨hlt,.inr ⟨rfl,(List.nodup_cons.1 hn2).1⟩⟩ (by simp only;omega)).to rfl rfl
    ·exact absurd (by simp) hnin
   ·have hy:¬ at'=y:=fun e=>by simp [e] at hy
    rw [aC (by omega)];refine (ih (j+1,c') ⟨hlt,?_⟩ (by simp only;omega)).to rfl rfl;rcases hc' with ⟨h1,hp⟩ | ⟨h1,hnin⟩
    ·rw [posOf,ab hy] at hp;exact .inl ⟨h1,hp⟩
    ·exact .inr ⟨h1,fun hm=>hnin (aM _ hm)⟩
  ·have hge:f.length<=j:=by simpa using h
   rw [List.drop_of_length_le hge] at hc';rcases hc' with ⟨_,hp⟩ | ⟨rfl,_⟩
   ·rw [posOf] at hp;omega
   ·exact lW ⟨⟨rfl,rfl,trivial⟩,rfl⟩
def gv (C:Ctx) (f:List Int) (ns:List Nd) (root:Int) (us:List Tr) (t:Tr):Prop:=∀ (s:Sc) (c:List Ins) (k:Int),Sub ns t k->t.wf->s.names.length+t.sz<=1073741000->c.length+4 * t.sz<=1073741000->s.own<=s.names.length ->
 ∃ s',Fn C 126 [.ptr 0 0 0,.d (.int .i64 k)] [fA f c,s.aY ns root] (.tup []) [some (fA f (t.gen au (clS us f) ⟨s.names,c⟩).code),some (s'.aY ns root)]/\dh s' (t.walk (aA us) s)
theorem uU (f:List Int) (ns:List Nd) (root:Int) (us:List Tr) (nd:Nd) (ts:List Tr) (hall:∀ t∈ts,gv C f ns root us t) (hs:dx ns ts nd.kids) (hw:wfs ts) (s:Sc) (c:List Ins) (hn:s.names.length+szs ts<=1073741000) (hc:c.length+4 * szs ts<=1073741000) (ho:s.own<=s.names.length) :
  ∃ s',Fn C 182 [.ptr 0 0 0,.agg (nd.enc.map .d)] [fA f c,s.aY ns root] (.tup []) [some (fA f (cX au (clS us f) ts ⟨s.names,c⟩).code),some (s'.aY ns root)]/\dh s' (walks (aA us) ts s):=by
 have htl:=eP hs;have hlz:=fC ts;have main:FnE C 182 [.ptr 0 0 0,.agg (nd.enc.map .d)] [fA f c,s.aY ns root] (fun v os'=>∃ s',v= .tup []/\os'=[some (fA f (cX au (clS us f) ts ⟨s.names,c⟩).code),some (s'.aY ns root)]/\dh s' (walks (aA us) ts s)):=by
  refine eE hP c182 ⟨?_⟩;refine ah.loop (fun x:Nat×Sc=>ts.length - x.1) (fun x=>x.1<=ts.length/\dh x.2 (walks (aA us) (ts.take x.1) s)) (fun x=>[(0,.ptr 0 0 0),(3,.ptr 2 0 0),(4,.d (.int .i64 (x.1:Nat)))]) (fun x=>[(0,fA f (cX au (clS us f) (ts.take x.1) ⟨s.names,c⟩).code),(1,x.2.aY ns root),(2,.st (nd.enc.map .d))]) 3 ?_ (0,s) ⟨by simp,.refl _⟩;intro ⟨j,s'⟩ ⟨hj,hs'⟩ ih;simp only at hj hs' ih ⊢;have hwt:wfs (ts.take j):=oz fun t ht=>ep hw t (cw ht)
  have gn:=dv (aA us) au (clS us f) (ts.take j) ⟨s.names,c⟩ s hwt rfl;have gg:=eu au (clS us f) (ts.take j) ⟨s.names,c⟩;have hkp:=b5 (aA us) (ts.take j) s;generalize hg':cX au (clS us f) (ts.take j) ⟨s.names,c⟩=g' at gn gg ⊢;have hge':g'=⟨s'.names,g'.code⟩:=by rw [hs'.1,<- gn]
  refine gG ⟨?_⟩;rw [show (List.map (fun k=>[D.int IntKind.i64 k]) nd.kids).length=nd.kids.length by simp];refine gP (fun h=>⟨?_⟩) fun h=>⟨?_⟩
  ·have hlt:j < ts.length:=by rw [htl];simpa using h
   obtain ⟨kk,hk1,hk2⟩:=eX hs (aa hlt);refine ah.exD (row:=[.int .i64 kk]) (by simp [hk1]) (by omega) rfl ?_;refine gG ⟨?_⟩;have hsz:szs (ts.take j)+ts[j].sz<=szs ts:=by
    have:=congrArg szs (List.take_append_drop j ts);rw [av hlt,gB] at this;simp only [szs] at this;omega
   have hkl:=hkp.len;have hk0:=hkp.1;have hs1:=congrArg List.length hs'.1;have hs2:=hs'.2.1;have hc2:=gg.2.2;simp only at hc2;obtain ⟨s2,hf2,hsame⟩:=hall ts[j] (aZ hlt) s' g'.code kk hk2 (ep hw _ (aZ hlt)) (by omega) (by omega) (by omega);refine gC [0,1] hf2 ⟨?_⟩;rw [aC (by omega)];refine (ih (j+1,s2) ⟨hlt,?_⟩ (by simp only;omega)).to rfl ?_
   ·simp only;rw [aG hlt,gS];exact hsame.trans (eJ (aA us) ts[j] _ _ hs')
   ·rw [aG hlt,kC,hg'];simp only [cX];rw [<- hge'];rfl
  ·have hge:ts.length<=j:=by
    have:¬ (j < nd.kids.length):=by simpa using h
    omega
   rw [ae hge] at hg' hs';refine lE (os':=[some (fA f g'.code),some (s'.aY ns root)]) ⟨⟨rfl,rfl,trivial⟩,?_⟩;(conv=>whnf);exact ⟨s',rfl,by rw [hg'],hs'⟩
 obtain ⟨v,os',h1,s',rfl,rfl,h2⟩:=main;exact ⟨s',h1,h2⟩
end
def Sc.fy (s:Sc):Sc:=⟨s.names,s.names.length,s.di,s.code,s.node⟩
section
variable {C:Ctx} (hP:C.P=Tryz.prog)
include hP
omit hP in
theorem tg (l:List (List UInt8)) (w:List UInt8):au (l++[w]) w=l.length:=by rw [lL,aj rfl]
theorem FK (f:List Int) (ns:List Nd) (root:Int) (us:List Tr) (k m:Int) (txt:List UInt8) (nms:List (List UInt8)) (ts:List Tr) (kids:List Int) (h0:0<=k) (hnd:ns[k.toNat]?=some ⟨18,m,txt,nms,kids⟩) (hall:∀ t∈ts,gv C f ns root us t) (hs:dx ns ts kids) (hw:wfs ts)
  (w:List UInt8) (s:Sc) (c:List Ins) (hn:s.names.length+szs ts+1<=1073741000) (hc:c.length+4 * szs ts+1<=1073741000) (ho:s.own<=s.names.length) :
  ∃ s':Sc,Fn C 231 [.ptr 0 0 0,.d (.int .i64 k),.d (.str w)] [fA f c,s.aY ns root] (.tup []) [some (fA f (cX au (clS us f) ts (if w=[] then ⟨s.names,c⟩ else Gs.store w ⟨s.names,c⟩)).code),some (s'.aY ns root)] /\
   s'.names=s.names/\s'.own=s.own/\s'.di=(walks (aA us) ts (if w=[] then s else s.cq w k).fy).di:=by
 have tail:∀ (s1:Sc) (c1:List Ins),s.names <+: s1.names->s1.names.length+szs ts<=1073741000->c1.length+4 * szs ts<=1073741000 ->
   b4 C 2 [] (fun v os'=>∃ s':Sc,v= .tup []/\os'=[some (fA f (cX au (clS us f) ts ⟨s1.names,c1⟩).code),some (s'.aY ns root)]/\s'.names=s.names/\s'.own=s.own/\s'.di=(walks (aA us) ts s1.fy).di)
    (Cfg.dy E1.l 0 [(0,.ptr 0 0 0),(1,.d (.int .i64 k)),(6,.d (.int .i64 (s.own:Nat))),(7,.d (.int .i64 (s.names.length:Nat)))] [(0,fA f c1),(1,s1.aY ns root)] 2):=by
  intro s1 c1 hp h1 h2;obtain ⟨s2,hf2,hsm⟩:=uU hP f ns root us ⟨18,m,txt,nms,kids⟩ ts hall hs hw s1.fy c1 h1 h2 (al _);have hk2:=b5 (aA us) ts s1.fy;have hnm2:∃ l,s2.names=s.names++l:=by
   obtain ⟨_,l,h3,_⟩:=hk2;obtain ⟨l',h4⟩:=hp;exact ⟨l'++l,by rw [hsm.1,h3,<- e8,h4];rfl⟩
  refine gT ⟨?_⟩;rw [show (List.map (fun w=>[D.str w]) s1.names).length=s1.names.length by simp];refine gD (bM hnd) ⟨gC [0,1] hf2 ⟨?_⟩⟩ h0;obtain ⟨l2,hl2⟩:=hnm2;refine gN ?_ ⟨?_⟩
  ·rw [hl2];simp [fb];omega
  have hsub:sub (List.map (fun s=>[D.str s]) s2.names) none (some (s.names.length:Int))=s.names.map (fun s=>[D.str s]):=by rw [hl2];simp [sub]
  rw [hsub];refine ah.aD (os':=[some (fA f (cX au (clS us f) ts ⟨s1.names,c1⟩).code),some ((⟨s.names,s.own,s2.di,s2.code,s2.node⟩:Sc).aY ns root)]) [0,1] trivial rfl rfl ⟨rfl,rfl,trivial⟩ ?_;(conv=>whnf);exact ⟨⟨s.names,s.own,s2.di,s2.code,s2.node⟩,rfl,rfl,rfl,rfl,hsm.2.2⟩
 have main:FnE C 231 [.ptr 0 0 0,.d (.int .i64 k),.d (.str w)] [fA f c,s.aY ns root] (fun v os'=>∃ s':Sc,v= .tup []/\os'=[some (fA f (cX au (clS us f) ts (if w=[] then ⟨s.names,c⟩ else Gs.store w ⟨s.names,c⟩)).code),some (s'.aY ns root)] /\
   s'.names=s.names/\s'.own=s.own/\s'.di=(walks (aA us) ts (if w=[] then s else s.cq w k).fy).di):=by
  by_cases hw0:w=[]
  ·simp only [aj hw0];have tl:=tail s c (List.prefix_refl _) (by omega) (by omega);refine eE hP E1 ⟨gX ⟨?_⟩ (by simpa using hw0)⟩;exact tl.toC (by simp) rfl
  ·simp only [ab hw0];refine eE hP E1 ⟨gY ⟨?_⟩ (by simpa using hw0)⟩;rw [show (List.map (fun w=>[D.str w]) s.names).length=s.names.length by simp];have xj:=zM hP s.fy ns root w k (by simp only [Sc.fy];omega) (al _);rw [show s.fy.declare w k=s.fy.cq w k by rw [Sc.declare,ab (by simp [Sc.fy])]] at xj;have hbn:(s.fy.cq w k).names=s.names++[w]:=bZ w k s.fy;have vh:=zL hP (s.fy.cq w k) ns root w (by rw [hbn];simp;omega);rw [hbn,tg] at vh;have tl:=tail (s.fy.cq w k) (c++[iOp 3 s.names.length 0 []]) (by rw [hbn];exact List.prefix_append _ _) (by rw [hbn];simp;omega) (by simp;omega);have hmost:(walks (aA us) ts (s.fy.cq w k).fy).di=(walks (aA us) ts (s.cq w k).fy).di:=by
    refine (dM (aA us) ts _ _ ?_).2.2;have e1:dh ({s.fy with own:=s.own}:Sc) s:=⟨rfl,rfl,rfl⟩
    have hb:(s.cq w k).names=s.names++[w]:=bZ w k s;have hm:(s.fy.cq w k).di=(s.cq w k).di:=by
     unfold Sc.cq Sc.fy;simp only;split
     ·rw [(gm _ _ _).2.2,(gm _ _ _).2.2]
     ·rfl
    exact ⟨by simp only [Sc.fy];rw [hb];exact hbn,by show (s.fy.cq w k).names.length=(s.cq w k).names.length;rw [hb,hbn],hm⟩
   rw [hbn,hmost] at tl;generalize s.fy.cq w k=s1 at xj vh tl;refine gC [1] xj ⟨gC [1] vh ⟨gC [0,1] (jP hP f c s1 ns root (iOp 3 s.names.length 0 []) (by omega)) ⟨?_⟩⟩⟩;exact tl.toC rfl rfl
 obtain ⟨v,os',h1,s',rfl,rfl,h2⟩:=main;exact ⟨s',h1,h2⟩
end
theorem gv.at {C:Ctx} {f:List Int} {ns:List Nd} {root:Int} {us:List Tr} {t:Tr} (h:gv C f ns root us t) (s:Sc) (g:Gs) (k:Int) (hg:g.names=s.names) (hs:Sub ns t k) (hw:t.wf) (hn:s.names.length+t.sz<=1073741000) (hc:g.code.length+4 * t.sz<=1073741000) (ho:s.own<=s.names.length) :
  ∃ s':Sc,Fn C 126 [.ptr 0 0 0,.d (.int .i64 k)] [fA f g.code,s.aY ns root] (.tup []) [some (fA f (t.gen au (clS us f) g).code),some (s'.aY ns root)]/\dh s' (t.walk (aA us) s)/\(t.gen au (clS us f) g).names=s'.names/\s'.own=s.own /\
   s.names.length<=s'.names.length/\s'.names.length<=s.names.length+t.sz/\g.code.length<=(t.gen au (clS us f) g).code.length/\(t.gen au (clS us f) g).code.length<=g.code.length+4 * t.sz:=by
 obtain ⟨s',h1,h2⟩:=h s g.code k hs hw hn hc ho;have eg:(⟨s.names,g.code⟩:Gs)=g:=by rw [<- hg]
 rw [eg] at h1;have h3:=cE (aA us) au (clS us f) t g s hw hg;have h4:=e9 (aA us) t s;have h5:=h4.len;have h6:=(dP au (clS us f) t g).2;refine ⟨s',h1,h2,by rw [h3,h2.1],by rw [h2.2.1,h4.1],?_,?_,h6.1,h6.2⟩
 ·rw [h2.1];exact h5.1
 ·rw [h2.1];exact h5.2
section
variable {C:Ctx} (hP:C.P=Tryz.prog)
include hP
theorem zI (f:List Int) (ns:List Nd) (root:Int) (us:List Tr) (k n:Int) (text:List UInt8) (names:List (List UInt8)) (a b:Tr) (ka kb:Int) (hall:∀ t∈[a,b],gv C f ns root us t) (hs:dx ns [a,b] [ka,kb]) (hws:wfs [a,b]) (s:Sc) (g:Gs) (hg:g.names=s.names)
  (h1:s.names.length+szs [a,b]+1<=1073741000) (h2:g.code.length+4 * szs [a,b]+4<=1073741000) (ho:s.own<=s.names.length) :
  ∃ s':Sc,Fn C 186 [.ptr 0 0 0,.d (.int .i64 k),.agg ((Nd.enc ⟨14,n,text,names,[ka,kb]⟩).map .d)] [fA f g.code,s.aY ns root] (.tup []) [some (fA f (fD au (clS us f) g.code.length [a,b] g).code),some (s'.aY ns root)]/\dh s' (walks (aA us) [a,b] s):=by
 simp only [szs] at h1 h2;simp only [fD,fR];obtain ⟨g1s,g1C,g1S,g1N,g1O,g1a,g1b,g1c,g1d⟩:=(hall a (by simp)).at (s) (g) ka hg hs.1 hws.1 (by omega) (by omega) (by omega);generalize a.gen au (clS us f) (g)=g1 at g1C g1N g1c g1d ⊢;have g2C:=jP hP f (g1).code (g1s) ns root (iOp 7 0 0 []) (by omega);have g2N:((g1).put (iOp 7 0 0 [])).names=(g1s).names:=g1N;have g2l:=(eU (iOp 7 0 0 []) (g1)).1;rw [show (g1).code++[iOp 7 0 0 []]=((g1).put (iOp 7 0 0 [])).code from rfl] at g2C;generalize (g1).put (iOp 7 0 0 [])=g2 at g2C g2N g2l ⊢;obtain ⟨g3s,g3C,g3S,g3N,g3O,g3a,g3b,g3c,g3d⟩:=(hall b (by simp)).at (g1s) (g2) kb g2N hs.2.1 hws.2.1 (by omega) (by omega) (by omega);generalize b.gen au (clS us f) (g2)=g3 at g3C g3N g3c g3d ⊢;have g4C:=jP hP f (g3).code (g3s) ns root (iOp 6 g.code.length 0 []) (by omega);have g4N:((g3).put (iOp 6 g.code.length 0 [])).names=(g3s).names:=g3N;have g4l:=(eU (iOp 6 g.code.length 0 []) (g3)).1;rw [show (g3).code++[iOp 6 g.code.length 0 []]=((g3).put (iOp 6 g.code.length 0 [])).code from rfl] at g4C;generalize (g3).put (iOp 6 g.code.length 0 [])=g4 at g4C g4N g4l ⊢;have g5C:=wA hP f (g4) (g3s) ns root (g1.code.length) (by omega) (by omega);have g5N:((g4).here (g1.code.length)).names=(g3s).names:=g4N;have g5l:=(fp (g1.code.length) (g4)).1;generalize (g4).here (g1.code.length)=g5 at g5C g5N g5l ⊢;refine ⟨g3s,?_,g3S.trans (eJ (aA us) b _ _ g1S)⟩;have hcl:(g.code.map Ins.enc).length=g.code.length:=by simp
 refine eN hP Ak ⟨?_⟩
 (repeat' (first | refine gY ⟨?_⟩ | refine gX ⟨?_⟩ | fail))
 rw [kO,hcl];refine ah.exD (row:=[.int .i64 ka]) rfl (by omega) rfl ?_;refine gG ⟨gC [0,1] g1C ⟨gC [0,1] g2C ⟨?_⟩⟩⟩;refine ah.exD (row:=[.int .i64 kb]) rfl (by omega) rfl ?_;exact gG ⟨gC [0,1] g3C ⟨gC [0,1] g4C ⟨gC [0,1] g5C ⟨lW ⟨⟨rfl,rfl,trivial⟩,rfl⟩⟩⟩⟩⟩
theorem Et (f:List Int) (ns:List Nd) (root:Int) (us:List Tr) (k n:Int) (text:List UInt8) (names:List (List UInt8)) (a b:Tr) (ka kb:Int) (hall:∀ t∈[a,b],gv C f ns root us t) (hs:dx ns [a,b] [ka,kb]) (hws:wfs [a,b]) (s:Sc) (g:Gs) (hg:g.names=s.names)
  (h1:s.names.length+szs [a,b]+1<=1073741000) (h2:g.code.length+4 * szs [a,b]+4<=1073741000) (ho:s.own<=s.names.length) :
  ∃ s':Sc,Fn C 186 [.ptr 0 0 0,.d (.int .i64 k),.agg ((Nd.enc ⟨13,n,text,names,[ka,kb]⟩).map .d)] [fA f g.code,s.aY ns root] (.tup []) [some (fA f (hZ au (clS us f) [a,b] g).code),some (s'.aY ns root)]/\dh s' (walks (aA us) [a,b] s):=by
 simp only [szs] at h1 h2;simp only [hZ,iy,iw];obtain ⟨g1s,g1C,g1S,g1N,g1O,g1a,g1b,g1c,g1d⟩:=(hall a (by simp)).at (s) (g) ka hg hs.1 hws.1 (by omega) (by omega) (by omega);generalize a.gen au (clS us f) (g)=g1 at g1C g1N g1c g1d ⊢;have g2C:=jP hP f (g1).code (g1s) ns root (iOp 7 0 0 []) (by omega);have g2N:((g1).put (iOp 7 0 0 [])).names=(g1s).names:=g1N;have g2l:=(eU (iOp 7 0 0 []) (g1)).1;rw [show (g1).code++[iOp 7 0 0 []]=((g1).put (iOp 7 0 0 [])).code from rfl] at g2C;generalize (g1).put (iOp 7 0 0 [])=g2 at g2C g2N g2l ⊢;obtain ⟨g3s,g3C,g3S,g3N,g3O,g3a,g3b,g3c,g3d⟩:=(hall b (by simp)).at (g1s) (g2) kb g2N hs.2.1 hws.2.1 (by omega) (by omega) (by omega);generalize b.gen au (clS us f) (g2)=g3 at g3C g3N g3c g3d ⊢;have g5C:=wA hP f (g3) (g3s) ns root (g1.code.length) (by omega) (by omega);have g5N:((g3).here (g1.code.length)).names=(g3s).names:=g3N;have g5l:=(fp (g1.code.length) (g3)).1;generalize (g3).here (g1.code.length)=g5 at g5C g5N g5l ⊢;refine ⟨g3s,?_,g3S.trans (eJ (aA us) b _ _ g1S)⟩;refine eN hP Ak ⟨?_⟩
 (repeat' (first | refine gY ⟨?_⟩ | refine gX ⟨?_⟩ | fail))
 refine ah.exD (row:=[.int .i64 ka]) rfl (by omega) rfl ?_;refine gG ⟨gC [0,1] g1C ⟨gC [0,1] g2C ⟨?_⟩⟩⟩;refine ah.exD (row:=[.int .i64 kb]) rfl (by omega) rfl ?_;refine gG ⟨gC [0,1] g3C ⟨?_⟩⟩
 (repeat' (first | refine gY ⟨?_⟩ | refine gX ⟨?_⟩ | fail))
 exact gC [0,1] g5C ⟨lW ⟨⟨rfl,rfl,trivial⟩,rfl⟩⟩
theorem Bm (f:List Int) (ns:List Nd) (root:Int) (us:List Tr) (k n:Int) (text:List UInt8) (names:List (List UInt8)) (a b c:Tr) (ka kb kc:Int) (hall:∀ t∈[a,b,c],gv C f ns root us t) (hs:dx ns [a,b,c] [ka,kb,kc]) (hws:wfs [a,b,c]) (s:Sc) (g:Gs) (hg:g.names=s.names)
  (h1:s.names.length+szs [a,b,c]+1<=1073741000) (h2:g.code.length+4 * szs [a,b,c]+4<=1073741000) (ho:s.own<=s.names.length) :
  ∃ s':Sc,Fn C 186 [.ptr 0 0 0,.d (.int .i64 k),.agg ((Nd.enc ⟨13,n,text,names,[ka,kb,kc]⟩).map .d)] [fA f g.code,s.aY ns root] (.tup []) [some (fA f (hZ au (clS us f) [a,b,c] g).code),some (s'.aY ns root)]/\dh s' (walks (aA us) [a,b,c] s):=by
 simp only [szs] at h1 h2;simp only [hZ,iy,iw];obtain ⟨g1s,g1C,g1S,g1N,g1O,g1a,g1b,g1c,g1d⟩:=(hall a (by simp)).at (s) (g) ka hg hs.1 hws.1 (by omega) (by omega) (by omega);generalize a.gen au (clS us f) (g)=g1 at g1C g1N g1c g1d ⊢;have g2C:=jP hP f (g1).code (g1s) ns root (iOp 7 0 0 []) (by omega);have g2N:((g1).put (iOp 7 0 0 [])).names=(g1s).names:=g1N;have g2l:=(eU (iOp 7 0 0 []) (g1)).1;rw [show (g1).code++[iOp 7 0 0 []]=((g1).put (iOp 7 0 0 [])).code from rfl] at g2C;generalize (g1).put (iOp 7 0 0 [])=g2 at g2C g2N g2l ⊢;obtain ⟨g3s,g3C,g3S,g3N,g3O,g3a,g3b,g3c,g3d⟩:=(hall b (by simp)).at (g1s) (g2) kb g2N hs.2.1 hws.2.1 (by omega) (by omega) (by omega);generalize b.gen au (clS us f) (g2)=g3 at g3C g3N g3c g3d ⊢;have g4C:=jP hP f (g3).code (g3s) ns root (iOp 6 0 0 []) (by omega);have g4N:((g3).put (iOp 6 0 0 [])).names=(g3s).names:=g3N;have g4l:=(eU (iOp 6 0 0 []) (g3)).1;rw [show (g3).code++[iOp 6 0 0 []]=((g3).put (iOp 6 0 0 [])).code from rfl] at g4C;generalize (g3).put (iOp 6 0 0 [])=g4 at g4C g4N g4l ⊢;have g5C:=wA hP f (g4) (g3s) ns root (g1.code.length) (by omega) (by omega);have g5N:((g4).here (g1.code.length)).names=(g3s).names:=g4N;have g5l:=(fp (g1.code.length) (g4)).1;generalize (g4).here (g1.code.length)=g5 at g5C g5N g5l ⊢;obtain ⟨g6s,g6C,g6S,g6N,g6O,g6a,g6b,g6c,g6d⟩:=(hall c (by simp)).at (g3s) (g5) kc g5N hs.2.2.1 hws.2.2.1 (by omega) (by omega) (by omega);generalize c.gen au (clS us f) (g5)=g6 at g6C g6N g6c g6d ⊢;have g7C:=wA hP f (g6) (g6s) ns root (g3.code.length) (by omega) (by omega);have g7N:((g6).here (g3.code.length)).names=(g6s).names:=g6N;have g7l:=(fp (g3.code.length) (g6)).1;generalize (g6).here (g3.code.length)=g7 at g7C g7N g7l ⊢;refine ⟨g6s,?_,g6S.trans (eJ (aA us) c _ _ (g3S.trans (eJ (aA us) b _ _ g1S)))⟩;refine eN hP Ak ⟨?_⟩
 (repeat' (first | refine gY ⟨?_⟩ | refine gX ⟨?_⟩ | fail))
 refine ah.exD (row:=[.int .i64 ka]) rfl (by omega) rfl ?_;refine gG ⟨gC [0,1] g1C ⟨gC [0,1] g2C ⟨?_⟩⟩⟩;refine ah.exD (row:=[.int .i64 kb]) rfl (by omega) rfl ?_;refine gG ⟨gC [0,1] g3C ⟨?_⟩⟩
 (repeat' (first | refine gY ⟨?_⟩ | refine gX ⟨?_⟩ | fail))
 refine gC [0,1] g4C ⟨gC [0,1] g5C ⟨?_⟩⟩;refine ah.exD (row:=[.int .i64 kc]) rfl (by omega) rfl ?_;exact gG ⟨gC [0,1] g6C ⟨gC [0,1] g7C ⟨lW ⟨⟨rfl,rfl,trivial⟩,rfl⟩⟩⟩⟩
omit hP in
theorem yP (sl:List (List UInt8)->List UInt8->Int) (cl:List UInt8->Int) (bi m:Int) (txt:List UInt8) (nms:List (List UInt8)) (bts:List Tr) (g:Gs):(Tr.mk bi 18 m txt nms bts).gen sl cl g=(cX sl cl bts g).cut g.names.length:=by
 rw [Tr.gen];simp
theorem C9 (f:List Int) (ns:List Nd) (root:Int) (us:List Tr) (k n:Int) (text:List UInt8) (names:List (List UInt8)) (a:Tr) (bi m:Int) (txt:List UInt8) (nms:List (List UInt8)) (bts:List Tr) (ka kb:Int) (hall:gv C f ns root us a) (hallb:∀ t∈bts,gv C f ns root us t)
  (hs:dx ns [a,.mk bi 18 m txt nms bts] [ka,kb]) (hws:wfs [a,.mk bi 18 m txt nms bts]) (htx:text≠[]) (hab:blK a) (s:Sc) (g:Gs) (hg:g.names=s.names)
  (h1:s.names.length+szs [a,.mk bi 18 m txt nms bts]+1<=1073741000) (h2:g.code.length+4 * szs [a,.mk bi 18 m txt nms bts]+4<=1073741000) (ho:s.own<=s.names.length) :
  ∃ s':Sc,Fn C 186 [.ptr 0 0 0,.d (.int .i64 k),.agg ((Nd.enc ⟨17,n,text,names,[ka,kb]⟩).map .d)] [fA f g.code,s.aY ns root] (.tup []) [some (fA f (gK au (clS us f) text g.names.length [a,.mk bi 18 m txt nms bts] g).code),some (s'.aY ns root)]/\dh s' (dT (aA us) text k s.names.length [a,.mk bi 18 m txt nms bts] s):=by
 simp only [szs,Tr.sz] at h1 h2;obtain ⟨hbi,bkids,b0,bnd,bsub⟩:=hs.2.1;subst hbi;have hwalk:dh (dT (aA us) text k s.names.length [a,.mk kb 18 m txt nms bts] s) ⟨(a.walk (aA us) s).names,(a.walk (aA us) s).own,(walks (aA us) bts ((a.walk (aA us) s).cq text k).fy).di,0,0⟩:=by
  simp only [dT,dV];have hk:=e9 (aA us) (Tr.mk kb 18 m txt nms bts) ((a.walk (aA us) s).cq text k);have hb:=pj (aA us) (Tr.mk kb 18 m txt nms bts) rfl ((a.walk (aA us) s).cq text k);refine ⟨?_,?_,?_⟩
  ·simp only;rw [hb,bZ];simp
  ·simp only;rw [hk.1,fK]
  ·rfl
 simp only [gK,iR];have g1C:=jP hP f (g).code (s) ns root (iOp 14 0 0 []) (by omega);have g1N:((g).put (iOp 14 0 0 [])).names=(s).names:=hg;have g1l:=(eU (iOp 14 0 0 []) (g)).1;rw [show (g).code++[iOp 14 0 0 []]=((g).put (iOp 14 0 0 [])).code from rfl] at g1C;generalize (g).put (iOp 14 0 0 [])=g1 at g1C g1N g1l ⊢;obtain ⟨g2s,g2C,g2S,g2N,g2O,g2a,g2b,g2c,g2d⟩:=hall.at s g1 ka g1N hs.1 hws.1 (by omega) (by omega) (by omega);generalize a.gen au (clS us f) g1=g2 at g2C g2N g2c g2d ⊢;have g3C:=jP hP f (g2).code (g2s) ns root (iOp 15 0 0 []) (by omega);have g3N:((g2).put (iOp 15 0 0 [])).names=(g2s).names:=g2N;have g3l:=(eU (iOp 15 0 0 []) (g2)).1;rw [show (g2).code++[iOp 15 0 0 []]=((g2).put (iOp 15 0 0 [])).code from rfl] at g3C;generalize (g2).put (iOp 15 0 0 [])=g3 at g3C g3N g3l ⊢;have g4C:=jP hP f (g3).code (g2s) ns root (iOp 6 0 0 []) (by omega);have g4N:((g3).put (iOp 6 0 0 [])).names=(g2s).names:=g3N;have g4l:=(eU (iOp 6 0 0 []) (g3)).1;rw [show (g3).code++[iOp 6 0 0 []]=((g3).put (iOp 6 0 0 [])).code from rfl] at g4C;generalize (g3).put (iOp 6 0 0 [])=g4 at g4C g4N g4l ⊢;have g5C:=wA hP f (g4) (g2s) ns root (g.code.length) (by omega) (by omega);have g5N:((g4).here (g.code.length)).names=(g2s).names:=g4N;have g5l:=(fp (g.code.length) (g4)).1;generalize (g4).here (g.code.length)=g5 at g5C g5N g5l ⊢;obtain ⟨s6,f6,n6,o6,m6⟩:=FK hP f ns root us kb m txt nms bts bkids b0 bnd hallb bsub hws.2.1.2 text g2s g5.code (by omega) (by omega) (by omega);rw [ab htx] at f6 m6;rw [show (⟨g2s.names,g5.code⟩:Gs)=g5 by rw [<- g5N]] at f6;have g6k:=eu au (clS us f) bts (g5.store text);have g6l:=(tc text g5).1;have hcode:(((((Tr.mk kb 18 m txt nms bts).gen au (clS us f) (g5.store text)).here g3.code.length).cut g.names.length)).code=((cX au (clS us f) bts (g5.store text)).here g3.code.length).code:=by
  rw [yP];rfl
 rw [hcode];generalize cX au (clS us f) bts (g5.store text)=g6 at f6 g6k ⊢;have g6c:=g6k.2;have g7C:=wA hP f g6 s6 ns root g3.code.length (by omega) (by omega);generalize g6.here g3.code.length=g7 at g7C ⊢;refine ⟨s6,?_,dh.trans ⟨?_,?_,?_⟩ hwalk.symm⟩
 ·refine eN hP Ak ⟨?_⟩
  (repeat' (first | refine gY ⟨?_⟩ | refine gX ⟨?_⟩ | fail))
  refine gC [0,1] g1C ⟨?_⟩;refine ah.exD (row:=[.int .i64 ka]) rfl (by omega) rfl ?_;refine gG ⟨gC [0,1] g2C ⟨gC [0,1] g3C ⟨gC [0,1] g4C ⟨gC [0,1] g5C ⟨?_⟩⟩⟩⟩⟩;refine ah.exD (row:=[.int .i64 kb]) rfl (by omega) rfl ?_;exact gG ⟨gC [0,1] f6 ⟨gC [0,1] g7C ⟨lW ⟨⟨rfl,rfl,trivial⟩,rfl⟩⟩⟩⟩
 ·rw [n6];exact g2S.1
 ·rw [o6];exact g2S.2.1
 ·rw [m6];refine (dM (aA us) bts _ _ ?_).2.2;have hb1:(g2s.cq text kb).names=g2s.names++[text]:=bZ _ _ _;have hb2:((a.walk (aA us) s).cq text k).names=(a.walk (aA us) s).names++[text]:=bZ _ _ _;have hm:(g2s.cq text kb).di=((a.walk (aA us) s).cq text k).di:=by
   have e1:=(jW g2S text kb).2.2;rw [e1];unfold Sc.cq;simp only;split
   ·rw [(gm _ _ _).2.2,(gm _ _ _).2.2]
   ·rfl
  exact ⟨by simp only [Sc.fy];rw [hb1,hb2,g2S.1],by simp only [Sc.fy];rw [hb1,hb2,g2S.1],hm⟩
end
end Go.Proofs.YtggoiofammbchaaGreatDoor.Loc
