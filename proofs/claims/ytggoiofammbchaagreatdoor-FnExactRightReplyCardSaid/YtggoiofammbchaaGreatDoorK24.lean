/- Part 24 of a chain that ends in the statement named in GOCLAIM.json; no condition. -/
import Derived.Test.YtggoiofammbchaaGreatDoorK23
set_option maxRecDepth 100000
set_option maxHeartbeats 2000000
set_option linter.all false
namespace Go.Proofs.YtggoiofammbchaaGreatDoor.Loc
open Go
variable {at_ c k:Int} {ns:List Nd} {p:Nat}
section
variable {C:Ctx} (hP:C.P=Tryz.prog)
include hP
theorem HY (fn pc:Int) (rows:List (List D)) (h:rows.length<=1000):Fn C 129 [.agg [.d (.int .i64 fn),.d (.int .i64 pc),.arr 0 0 rows.length,.d .nil,.d .nil]] [.da 3 rows] (.agg [.d (.int .i64 fn),.d (.int .i64 pc),.arr 1 0 rows.length,.arr 2 0 0,.arr 3 0 0]) [some (.da 3 rows),some (.da 3 rows),some (.da 3 []),some (.da 2 [])]:=by
 refine eN hP Dz ⟨gN ?_ ⟨?_⟩⟩
 ·simp only [Sh.len];omega
 refine gN ?_ ⟨?_⟩
 ·simp only [Sh.len];omega
 refine gN ?_ ⟨?_⟩
 ·simp only [Sh.len];omega
 refine ah.aD (os':=[some (.da 3 rows),some (.da 3 rows),some (.da 3 []),some (.da 2 [])]) [0,3,4,5,2] trivial rfl rfl ⟨rfl,?_,rfl,rfl,trivial⟩ ?_
 ·(conv=>lhs;whnf);rw [aq,b8];rfl
 ·(conv=>whnf);refine ⟨?_,rfl⟩;simp [Sh.len]
def v5 (k:Nat) (sl:Nat):List V:=[.d (.int .i64 0),.d (.int .i64 0),.arr k 0 sl,.d .nil,.d .nil]
theorem k55 (P:List Fc) (fc:Fc) (sl:Nat) (path:List UInt8) (h0:P[0]?=some fc) (hs:fc.aL=sl) (h1:1<=sl) (hl:sl<=1000) :
  Fn C 55 [.agg [.d (.imm 4 (P.map Fc.enc))],.d (.str path)] [] (.agg [.arr 0 0 1,.d (.int .i64 1),.d (.int .i64 0),.d (.int .i64 0),.d (.str []),.d (.int .i64 0)]) [some (.va 5 [v5 1 sl]),some (.da 3 ((cC sl 0 [dH path]).aL.map Val.enc))]:=by
 have c99:=k93 hP path;have c92:=k92 hP P fc 0 sl [dH path] h0 hs hl h1;refine eN hP c55 ⟨gO c99 ⟨gO c92 ⟨?_⟩⟩⟩;repeat' (first | refine gN (by simp [ew]) ⟨?_⟩ | fail)
 refine ah.aD (os':=[some (.va 5 [v5 1 sl]),some (.da 3 ((cC sl 0 [dH path]).aL.map Val.enc))]) [3,2,1] trivial rfl rfl ⟨rfl,rfl,trivial⟩ ?_;(conv=>whnf);exact ⟨rfl,rfl⟩
theorem k90 (st:Int) (vl:Val) (us:Nat) (f:Frm) (sl:Nat) (h:f.aL.length=sl) (h1:sl<=1000) (hf:f.stack=[]) (ht:f.tries=[]) (hfn:f.fn=0) (hpc:f.pc=0) :
  Fn C 90 [.agg [.arr 0 0 1,.d (.int .i64 st),.d (.int .i64 vl.kind),.d (.int .i64 vl.n),.d (.str vl.t),.d (.int .i64 us)]] [.va 5 [v5 1 sl],.da 3 (f.aL.map Val.enc)]
  (.agg [.arr 2 0 1,.d (.int .i64 st),.d (.int .i64 vl.kind),.d (.int .i64 vl.n),.d (.str vl.t),.d (.int .i64 us)]) [some (.va 5 [v5 1 sl]),some (.da 3 (f.aL.map Val.enc)),some (.oa 5 (a7 [f]))]:=by
 have Dz:=HY hP 0 0 (f.aL.map Val.enc) (by simpa using by omega);rw [aJ,h] at Dz;refine eN hP c90 ⟨gL ⟨gY ⟨gN (by simp) ⟨?_⟩⟩ (by simp)⟩⟩;refine ah.exV (row:=v5 1 sl) rfl trivial rfl ?_;refine gG ⟨gC [1] Dz ⟨?_⟩⟩;refine gN (by show 1<=1073741824;decide) ⟨gL ⟨gX ⟨?_⟩ (by decide)⟩⟩;refine ah.aD (os':=[some (.va 5 [v5 1 sl]),some (.da 3 (f.aL.map Val.enc)),some (.oa 5 (a7 [f]))]) [0,1,8,3] trivial rfl rfl ⟨rfl,rfl,?_,trivial⟩ ?_
 ·(conv=>lhs;whnf);refine congrArg (fun R=>some (O.oa 5 [R])) (dw (f:=f) (by rw [hfn];rfl) (by rw [hpc];rfl) ?_ (by rw [hf];rfl) (by rw [ht];rfl));rw [aq,ae (by simp [h])]
 ·(conv=>whnf);exact ⟨rfl,rfl⟩
theorem k54 (P:List Fc) (hPg:Cb P) (fc:Fc) (sl:Nat) (path:List UInt8) (h0:P[0]?=some fc) (hs:fc.aL=sl) (h1:1<=sl) (hl:sl<=1000) (hp:path.length<=1073741824) (fuel:Nat) (hf:fuel<=20000) :
  Fn C 54 [.agg [.d (.imm 4 (P.map Fc.enc))],.agg [.arr 0 0 1,.d (.int .i64 1),.d (.int .i64 0),.d (.int .i64 0),.d (.str []),.d (.int .i64 0)],.d (.int .i64 fuel)] [.va 5 [v5 1 sl],.da 3 ((cC sl 0 [dH path]).aL.map Val.enc)]
  (.tup [.agg [.arr 2 0 (runM P fuel (cQ sl path)).fs.length,.d (.int .i64 (runM P fuel (cQ sl path)).state),.d (.int .i64 (runM P fuel (cQ sl path)).val.kind),.d (.int .i64 (runM P fuel (cQ sl path)).val.n),.d (.str (runM P fuel (cQ sl path)).val.t),.d (.int .i64 (runM P fuel (cQ sl path)).used)],.d (.int .i64 (runN P fuel (cQ sl path)))])
  [some (.va 5 [v5 1 sl]),some (.da 3 ((cC sl 0 [dH path]).aL.map Val.enc)),some (.oa 5 (a7 (runM P fuel (cQ sl path)).fs))]:=by
 have c90:=k90 hP 1 bO 0 (cC sl 0 [dH path]) sl (by simp only [cC,aH,List.length_replicate,aU];omega) hl rfl rfl rfl rfl;obtain ⟨hm,hlow⟩:=nJ hPg.ok h0 hs h1 hp;have hu:(cQ sl path).used<=1000000:=by simp [cQ]
 generalize hR:runM P fuel (cQ sl path)=R;generalize hN:runN P fuel (cQ sl path)=N;refine eN hP c54 ⟨gC [0,1] c90 ⟨?_⟩⟩;refine ah.to (ah.loop (fun x:Nat×bI=>fuel - x.1) (fun x=>x.1<=fuel/\gw P x.2/\Low x.1 x.2.fs/\x.2.used<=1000000/\runM P (fuel - x.1) x.2=R/\x.1+runN P (fuel - x.1) x.2=N) (fun x=>[(2,.d (.int .i64 fuel)),(3,.ptr 2 0 0),(6,.ptr 4 0 0),(8,.ptr 6 0 0),(9,.d (.int .i64 (x.1:Nat)))]) (fun x=>[(6,x.2.enc),(1,.da 3 ((cC sl 0 [dH path]).aL.map Val.enc)),(0,.va 5 [v5 1 sl]),(4,.st [.d .nil,.d (.int .i64 0),.d (.int .i64 0),.d (.int .i64 0),.d (.str []),.d (.int .i64 0)]),(3,.st [.arr 0 0 1,.d (.int .i64 1),.d (.int .i64 0),.d (.int .i64 0),.d (.str []),.d (.int .i64 0)]),(2,.st [.d (.imm 4 (P.map Fc.enc))])]) 7 ?_ (0,cQ sl path) ⟨by simp,hm,hlow,hu,hR,by simpa using hN⟩) rfl ?_
 ·intro ⟨k,m'⟩ ⟨hk,hm',hl',hu',hR',hN'⟩ ih;simp only at hk hm' hl' hu' hR' hN' ih ⊢;refine gG ⟨?_⟩;by_cases hkf:k < fuel
  ·rw [show fuel - k=(fuel - (k+1))+1 by omega,runM] at hR';rw [show fuel - k=(fuel - (k+1))+1 by omega,runN] at hN';refine gY ⟨?_⟩ (by simp;omega);by_cases h1:m'.state=1
   ·rw [aj h1] at hR' hN';refine gY ⟨?_⟩ (by simpa using h1);cases hfs:m'.fs with
    | nil=>exact absurd hfs (hm'.run h1)
    | cons f l =>
     obtain ⟨fc,sl,H,i,hh⟩:=(hm'.fs.top f l hfs).1.here;have c91:=k91 hP P hPg.ok m' f l hfs (yV hm' hl' (by omega)) hh (hPg.code fc (aP hh.get)) hu' hPg.few;obtain ⟨q1,q2⟩:=qa hPg.ok hm' h1;have hus:=oF P m' (hm'.run h1) hm' h1;rw [show a7 (f::l)=a7 m'.fs by rw [hfs]];refine gC [6] c91 ⟨?_⟩;rw [aC (by omega)];exact (ih (k+1,iG P m') ⟨by omega,q1,q2 k hl',hus▸Nat.min_le_right _ _,hR',(by show k+1+runN P (fuel - (k+1)) (iG P m')=N;omega)⟩ (by simp only;omega)).to rfl rfl
   ·rw [ab h1] at hR' hN';refine gX ⟨?_⟩ (by simpa using h1);subst hR';refine ah.aD (os':=[some (.va 5 [v5 1 sl]),some (.da 3 ((cC sl 0 [dH path]).aL.map Val.enc)),some (.oa 5 (a7 m'.fs))]) [0,1,7,4] trivial rfl rfl ⟨rfl,rfl,rfl,trivial⟩ ?_;(conv=>whnf);rw [bu,show N=k by omega];exact ⟨rfl,rfl⟩
  ·rw [show fuel - k=0 by omega,runM] at hR';rw [show fuel - k=0 by omega,runN] at hN';refine gX ⟨?_⟩ (by simp;omega);subst hR';refine ah.aD (os':=[some (.va 5 [v5 1 sl]),some (.da 3 ((cC sl 0 [dH path]).aL.map Val.enc)),some (.oa 5 (a7 m'.fs))]) [0,1,7,4] trivial rfl rfl ⟨rfl,rfl,rfl,trivial⟩ ?_;(conv=>whnf);rw [bu,show N=k by omega];exact ⟨rfl,rfl⟩
 ·rfl
end
structure Ans where
 st:Int
 body:List UInt8
 late:Bool
 cost:Int
def Ans.v (a:Ans):V:= .tup [.agg [.d (.int .i64 a.st),.d (.str a.body),(bif a.late then .tt else .ff)],.d (.int .i64 a.cost)]
def iT:Ans:=⟨500,eC 3,false,0⟩
def sw (m:bI) (n:Nat):Ans:=if m.state=1 then ⟨504,eC 16,true,n⟩ else ⟨if m.state=2 then 200 else 500,m.val.text,false,n⟩
section
variable {C:Ctx} (hP:C.P=Tryz.prog)
include hP
theorem k61 (s:Int):Fn C 61 [.d (.int .i64 s)] [] (.d (.int .i64 (if s=2 then 200 else 500))) []:=by
 refine eN hP c61 ⟨?_⟩
 (repeat' (first | refine gP (fun _=>⟨?_⟩) fun _=>⟨?_⟩ | (refine gN ?_ ⟨?_⟩;rotate_left) | exact lW ⟨trivial,rfl⟩ | refine lW ⟨trivial,?_⟩ | fail))
 all_goals simp_all
theorem k56 (m:bI) (n:Nat) (hv:small m.val.n):Fn C 56 [.agg [.arr 0 0 n,.d (.int .i64 m.state),.d (.int .i64 m.val.kind),.d (.int .i64 m.val.n),.d (.str m.val.t),.d (.int .i64 m.used)]] [.oa 5 (a7 m.fs)]
  (.tup [.d (.int .i64 (if m.state=2 then 200 else 500)),.d (.str m.val.text)]) [some (.oa 5 (a7 m.fs))]:=by
 have c94:=k94 hP m.val hv;refine eN hP c56 ⟨?_⟩;have sm:m.val.v=V.agg [V.d (D.int IntKind.i64 m.val.kind),V.d (D.int IntKind.i64 m.val.n),V.d (D.str m.val.t)]:=rfl;by_cases h2:m.state=2
 ·refine gY ⟨gO c94 ⟨?_⟩⟩ (by simpa using h2);rw [aj h2];exact lW ⟨⟨rfl,trivial⟩,rfl⟩
 ·refine gX ⟨gO c94 ⟨?_⟩⟩ (by simpa using h2);rw [ab h2];exact lW ⟨⟨rfl,trivial⟩,rfl⟩
theorem uQ (t path:List UInt8) (c57:Fn C 57 [.d (.str t)] [] (.tup [.agg [.d .nil],.d (.int .i64 c)]) []) (hc:c≠0):Fn C 30 [.d (.str t),.d (.str path)] [] iT.v []:=by
 have c58:=k58 hP 3;exact eN hP c30 ⟨gO c57 ⟨gY ⟨gO c58 ⟨lW ⟨trivial,rfl⟩⟩⟩ (by simpa using hc)⟩⟩
theorem Ef (hS7:pq C) (hS2:lu C) (t path:List UInt8) (P:List Fc) (c57:Fn C 57 [.d (.str t)] [] (.tup [.agg [.d (.imm 4 (P.map Fc.enc))],.d (.int .i64 0)]) []) (hPg:Cb P) (fc:Fc) (sl:Nat) (h0:P[0]?=some fc) (hs:fc.aL=sl) (h1:1<=sl) (hl:sl<=1000) (hp:path.length<=1073741824) :
  Fn C 30 [.d (.str t),.d (.str path)] [] (sw (runM P 20000 (cQ sl path)) (runN P 20000 (cQ sl path))).v []:=by
 obtain ⟨hm,hlow⟩:=nJ hPg.ok h0 hs h1 hp;have hu:(cQ sl path).used<=1000000:=by simp [cQ]
 have c59:=k59 hP P fc sl path h0 hs h1 hl;have c60:=k60 hP hS7 hS2 P hPg (cQ sl path) hm hlow hu 20000 (by omega);have hus:=vQ hPg.ok 20000 (cQ sl path) hm (by simp [cQ]);have hok:=uo hPg.ok 20000 (cQ sl path) hm;generalize runM P 20000 (cQ sl path)=R at c60 hus hok ⊢;generalize runN P 20000 (cQ sl path)=N at c60 hus ⊢;have hus:R.used=N:=by simpa [cQ] using hus
 have c58:=k58 hP 16;have c61:=k61 hP R.state;have c62:=k62 hP hS2 R.val hok.val.1 hok.val.2.1;refine eN hP c30 ⟨gO c57 ⟨gX ⟨gO c59 ⟨gC [3,1] c60 ⟨?_⟩⟩⟩ (by simp)⟩⟩;by_cases h1:R.state=1
 ·refine gY ⟨gO c58 ⟨?_⟩⟩ (by simpa using h1);repeat' (first | refine gN (by simp [ew]) ⟨?_⟩ | fail)
  refine ah.aD (os':=[]) [0] trivial rfl rfl trivial ?_;(conv=>whnf);rw [sw,aj h1,hus];exact ⟨rfl,rfl⟩
 ·refine gX ⟨gO c61 ⟨gO c62 ⟨?_⟩⟩⟩ (by simpa using h1);repeat' (first | refine gN (by simp [ew]) ⟨?_⟩ | fail)
  refine ah.aD (os':=[]) [0] trivial rfl rfl trivial ?_;(conv=>whnf);rw [sw,ab h1,hus];exact ⟨rfl,rfl⟩
theorem Bg (t path:List UInt8) {p:Int} (c51:Fn C 51 [.d (.str t)] [] (kT (.error (c,p))) []) (hc:c≠0):Fn C 28 [.d (.str t),.d (.str path)] [] iT.v []:=by
 rw [kT] at c51;exact eN hP c28 ⟨gO c51 ⟨gX ⟨gX ⟨gY ⟨lW ⟨trivial,rfl⟩⟩ (by simpa using hc)⟩ (by simpa using hc)⟩ (by simpa using hc)⟩⟩
theorem Bi (t path:List UInt8) (c51:Fn C 51 [.d (.str t)] [] (kT (.ok (k,p,ns))) []) (c52:Fn C 52 [lz ns k] [] (.agg [.d (.int .i64 c),.d (.int .i64 at_)]) []) (hc:c≠0):Fn C 28 [.d (.str t),.d (.str path)] [] iT.v []:=by
 rw [kT] at c51;exact eN hP c28 ⟨gO c51 ⟨gY ⟨gO c52 ⟨gX ⟨gY ⟨lW ⟨trivial,rfl⟩⟩ (by simpa using hc)⟩ (by simpa using hc)⟩⟩ (by simp)⟩⟩
theorem Bh (t path:List UInt8) (c51:Fn C 51 [.d (.str t)] [] (kT (.ok (k,p,ns))) []) (c52:Fn C 52 [lz ns k] [] (.agg [.d (.int .i64 c),.d (.int .i64 at_)]) []) (hc:c=0) (c53:Fn C 53 [lz ns k] [] (.tup [.agg [.d .nil],.d (.int .i64 6)]) []):Fn C 28 [.d (.str t),.d (.str path)] [] iT.v []:=by
 rw [kT] at c51;subst hc;exact eN hP c28 ⟨gO c51 ⟨gY ⟨gO c52 ⟨gY ⟨gO c53 ⟨gY ⟨lW ⟨trivial,rfl⟩⟩ (by simp)⟩⟩ (by simp)⟩⟩ (by simp)⟩⟩
theorem Eg (t path:List UInt8) (c51:Fn C 51 [.d (.str t)] [] (kT (.ok (k,p,ns))) []) (c52:Fn C 52 [lz ns k] [] (.agg [.d (.int .i64 c),.d (.int .i64 at_)]) []) (hc:c=0)
  (P:List Fc) (c53:Fn C 53 [lz ns k] [] (.tup [.agg [.d (.imm 4 (P.map Fc.enc))],.d (.int .i64 0)]) []) (hPg:Cb P) (fc:Fc) (sl:Nat) (h0:P[0]?=some fc) (hs:fc.aL=sl) (h1:1<=sl) (hl:sl<=1000) (hp:path.length<=1073741824) :
  Fn C 28 [.d (.str t),.d (.str path)] [] (sw (runM P 20000 (cQ sl path)) (runN P 20000 (cQ sl path))).v []:=by
 obtain ⟨hm,hlow⟩:=nJ hPg.ok h0 hs h1 hp;have c55:=k55 hP P fc sl path h0 hs h1 hl;have c54:=k54 hP P hPg fc sl path h0 hs h1 hl hp 20000 (by omega);have hok:=uo hPg.ok 20000 (cQ sl path) hm;generalize runM P 20000 (cQ sl path)=R at c54 hok ⊢;generalize runN P 20000 (cQ sl path)=N at c54 ⊢;have c56:=k56 hP R R.fs.length hok.val.1;rw [kT] at c51;subst hc;refine eN hP c28 ⟨gO c51 ⟨gY ⟨gO c52 ⟨gY ⟨gO c53 ⟨gX ⟨gO c53 ⟨gO c55 ⟨gC [3,4] c54 ⟨?_⟩⟩⟩⟩ (by simp)⟩⟩ (by simp)⟩⟩ (by simp)⟩⟩;repeat' (first | refine gN (by simp [ew]) ⟨?_⟩ | fail)
 by_cases h1:R.state=1
 ·refine gY ⟨?_⟩ (by simpa using h1);repeat' (first | refine gN (by simp [ew]) ⟨?_⟩ | fail)
  refine ah.aD (os':=[]) [0] trivial rfl rfl trivial ?_;(conv=>whnf);rw [sw,aj h1];exact ⟨rfl,rfl⟩
 ·refine gX ⟨gC [5] c56 ⟨?_⟩⟩ (by simpa using h1);refine ah.aD (os':=[]) [0] trivial rfl rfl trivial ?_;(conv=>whnf);rw [sw,ab h1];exact ⟨rfl,rfl⟩
end
structure jE (C:Ctx):Prop where
 s1:Shelf C
 s2:lu C
 s3:mh C
 s4:pr C
 s5:mg C
 s6:vq C
 s7:pq C
section
variable {C:Ctx} (hP:C.P=Tryz.prog)
include hP
theorem both (S:jE C) (t path:List UInt8) (ht:¬ 600 < t.length) (hp:path.length<=1073741824) :
  ∃ a:Ans,Fn C 30 [.d (.str t),.d (.str path)] [] a.v []/\Fn C 28 [.d (.str t),.d (.str path)] [] a.v []/\ -1000<=a.st/\a.st<=1000/\a.body.length<=1073741824:=by
 obtain ⟨e57,o57⟩:=k57 hP S.s1 S.s3 S.s4 S.s5 S.s6 t ht;have c51:=k51 hP t (by omega);have form:(-1000:Int)<=iT.st/\iT.st<=1000/\iT.body.length<=1073741824:=⟨by decide,by decide,by decide⟩
 cases hq:par t with
 | error e =>
  obtain ⟨c,p⟩:=e;have hc:=CU (by omega) hq;rw [hq] at c51;exact ⟨iT,uQ hP t path (e57 c p hq hc) hc,Bg hP t path c51 hc,form⟩
 | ok x =>
  obtain ⟨k,p,ns⟩:=x;obtain ⟨r,hr⟩:=AX (by omega) hq;rw [hq] at c51;obtain ⟨hcs,hcl⟩:=Aa hr.root;have c57:=o57 k p ns r hq hr.root.root;rw [hcs] at c57;have hr':=hr;obtain ⟨⟨n,ts,kids,rfl,h0,hnd,hs,hw,hb,hd⟩,hkids⟩:=hr';have c52:=k52 hP ns k [] [] n ts kids h0 hnd hs hw (by omega) rfl;have c53:=k53 hP ns k n ts kids h0 hnd hs hw hb hd;unfold vM at c53 c57;by_cases hc:(gM k (.mk k 18 n [] [] ts)).1=0
  ·rw [ab (by simpa using hc)] at c53 c57;have hPk:=DD hr (hcl hc);have hlen:(po k (.mk k 18 n [] [] ts)).length<=1000:=by
    have h1:(aX ts).length<=ts.length:=List.length_filter_le _ _;have h2:=fC ts;rw [po,aJ,aT];show (aX ts).length+1<=1000;omega
   generalize po k (.mk k 18 n [] [] ts)=P at c53 c57 hPk hlen;by_cases ha:(P.any fun x=>decide (400 < x.code.length))=true
   ·rw [aj ha,pE] at c53 c57;exact ⟨iT,uQ hP t path c57 (by omega),Bh hP t path c51 c52 hc c53,form⟩
   ·rw [ab ha,pE] at c53 c57;have hPg:Cb P:=⟨hPk,hlen,fun f hf=>by
     have:¬ 400 < f.code.length:=fun h=>ha (List.any_eq_true.2 ⟨f,hf,by simpa using h⟩)
     omega⟩
    obtain ⟨fc,g1,g2⟩:=hPk.root;obtain ⟨sl,H,hfc⟩:=hPk.fns fc (aP g1);have hsl:=hfc.aL;have hfew:=hfc.few;have o:=uo hPk 20000 (cQ sl path) (nJ hPk g1 hsl (by omega) hp).1;refine ⟨_,Ef hP S.s7 S.s2 t path P c57 hPg fc sl g1 hsl (by omega) (by omega) hp,Eg hP t path c51 c52 hc P c53 hPg fc sl g1 hsl (by omega) (by omega) hp,?_⟩;generalize runM P 20000 (cQ sl path)=R at o ⊢;unfold sw;split
    ·exact ⟨by simp,by simp,by show (eC 16).length<=1073741824;decide⟩
    ·refine ⟨?_,?_,vG o.val⟩
     ·show (-1000:Int)<=if R.state=2 then 200 else 500
      split<;>omega
     ·show (if R.state=2 then 200 else 500)<=(1000:Int);split<;>omega
  ·rw [aj hc] at c53 c57;exact ⟨iT,uQ hP t path c57 hc,Bi hP t path c51 c52 hc,form⟩
omit hP in
def mU (s:Int):List UInt8:=if s=200 then [79,75] else if s=400 then [66,97,100,32,82,101,113,117,101,115,116] else if s=404 then [78,111,116,32,70,111,117,110,100] else if s=431 then [82,101,113,117,101,115,116,32,72,101,97,100,101,114,32,70,105,101,108,100,115,32,84,111,111,32,76,97,114,103,101] else if s=500 then [73,110,116,101,114,110,97,108,32,83,101,114,118,101,114,32,69,114,114,111,114] else if s=501 then [78,111,116,32,73,109,112,108,101,109,101,110,116,101,100] else if s=503 then [83,101,114,118,105,99,101,32,85,110,97,118,97,105,108,97,98,108,101] else if s=504 then [71,97,116,101,119,97,121,32,84,105,109,101,111,117,116] else []
omit hP in
theorem kQ (s:Int):(mU s).length<=100:=by
 unfold mU;repeat' split
 all_goals decide
omit hP in
def iq (s:Int) (b:List UInt8) (c:Bool):List UInt8:=[72,84,84,80,47,49,46,49,32]++(Lib.itoa s++([32]++(mU s++([13,10,67,111,110,116,101,110,116,45,76,101,110,103,116,104,58,32]++(Lib.itoa b.length++([13,10]++((if c=true then [67,111,110,110,101,99,116,105,111,110,58,32,99,108,111,115,101,13,10] else [])++([13,10]++b))))))))
theorem k64 (s:Int):Fn C 64 [.d (.int .i64 s)] [] (.d (.str (mU s))) []:=by
 refine eN hP c64 ⟨?_⟩
 (repeat' (first | refine gP (fun _=>⟨?_⟩) fun _=>⟨?_⟩ | (refine gN ?_ ⟨?_⟩;rotate_left) | exact lW ⟨trivial,rfl⟩ | refine lW ⟨trivial,?_⟩ | fail))
 all_goals (clear hP;simp_all [mU])
theorem k66 (s:Int):Fn C 66 [.d (.int .i64 s)] [] (.d (.str (mU s))) []:=by
 refine eN hP c66 ⟨?_⟩
 (repeat' (first | refine gP (fun _=>⟨?_⟩) fun _=>⟨?_⟩ | (refine gN ?_ ⟨?_⟩;rotate_left) | exact lW ⟨trivial,rfl⟩ | refine lW ⟨trivial,?_⟩ | fail))
 all_goals (clear hP;simp_all [mU])
theorem k65 (S:lu C) (s:Int) (h1 : -1000<=s) (h2:s<=1000):Fn C 65 [.d (.int .i64 s)] [] (.d (.str ([72,84,84,80,47,49,46,49,32]++Lib.itoa s++[32]))) []:=by
 have c67:=S.itoa s (by omega) (by omega);have hi1:=Lib.itoa_length_le s (by omega) (by omega);refine eN hP c65 ⟨?_⟩
 (repeat' (first | refine gP (fun _=>⟨?_⟩) fun _=>⟨?_⟩ | (refine gN ?_ ⟨?_⟩;rotate_left) | refine gO c67 ⟨?_⟩ | exact lW ⟨trivial,rfl⟩ | refine lW ⟨trivial,?_⟩ | fail))
 all_goals first | (simp only [aH,aT,c6];omega) | (clear hP;simp_all [iq])
theorem k31 (s:Int) (h1 : -1000<=s) (h2:s<=1000) (b:List UInt8) (hb:b.length<=1073741824) (c:Bool):Fn C 31 [.d (.int .i64 s),.d (.str b),(bif c then .tt else .ff)] [] (.d (.str (iq s b c))) []:=by
 have c63:=k63 hP s (by omega) (by omega);have c63':=k63 hP b.length (by omega) (by omega);have c64:=k64 hP s;cases c
 ·have hi1:=Lib.itoa_length_le s (by omega) (by omega);have hi2:=Lib.itoa_length_le b.length (by omega) (by omega);have hw:=kQ s;refine eN hP c31 ⟨?_⟩
  (repeat' (first | refine gP (fun _=>⟨?_⟩) fun _=>⟨?_⟩ | (refine gN ?_ ⟨?_⟩;rotate_left) | refine gO c63 ⟨?_⟩ | refine gO c63' ⟨?_⟩ | refine gO c64 ⟨?_⟩ | exact lW ⟨trivial,rfl⟩ | refine lW ⟨trivial,?_⟩ | fail))
  all_goals first | (simp only [aH,aT,c6];omega) | (clear hP;simp_all [iq])
 ·have hi1:=Lib.itoa_length_le s (by omega) (by omega);have hi2:=Lib.itoa_length_le b.length (by omega) (by omega);have hw:=kQ s;refine eN hP c31 ⟨?_⟩
  (repeat' (first | refine gP (fun _=>⟨?_⟩) fun _=>⟨?_⟩ | (refine gN ?_ ⟨?_⟩;rotate_left) | refine gO c63 ⟨?_⟩ | refine gO c63' ⟨?_⟩ | refine gO c64 ⟨?_⟩ | exact lW ⟨trivial,rfl⟩ | refine lW ⟨trivial,?_⟩ | fail))
  all_goals first | (simp only [aH,aT,c6];omega) | (clear hP;simp_all [iq])
theorem k32 (S:lu C) (s:Int) (h1 : -1000<=s) (h2:s<=1000) (b:List UInt8) (hb:b.length<=1073741824) (c:Bool):Fn C 32 [.d (.int .i64 s),.d (.str b),(bif c then .tt else .ff)] [] (.d (.str (iq s b c))) []:=by
 have c65:=k65 hP S s h1 h2;have c67:=S.itoa b.length (by omega) (by omega);have c66:=k66 hP s;cases c
 ·have hi1:=Lib.itoa_length_le s (by omega) (by omega);have hi2:=Lib.itoa_length_le b.length (by omega) (by omega);have hw:=kQ s;refine eN hP c32 ⟨?_⟩
  (repeat' (first | refine gP (fun _=>⟨?_⟩) fun _=>⟨?_⟩ | (refine gN ?_ ⟨?_⟩;rotate_left) | refine gO c65 ⟨?_⟩ | refine gO c67 ⟨?_⟩ | refine gO c66 ⟨?_⟩ | exact lW ⟨trivial,rfl⟩ | refine lW ⟨trivial,?_⟩ | fail))
  all_goals first | (simp only [aH,aT,c6];omega) | (clear hP;simp_all [iq])
 ·have hi1:=Lib.itoa_length_le s (by omega) (by omega);have hi2:=Lib.itoa_length_le b.length (by omega) (by omega);have hw:=kQ s;refine eN hP c32 ⟨?_⟩
  (repeat' (first | refine gP (fun _=>⟨?_⟩) fun _=>⟨?_⟩ | (refine gN ?_ ⟨?_⟩;rotate_left) | refine gO c65 ⟨?_⟩ | refine gO c67 ⟨?_⟩ | refine gO c66 ⟨?_⟩ | exact lW ⟨trivial,rfl⟩ | refine lW ⟨trivial,?_⟩ | fail))
  all_goals first | (simp only [aH,aT,c6];omega) | (clear hP;simp_all [iq])
end
def fO (a b:Nat):Int:=if 65536 < a\/65536 < b then 2 else if 600 < a\/60 < b then 4 else 0
def Ans.w (a:Ans):V:= .agg [.d (.int .i64 a.st),.d (.str a.body),(bif a.late then .tt else .ff)]
section
variable {C:Ctx} (hP:C.P=Tryz.prog)
include hP
theorem k27 (t p:List UInt8):Fn C 27 [.d (.str t),.d (.str p)] [] (.d (.int .i64 (fO t.length p.length))) []:=by
 refine eN hP c27 ⟨?_⟩
 (repeat' (first | refine gP (fun _=>⟨?_⟩) fun _=>⟨?_⟩ | (refine gN ?_ ⟨?_⟩;rotate_left) | exact lW ⟨trivial,rfl⟩ | refine lW ⟨trivial,?_⟩ | fail))
 all_goals (clear hP;simp [fO] at *;try ((repeat' split)<;>omega))
theorem k29 (t p:List UInt8):Fn C 29 [.d (.str t),.d (.str p)] [] (.d (.int .i64 (fO t.length p.length))) []:=by
 refine eN hP c29 ⟨?_⟩
 (repeat' (first | refine gP (fun _=>⟨?_⟩) fun _=>⟨?_⟩ | (refine gN ?_ ⟨?_⟩;rotate_left) | exact lW ⟨trivial,rfl⟩ | refine lW ⟨trivial,?_⟩ | fail))
 all_goals (clear hP;simp [fO] at *;try ((repeat' split)<;>omega))
omit hP in
theorem vn {a b:Nat} (h:fO a b=0):a<=600/\b<=60:=by
 unfold fO at h;split at h
 ·omega
 ·split at h<;>omega
theorem Ee (t p:List UInt8) (hc:fO t.length p.length≠0):Fn C 8 [.d (.str t),.d (.str p)] [] (.tup [.d (.int .i64 0),.d (.int .i64 (fO t.length p.length))]) []:=by
 have c27:=k27 hP t p;have h2:65536 < t.length\/65536 < p.length->fO t.length p.length=2:=fun h=>aj h
 generalize fO t.length p.length=c at c27 hc h2 ⊢;refine eN hP c8 ⟨?_⟩
 (repeat' (first | refine gP (fun _=>⟨?_⟩) fun _=>⟨?_⟩ | (refine gN ?_ ⟨?_⟩;rotate_left) | refine gO c27 ⟨?_⟩ | exact lW ⟨trivial,rfl⟩ | refine lW ⟨trivial,?_⟩ | fail))
 all_goals (clear hP;simp at *;(try simp_all);(try (first | exact (h2 (by omega)).symm | exact h2 (by omega))))
theorem Ed (t p:List UInt8) (hc:fO t.length p.length≠0):Fn C 9 [.d (.str t),.d (.str p)] [] (.tup [.d (.int .i64 0),.d (.int .i64 (fO t.length p.length))]) []:=by
 have c29:=k29 hP t p;generalize fO t.length p.length=c at c29 hc ⊢;refine eN hP c9 ⟨?_⟩
 (repeat' (first | refine gP (fun _=>⟨?_⟩) fun _=>⟨?_⟩ | (refine gN ?_ ⟨?_⟩;rotate_left) | refine gO c29 ⟨?_⟩ | exact lW ⟨trivial,rfl⟩ | refine lW ⟨trivial,?_⟩ | fail))
 all_goals (clear hP;simp at *;try simp_all)
theorem FH (t p:List UInt8) (hc:fO t.length p.length=0) (h1:t.length<=65536) (h2:p.length<=65536) (a:Ans) (c28:Fn C 28 [.d (.str t),.d (.str p)] [] a.v []):Fn C 8 [.d (.str t),.d (.str p)] [] (.tup [.d (.int .i64 (if a.late=true then 0 else a.cost)),.d (.int .i64 (if a.late=true then 15 else 0))]) []:=by
 have c27:=k27 hP t p;rw [hc] at c27;obtain ⟨st,body,late,cost⟩:=a;refine eN hP c8 ⟨?_⟩;refine gX ⟨?_⟩ (by simp;omega);refine gX ⟨gO c27 ⟨gX ⟨?_⟩ (by simp)⟩⟩ (by simp;omega);cases late
 ·exact gO c28 ⟨lW ⟨trivial,rfl⟩⟩
 ·exact gO c28 ⟨lW ⟨trivial,rfl⟩⟩
theorem FF (t p:List UInt8) (hc:fO t.length p.length=0) (a:Ans) (c30:Fn C 30 [.d (.str t),.d (.str p)] [] a.v []):Fn C 9 [.d (.str t),.d (.str p)] [] (.tup [.d (.int .i64 (if a.late=true then 0 else a.cost)),.d (.int .i64 (if a.late=true then 15 else 0))]) []:=by
 have c29:=k29 hP t p;rw [hc] at c29;obtain ⟨st,body,late,cost⟩:=a;refine eN hP c9 ⟨gO c29 ⟨gX ⟨?_⟩ (by simp)⟩⟩;cases late
 ·exact gO c30 ⟨lW ⟨trivial,rfl⟩⟩
 ·exact gO c30 ⟨lW ⟨trivial,rfl⟩⟩
theorem De (t p:List UInt8) (hc:fO t.length p.length≠0):Fn C 10 [.d (.str t),.d (.str p)] [] (.tup [.agg [.d (.int .i64 0),.d (.str []),.ff],.d (.int .i64 (fO t.length p.length))]) []:=by
 have c27:=k27 hP t p;have h2:65536 < t.length\/65536 < p.length->fO t.length p.length=2:=fun h=>aj h
 generalize fO t.length p.length=c at c27 hc h2 ⊢;refine eN hP c10 ⟨?_⟩
 (repeat' (first | refine gP (fun _=>⟨?_⟩) fun _=>⟨?_⟩ | (refine gN ?_ ⟨?_⟩;rotate_left) | refine gO c27 ⟨?_⟩ | exact lW ⟨trivial,rfl⟩ | refine lW ⟨trivial,?_⟩ | fail))
 all_goals (clear hP;simp at *;(try simp_all);(try (first | exact (h2 (by omega)).symm | exact h2 (by omega))))
theorem Dd (t p:List UInt8) (hc:fO t.length p.length≠0):Fn C 11 [.d (.str t),.d (.str p)] [] (.tup [.agg [.d (.int .i64 0),.d (.str []),.ff],.d (.int .i64 (fO t.length p.length))]) []:=by
 have c29:=k29 hP t p;generalize fO t.length p.length=c at c29 hc ⊢;refine eN hP c11 ⟨?_⟩
 (repeat' (first | refine gP (fun _=>⟨?_⟩) fun _=>⟨?_⟩ | (refine gN ?_ ⟨?_⟩;rotate_left) | refine gO c29 ⟨?_⟩ | exact lW ⟨trivial,rfl⟩ | refine lW ⟨trivial,?_⟩ | fail))
 all_goals (clear hP;simp at *;try simp_all)
theorem EH (t p:List UInt8) (hc:fO t.length p.length=0) (h1:t.length<=65536) (h2:p.length<=65536) (a:Ans) (c28:Fn C 28 [.d (.str t),.d (.str p)] [] a.v []):Fn C 10 [.d (.str t),.d (.str p)] [] (.tup [a.w,.d (.int .i64 0)]) []:=by
 have c27:=k27 hP t p;rw [hc] at c27;refine eN hP c10 ⟨?_⟩;refine gX ⟨?_⟩ (by simp;omega);refine gX ⟨gO c27 ⟨gX ⟨?_⟩ (by simp)⟩⟩ (by simp;omega);obtain ⟨st,body,late,cost⟩:=a;cases late
 ·exact gO c28 ⟨lW ⟨trivial,rfl⟩⟩
 ·exact gO c28 ⟨lW ⟨trivial,rfl⟩⟩
theorem EF (t p:List UInt8) (hc:fO t.length p.length=0) (a:Ans) (c30:Fn C 30 [.d (.str t),.d (.str p)] [] a.v []):Fn C 11 [.d (.str t),.d (.str p)] [] (.tup [a.w,.d (.int .i64 0)]) []:=by
 have c29:=k29 hP t p;rw [hc] at c29;refine eN hP c11 ⟨gO c29 ⟨gX ⟨?_⟩ (by simp)⟩⟩;obtain ⟨st,body,late,cost⟩:=a;cases late
 ·exact gO c30 ⟨lW ⟨trivial,rfl⟩⟩
 ·exact gO c30 ⟨lW ⟨trivial,rfl⟩⟩
theorem k12 (a:Ans):Fn C 12 [a.w,a.w] [] (.d (.bool true)) []:=by
 obtain ⟨st,body,late,cost⟩:=a;cases late
 ·exact eN hP c12 ⟨gX ⟨gX ⟨gX ⟨lW ⟨trivial,rfl⟩⟩ (by rfl)⟩ (by simp)⟩ (by simp)⟩
 ·exact eN hP c12 ⟨gX ⟨gX ⟨gX ⟨lW ⟨trivial,rfl⟩⟩ (by rfl)⟩ (by simp)⟩ (by simp)⟩
theorem Db (t p r:List UInt8) (hr:r.length<=65536) (hc:fO t.length p.length≠0):Fn C 13 [.d (.str t),.d (.str p),.d (.str r)] [] (.tup [.d (.bool false),.d (.int .i64 (fO t.length p.length))]) []:=by
 have c27:=k27 hP t p;have h2:65536 < t.length\/65536 < p.length->fO t.length p.length=2:=fun h=>aj h
 generalize fO t.length p.length=c at c27 hc h2 ⊢;refine eN hP c13 ⟨?_⟩
 (repeat' (first | refine gP (fun _=>⟨?_⟩) fun _=>⟨?_⟩ | (refine gN ?_ ⟨?_⟩;rotate_left) | refine gO c27 ⟨?_⟩ | exact lW ⟨trivial,rfl⟩ | refine lW ⟨trivial,?_⟩ | fail))
 all_goals (clear hP;simp at *;(try simp_all);(try (first | exact (h2 (by omega)).symm | exact h2 (by omega) | omega)))
theorem Da (t p r:List UInt8) (hr:r.length<=65536) (hc:fO t.length p.length≠0):Fn C 14 [.d (.str t),.d (.str p),.d (.str r)] [] (.tup [.d (.bool false),.d (.int .i64 (fO t.length p.length))]) []:=by
 have c29:=k29 hP t p;generalize fO t.length p.length=c at c29 hc ⊢;refine eN hP c14 ⟨?_⟩
 (repeat' (first | refine gP (fun _=>⟨?_⟩) fun _=>⟨?_⟩ | (refine gN ?_ ⟨?_⟩;rotate_left) | refine gO c29 ⟨?_⟩ | exact lW ⟨trivial,rfl⟩ | refine lW ⟨trivial,?_⟩ | fail))
 all_goals (clear hP;simp at *;(try simp_all);(try omega))
theorem Bt (t p r:List UInt8) (hr:65536 < r.length):Fn C 13 [.d (.str t),.d (.str p),.d (.str r)] [] (.tup [.d (.bool false),.d (.int .i64 2)]) []:=by
 refine eN hP c13 ⟨?_⟩
 (repeat' (first | refine gP (fun _=>⟨?_⟩) fun _=>⟨?_⟩ | (refine gN ?_ ⟨?_⟩;rotate_left) | exact lW ⟨trivial,rfl⟩ | refine lW ⟨trivial,?_⟩ | fail))
 all_goals (clear hP;simp at *;(try simp_all);(try omega))
theorem Bp (t p r:List UInt8) (hr:65536 < r.length):Fn C 14 [.d (.str t),.d (.str p),.d (.str r)] [] (.tup [.d (.bool false),.d (.int .i64 2)]) []:=by
 refine eN hP c14 ⟨?_⟩
 (repeat' (first | refine gP (fun _=>⟨?_⟩) fun _=>⟨?_⟩ | (refine gN ?_ ⟨?_⟩;rotate_left) | exact lW ⟨trivial,rfl⟩ | refine lW ⟨trivial,?_⟩ | fail))
 all_goals (clear hP;simp at *;(try simp_all);(try omega))
theorem EC (t p r:List UInt8) (hr:r.length<=65536) (hc:fO t.length p.length=0) (h1:t.length<=65536) (h2:p.length<=65536) (a:Ans) (c28:Fn C 28 [.d (.str t),.d (.str p)] [] a.v []) (b1 : -1000<=a.st) (b2:a.st<=1000) (b3:a.body.length<=1073741824) :
  Fn C 13 [.d (.str t),.d (.str p),.d (.str r)] [] (.tup [.d (.bool (decide (r=iq a.st a.body false) || decide (r=iq a.st a.body true))),.d (.int .i64 0)]) []:=by
 have c27:=k27 hP t p;rw [hc] at c27;have e1:=k31 hP a.st b1 b2 a.body b3 false;have e2:=k31 hP a.st b1 b2 a.body b3 true;obtain ⟨st,body,late,cost⟩:=a;simp only at b1 b2 b3 e1 e2 ⊢;cases late
 ·generalize iq st body false=R1 at e1 ⊢;generalize iq st body true=R2 at e2 ⊢;refine eN hP c13 ⟨?_⟩;refine gX ⟨?_⟩ (by simp;omega);refine gX ⟨?_⟩ (by simp;omega);refine gX ⟨gO c27 ⟨gX ⟨gO c28 ⟨gO e1 ⟨?_⟩⟩⟩ (by simp)⟩⟩ (by simp;omega);by_cases r1:r=R1
  ·refine gY ⟨?_⟩ (by simpa using r1);refine ah.aD (os':=[]) [] trivial rfl rfl trivial ?_;(conv=>whnf);rw [aR r1,Bool.true_or];exact ⟨rfl,rfl⟩
  ·refine gX ⟨gO e2 ⟨?_⟩⟩ (by simpa using r1);refine ah.aD (os':=[]) [] trivial rfl rfl trivial ?_;(conv=>whnf);rw [aI r1,Bool.false_or];exact ⟨rfl,rfl⟩
 ·generalize iq st body false=R1 at e1 ⊢;generalize iq st body true=R2 at e2 ⊢;refine eN hP c13 ⟨?_⟩;refine gX ⟨?_⟩ (by simp;omega);refine gX ⟨?_⟩ (by simp;omega);refine gX ⟨gO c27 ⟨gX ⟨gO c28 ⟨gO e1 ⟨?_⟩⟩⟩ (by simp)⟩⟩ (by simp;omega);by_cases r1:r=R1
  ·refine gY ⟨?_⟩ (by simpa using r1);refine ah.aD (os':=[]) [] trivial rfl rfl trivial ?_;(conv=>whnf);rw [aR r1,Bool.true_or];exact ⟨rfl,rfl⟩
  ·refine gX ⟨gO e2 ⟨?_⟩⟩ (by simpa using r1);refine ah.aD (os':=[]) [] trivial rfl rfl trivial ?_;(conv=>whnf);rw [aI r1,Bool.false_or];exact ⟨rfl,rfl⟩
theorem EA (S:lu C) (t p r:List UInt8) (hr:r.length<=65536) (hc:fO t.length p.length=0) (a:Ans) (c30:Fn C 30 [.d (.str t),.d (.str p)] [] a.v []) (b1 : -1000<=a.st) (b2:a.st<=1000) (b3:a.body.length<=1073741824) :
  Fn C 14 [.d (.str t),.d (.str p),.d (.str r)] [] (.tup [.d (.bool (decide (r=iq a.st a.body false) || decide (r=iq a.st a.body true))),.d (.int .i64 0)]) []:=by
 have c29:=k29 hP t p;rw [hc] at c29;have e1:=k32 hP S a.st b1 b2 a.body b3 false;have e2:=k32 hP S a.st b1 b2 a.body b3 true;obtain ⟨st,body,late,cost⟩:=a;simp only at b1 b2 b3 e1 e2 ⊢;cases late
 ·generalize iq st body false=R1 at e1 ⊢;generalize iq st body true=R2 at e2 ⊢;refine eN hP c14 ⟨?_⟩;refine gX ⟨gO c29 ⟨gX ⟨gO c30 ⟨gO e1 ⟨?_⟩⟩⟩ (by simp)⟩⟩ (by simp;omega);by_cases r1:r=R1
  ·refine gY ⟨?_⟩ (by simpa using r1);refine ah.aD (os':=[]) [] trivial rfl rfl trivial ?_;(conv=>whnf);rw [aR r1,Bool.true_or];exact ⟨rfl,rfl⟩
  ·refine gX ⟨gO e2 ⟨?_⟩⟩ (by simpa using r1);refine ah.aD (os':=[]) [] trivial rfl rfl trivial ?_;(conv=>whnf);rw [aI r1,Bool.false_or];exact ⟨rfl,rfl⟩
 ·generalize iq st body false=R1 at e1 ⊢;generalize iq st body true=R2 at e2 ⊢;refine eN hP c14 ⟨?_⟩;refine gX ⟨gO c29 ⟨gX ⟨gO c30 ⟨gO e1 ⟨?_⟩⟩⟩ (by simp)⟩⟩ (by simp;omega);by_cases r1:r=R1
  ·refine gY ⟨?_⟩ (by simpa using r1);refine ah.aD (os':=[]) [] trivial rfl rfl trivial ?_;(conv=>whnf);rw [aR r1,Bool.true_or];exact ⟨rfl,rfl⟩
  ·refine gX ⟨gO e2 ⟨?_⟩⟩ (by simpa using r1);refine ah.aD (os':=[]) [] trivial rfl rfl trivial ?_;(conv=>whnf);rw [aI r1,Bool.false_or];exact ⟨rfl,rfl⟩
theorem z7 (S:jE C) (t p:List UInt8):∃ x y:Int,Fn C 8 [.d (.str t),.d (.str p)] [] (.tup [.d (.int .i64 x),.d (.int .i64 y)]) []/\Fn C 9 [.d (.str t),.d (.str p)] [] (.tup [.d (.int .i64 x),.d (.int .i64 y)]) []:=by
 by_cases hc:fO t.length p.length=0
 ·obtain ⟨ht,hp⟩:=vn hc;obtain ⟨a,h1,h2,_⟩:=both hP S t p (by omega) (by omega);exact ⟨_,_,FH hP t p hc (by omega) (by omega) a h2,FF hP t p hc a h1⟩
 ·exact ⟨_,_,Ee hP t p hc,Ed hP t p hc⟩
theorem B8 (S:jE C) (t p:List UInt8):∃ (a:Ans) (y:Int),Fn C 10 [.d (.str t),.d (.str p)] [] (.tup [a.w,.d (.int .i64 y)]) []/\Fn C 11 [.d (.str t),.d (.str p)] [] (.tup [a.w,.d (.int .i64 y)]) []:=by
 by_cases hc:fO t.length p.length=0
 ·obtain ⟨ht,hp⟩:=vn hc;obtain ⟨a,h1,h2,_⟩:=both hP S t p (by omega) (by omega);exact ⟨a,_,EH hP t p hc (by omega) (by omega) a h2,EF hP t p hc a h1⟩
 ·exact ⟨⟨0,[],false,0⟩,_,De hP t p hc,Dd hP t p hc⟩
theorem xH (S:jE C) (t p r:List UInt8):∃ (b:Bool) (y:Int),Fn C 13 [.d (.str t),.d (.str p),.d (.str r)] [] (.tup [.d (.bool b),.d (.int .i64 y)]) []/\Fn C 14 [.d (.str t),.d (.str p),.d (.str r)] [] (.tup [.d (.bool b),.d (.int .i64 y)]) []:=by
 by_cases hr:65536 < r.length
 ·exact ⟨_,_,Bt hP t p r hr,Bp hP t p r hr⟩
 ·by_cases hc:fO t.length p.length=0
  ·obtain ⟨ht,hp⟩:=vn hc;obtain ⟨a,h1,h2,b1,b2,b3⟩:=both hP S t p (by omega) (by omega);exact ⟨_,_,EC hP t p r (by omega) hc (by omega) (by omega) a h2 b1 b2 b3,EA hP S.s2 t p r (by omega) hc a h1 b1 b2 b3⟩
  ·exact ⟨_,_,Db hP t p r (by omega) hc,Da hP t p r (by omega) hc⟩
theorem Hf (S:jE C) (t p:List UInt8):Fn C 3 [.d (.str t),.d (.str p)] [] (.d (.bool true)) []:=by
 obtain ⟨x,y,c8,c9⟩:=z7 hP S t p;refine eN hP c3 ⟨?_⟩
 (repeat' (first | refine gP (fun _=>⟨?_⟩) fun _=>⟨?_⟩ | (refine gN ?_ ⟨?_⟩;rotate_left) | refine gO c8 ⟨?_⟩ | refine gO c9 ⟨?_⟩ | exact lW ⟨trivial,rfl⟩ | refine lW ⟨trivial,?_⟩ | fail))
 all_goals (clear hP;simp at *;try simp_all)
theorem He (S:jE C) (t p:List UInt8):Fn C 4 [.d (.str t),.d (.str p)] [] (.d (.bool true)) []:=by
 obtain ⟨a,y,c10,c11⟩:=B8 hP S t p;have c12:=k12 hP a;obtain ⟨st,body,late,cost⟩:=a;cases late
 ·refine eN hP c4 ⟨?_⟩
  (repeat' (first | refine gP (fun _=>⟨?_⟩) fun _=>⟨?_⟩ | (refine gN ?_ ⟨?_⟩;rotate_left) | refine gO c10 ⟨?_⟩ | refine gO c11 ⟨?_⟩ | refine gO c12 ⟨?_⟩ | exact lW ⟨trivial,rfl⟩ | refine lW ⟨trivial,?_⟩ | fail))
  all_goals (clear hP;simp at *;try simp_all)
 ·refine eN hP c4 ⟨?_⟩
  (repeat' (first | refine gP (fun _=>⟨?_⟩) fun _=>⟨?_⟩ | (refine gN ?_ ⟨?_⟩;rotate_left) | refine gO c10 ⟨?_⟩ | refine gO c11 ⟨?_⟩ | refine gO c12 ⟨?_⟩ | exact lW ⟨trivial,rfl⟩ | refine lW ⟨trivial,?_⟩ | fail))
  all_goals (clear hP;simp at *;try simp_all)
theorem Hd (S:jE C) (t p r:List UInt8):Fn C 5 [.d (.str t),.d (.str p),.d (.str r)] [] (.d (.bool true)) []:=by
 obtain ⟨b,y,c13,c14⟩:=xH hP S t p r;refine eN hP c5 ⟨?_⟩
 (repeat' (first | refine gP (fun _=>⟨?_⟩) fun _=>⟨?_⟩ | (refine gN ?_ ⟨?_⟩;rotate_left) | refine gO c13 ⟨?_⟩ | refine gO c14 ⟨?_⟩ | exact lW ⟨trivial,rfl⟩ | refine lW ⟨trivial,?_⟩ | fail))
 all_goals (clear hP;simp at *;try simp_all)
end
end Go.Proofs.YtggoiofammbchaaGreatDoor.Loc
