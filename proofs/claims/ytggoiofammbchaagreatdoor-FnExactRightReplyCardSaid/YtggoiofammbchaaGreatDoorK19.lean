/- Part 19 of a chain that ends in the statement named in GOCLAIM.json; no condition. -/
import Derived.Test.YtggoiofammbchaaGreatDoorK18
set_option maxRecDepth 100000
set_option maxHeartbeats 2000000
set_option linter.all false
namespace Go.Proofs.YtggoiofammbchaaGreatDoor.Loc
open Go
variable {b d e h hi lo m nk p q:Nat} {g g1:Gs} {i:Ins} {k kind n:Int} {kids:List Int} {l la lb lc:List Ins} {ns:List Nd} {r:Tr} {s s':Sc} {t:List UInt8} {ts:List Tr}
def xl (us:List Tr) (f:List Int) (root ix:Int) (names:List (List UInt8)) (kids:List Tr):List Ins :=
 (((cX au (clS us f) kids ⟨bP (decide (ix=root)) names,[]⟩).put (fN bO)).put (iOp 12 0 0 [])).code
def fcS (us:List Tr) (f:List Int) (root ix:Int) (text:List UInt8) (names:List (List UInt8)) (kids:List Tr):Fc :=
 ⟨text,(bP (decide (ix=root)) names).length,(c7 (aA us) (decide (ix=root)) ix names kids Sc.zero).di,xl us f root ix names kids⟩
section
variable {C:Ctx} (hP:C.P=Tryz.prog)
include hP
theorem k89 (f:List Int) (hfl:f.length<=1073741000) (hnd:f.Nodup) (ns:List Nd) (root:Int) (rd:Nd) (h0r:0<=root) (hrd:ns[root.toNat]?=some rd) (us:List Tr) (hus:dx ns us rd.kids) (hul:us.length<=1073741824) (hf:∀ t,0<=iA us t->iA us t∈f)
  (ix kind n:Int) (text:List UInt8) (names:List (List UInt8)) (ts:List Tr) (kids:List Int) (h0:0<=ix) (hnk:ns[ix.toNat]?=some ⟨kind,n,text,names,kids⟩) (hsubs:dx ns ts kids) (hw:wfs ts) (hb:szs ts<=200) (hnm:names.length<=300) (hk:ix≠root->∃ b,ts=[b]) :
  Fn C 89 [lz ns root,.d (.int .i64 ix),.d (bJ f)] [] (.agg ((fcS us f root ix text names ts).enc.map .d)) []:=by
 have hall:=oT hP f hfl hnd ns root rd h0r hrd us hus hul hf ts;have c124:=Gb hP ns root ix _ h0 hnk hnm;have htl:=eP hsubs;have hlz:=fC ts;unfold fcS xl c7;rw [show Sc.zero.kn=Sc.zero from rfl];simp only at c124;have hkb:=jC ix [] (bP (decide (ix=root)) names) Sc.zero;have hbl:(bP (decide (ix=root)) names).length<=300:=by
  unfold bP;split
  ·simp
  ·exact hnm
 have hkl:=hkb.len;have ho1:(Sc.dj ix [] (bP (decide (ix=root)) names) Sc.zero).own=0:=hkb.1;have hbn:∀ (l pre:List (List UInt8)) (s:Sc),(Sc.dj ix pre l s).names=s.names++l:=by
  intro l;induction l with
  | nil=>intro pre s;simp [Sc.dj]
  | cons w l ihl =>
   intro pre s;rw [Sc.dj,ihl,bZ];split<;>simp [eR]
 have hN:(Sc.dj ix [] (bP (decide (ix=root)) names) Sc.zero).names=bP (decide (ix=root)) names:=by rw [hbn];simp [Sc.zero]
 generalize Sc.dj ix [] (bP (decide (ix=root)) names) Sc.zero=S1 at c124 hkb hkl ho1 hN ⊢;generalize bP (decide (ix=root)) names=B at *;subst hN;have hB1:S1.names.length<=300:=hbl;have gg:=eu au (clS us f) ts ⟨S1.names,[]⟩;have tail:∀ (s1:Sc) (g1:Gs),g1.code.length<=1000->b4 C 0 [(6,some (some 4))] (fun v os'=>v= .agg ((Fc.enc ⟨text,S1.names.length,s1.di,((g1.put (fN bO)).put (iOp 12 0 0 [])).code⟩).map .d)/\os'=[])
   (Cfg.dy c89.l 0 [(6,.ptr 0 0 0),(7,.ptr 1 0 0),(8,.ptr 2 0 0)] [(0,.st [.d (.str []),.d (.int .i64 0),.d (.int .i64 0),.d .nil]),(1,.st [.ptr 3 0 0,.d (bJ f),.own false 7 (g1.code.map Ins.enc)]),(2,.st [.d (.str text),.d (.int .i64 (S1.names.length:Nat)),.d (.int .i64 0),.d .nil]),(3,s1.aY ns root)] 4):=by
  intro s1 g1 hg1;have c1:=Bu hP f g1.code s1 ns root bO (by omega);have c2:=jP hP f (g1.code++[fN bO]) s1 ns root (iOp 12 0 0 []) (by simp;omega);rw [show ((g1.put (fN bO)).put (iOp 12 0 0 [])).code=g1.code++[fN bO]++[iOp 12 0 0 []] from rfl];generalize g1.code++[fN bO]++[iOp 12 0 0 []]=cc at c2 ⊢;refine gT ⟨gC [1,3] c1 ⟨gC [1,3] c2 ⟨?_⟩⟩⟩;refine ah.aD (os':=[]) [0] trivial rfl rfl trivial ?_;(conv=>whnf);rw [kO];exact ⟨rfl,rfl⟩
 refine eN hP c89 ⟨gO c124 ⟨gD (bM hnk) ⟨?_⟩ h0⟩⟩;repeat' (refine ah.dR ?_ ?_;first | exact trivial | exact And.intro rfl trivial | exact And.intro rfl (And.intro rfl trivial) | exact And.intro rfl (And.intro rfl (And.intro rfl trivial)))
 try refine gG ⟨?_⟩
 rw [show (List.map (fun w=>[D.str w]) S1.names).length=S1.names.length by simp];by_cases hr:ix=root
 ·refine gY ⟨gD (bM hnk) ⟨?_⟩ h0⟩ (by simpa using hr);refine ah.loop (fun x:Nat×Sc=>ts.length - x.1) (fun x=>x.1<=ts.length/\dh x.2 (walks (aA us) (ts.take x.1) S1)) (fun x=>[(3,.ptr 0 0 0),(6,.ptr 1 0 0),(7,.ptr 2 0 0),(8,.ptr 3 0 0),(9,.d (bJ kids)),(10,.d (.int .i64 (x.1:Nat)))])
   (fun x=>[(0,.st [.d (.imm 5 (ns.map Nd.enc)),.d (.int .i64 root)]),(1,.st [.d (.str []),.d (.int .i64 0),.d (.int .i64 0),.d .nil]),(2,.st [.ptr 4 0 0,.d (bJ f),.own false 7 ((cX au (clS us f) (ts.take x.1) ⟨S1.names,[]⟩).code.map Ins.enc)]),(3,.st [.d (.str text),.d (.int .i64 (S1.names.length:Nat)),.d (.int .i64 0),.d .nil]),(4,x.2.aY ns root)]) 5 ?_ (0,S1) ⟨by simp,.refl _⟩
  intro ⟨j,s'⟩ ⟨hj,hs'⟩ ih;simp only at hj hs' ih ⊢;have hwt:wfs (ts.take j):=oz fun t ht=>ep hw t (cw ht)
  have gn:=dv (aA us) au (clS us f) (ts.take j) ⟨S1.names,[]⟩ S1 hwt rfl;have gg':=eu au (clS us f) (ts.take j) ⟨S1.names,[]⟩;have hkp:=b5 (aA us) (ts.take j) S1;generalize hg':cX au (clS us f) (ts.take j) ⟨S1.names,[]⟩=g' at gn gg' ⊢;have hge':g'=⟨s'.names,g'.code⟩:=by rw [hs'.1,<- gn]
  refine gG ⟨?_⟩;rw [show (List.map (fun k=>[D.int IntKind.i64 k]) kids).length=kids.length by simp];refine gP (fun h=>⟨?_⟩) fun h=>⟨?_⟩
  ·have hlt:j < ts.length:=by rw [htl];simpa using h
   obtain ⟨kk,hk1,hk2⟩:=eX hsubs (aa hlt);have hkr:(List.map (fun k=>[D.int IntKind.i64 k]) kids)[((j:Nat):Int).toNat]?=some [.int .i64 kk]:=by simp [hk1]
   refine gD hkr ⟨?_⟩;have hsz:szs (ts.take j)+ts[j].sz<=szs ts:=by
    have:=congrArg szs (List.take_append_drop j ts);rw [av hlt,gB] at this;simp only [szs] at this;omega
   have hlen:=hkp.len;have hs1:=congrArg List.length hs'.1;have hs2:=hs'.2.1;have hk0:=hkp.1;have hc2:=gg'.2.2;simp at hc2;have htake:ts.take (j+1)=ts.take j++[ts[j]]:=aG hlt;have hal:=(hall ts[j] (aZ hlt)).1;have hwj:=ep hw ts[j] (aZ hlt);generalize ts[j]=u at hk2 hsz htake hal hwj
   match u,hk2,hsz,htake,hal,hwj with
   | .mk ui ukind un utext unames uts,hk2,hsz,htake,hal,hwj =>
   obtain ⟨hki,ukids,k0,hnu,hsu⟩:=id hk2;refine gD (bM hnu) ⟨?_⟩ k0;by_cases h20:ukind=20
   ·refine gX ⟨?_⟩ (by simp [h20]);rw [aC (by omega)];have e1:walks (aA us) (ts.take (j+1)) S1=walks (aA us) (ts.take j) S1:=by
     rw [htake,gS];simp only [walks];rw [Tr.walk,aj h20]
    have e2:cX au (clS us f) (ts.take (j+1)) ⟨S1.names,[]⟩=g':=by
     rw [htake,kC,hg'];simp only [cX];rw [Tr.gen,aj h20]
    refine (ih (j+1,s') ⟨hlt,by rw [e1];exact hs'⟩ (by simp only;omega)).to rfl ?_;rw [e2];rfl
   ·refine gY ⟨gD hkr ⟨?_⟩⟩ (by simpa using h20);obtain ⟨s2,hf2,hsame⟩:=hal s' g'.code kk hk2 hwj (by omega) (by omega) (by omega);refine gC [2,4] hf2 ⟨?_⟩;rw [aC (by omega)];refine (ih (j+1,s2) ⟨hlt,?_⟩ (by simp only;omega)).to rfl ?_
    ·simp only;rw [htake,gS];exact hsame.trans (eJ (aA us) _ _ _ hs')
    ·rw [htake,kC,hg'];simp only [cX];rw [<- hge'];rfl
  ·have hge:ts.length<=j:=by
    have:¬ (j < kids.length):=by simpa using h
    omega
   rw [ae hge] at hg' hs';have hcl:=gg.2.2;rw [hg'] at hcl;have tl:=tail s' g' (bG hcl (by simp;omega));rw [hs'.2.2] at tl;rw [hg'];exact tl.toC rfl rfl
 ·obtain ⟨b,rfl⟩:=hk hr
  match kids,hsubs with
  | [kb],hsubs =>
  refine gX ⟨gD (bM hnk) ⟨?_⟩ h0⟩ (by simpa using hr);refine ah.exD (row:=[.int .i64 kb]) rfl (by omega) rfl ?_;refine gG ⟨?_⟩;simp only [szs] at hb;obtain ⟨s1,c1,c2⟩:=(hall b (by simp)).1 S1 [] kb hsubs.1 hw.1 (by omega) (by simp;omega) (by omega);refine gC [3,2] c1 ⟨?_⟩;have gb:=(dP au (clS us f) b ⟨S1.names,[]⟩).2.2;have tl:=tail s1 (b.gen au (clS us f) ⟨S1.names,[]⟩) (bG gb (by simp;omega));rw [c2.2.2] at tl;exact tl.toC rfl rfl
end
def po (root:Int) (r:Tr):List Fc:=((r::aX r.kids).map fun t=>fcS r.kids ((aX r.kids).map Tr.ix) root t.ix t.text t.names t.kids)
def vM (root:Int) (r:Tr):V :=
 if (gM root r).1≠0 then .tup [.agg [.d .nil],.d (.int .i64 (gM root r).1)]
 else pE (if (po root r).any fun x=>decide (400 < x.code.length) then none else some (po root r))
section
variable {C:Ctx} (hP:C.P=Tryz.prog)
include hP
theorem k53 (ns:List Nd) (root:Int) (n:Int) (ts:List Tr) (kids:List Int) (h0:0<=root) (hnd:ns[root.toNat]?=some ⟨18,n,[],[],kids⟩) (hs:dx ns ts kids) (hw:wfs ts) (hb:szs ts<=200) (hdist:((aX ts).map Tr.ix).Nodup) :
  Fn C 53 [lz ns root] [] (vM root (.mk root 18 n [] [] ts)) []:=by
 have c52:=k52 hP ns root [] [] n ts kids h0 hnd hs hw (by omega) rfl;unfold vM;generalize gM root (.mk root 18 n [] [] ts)=Ck at c52 ⊢;have htl:=eP hs;have hlz:=fC ts;refine eN hP c53 ⟨gO c52 ⟨gP (fun h=>⟨?_⟩) fun h=>⟨?_⟩⟩⟩
 ·rw [aj (by simpa using h)];exact lW ⟨trivial,rfl⟩
 rw [ab (by simpa using h)];refine gD (bM hnd) ⟨gW (fun j:Nat=>ts.length - j) (fun j=>j<=ts.length) (fun j=>[(1,.ptr 0 0 0),(2,.ptr 1 0 0),(5,.arr 2 0 (aX (ts.take j)).length),(6,.d (bJ kids)),(7,.d (.int .i64 (j:Nat)))]) (fun j=>[(0,.st [.d (.imm 5 (ns.map Nd.enc)),.d (.int .i64 root)]),(1,.st [.d .nil]),(2,.da 1 (de (aX (ts.take j))))]) 3 ?_ 0 (by omega)⟩ h0;refine fun j hj ih=>⟨?_⟩
 rw [show (List.map (fun k=>[D.int IntKind.i64 k]) kids).length=kids.length by simp];refine gP (fun h=>⟨?_⟩) fun h=>⟨?_⟩
 ·have hlt:j < ts.length:=by rw [htl];simpa using h
  obtain ⟨k,hk1,hk2⟩:=eX hs (aa hlt);have hkr:(List.map (fun k=>[D.int IntKind.i64 k]) kids)[((j:Nat):Int).toNat]?=some [.int .i64 k]:=by simp [hk1]
  refine gD hkr ⟨?_⟩;generalize ht:ts[j]=t at hk2;have htk:ts.take (j+1)=ts.take j++[t]:=by rw [aG hlt,ht]
  match t,hk2 with
  | .mk ix kind m text names ks,hk2 =>
  obtain ⟨hki,kids',k0,hnk,_⟩:=hk2;refine gD (bM hnk) ⟨?_⟩ k0;have e1:aX (ts.take (j+1))=if kind=20 then aX (ts.take j)++[.mk ix kind m text names ks] else aX (ts.take j):=by
   rw [htk,aX,aX,List.filter_append];by_cases h:kind=20<;>simp [h,Tr.kind]
  refine gP (fun h=>⟨?_⟩) fun h=>⟨?_⟩
  ·rw [aj (ai h)] at e1;refine gD hkr ⟨?_⟩;have e2:(aX (ts.take j)).length<=j:=bG (List.length_filter_le _ _) (by simp;omega);have e3:(aX (ts.take j)).length+(Sh.ds [[D.int IntKind.i64 k]] [[D.int IntKind.i64 k]].length).len=(aX (ts.take (j+1))).length:=by
    rw [e1,aH];rfl
   refine gN ?_ ⟨?_⟩
   ·rw [e3,e1];simp;omega
   rw [aC (by omega),e3];refine (ih (j+1) hlt (by omega)).to rfl ?_;rw [e1,hki,aq,ae (by simp [de])];simp only [de,fa];rfl
  ·rw [aC (by omega)];rw [ab (ao h)] at e1;have:=(ih (j+1) hlt (by omega))
   rw [e1] at this;exact this.to rfl rfl
 have hge:ts.length<=j:=by
  have:¬ (j < kids.length):=by simpa using h
  omega
 rw [ae hge];have hfl:(aX ts).length<=ts.length:=List.length_filter_le _ _;have hfs:=jw hs;have hfw:∀ t∈aX ts,t.wf/\t.kind=20:=fun t ht=>⟨ep hw t (List.mem_filter.1 ht).1,by simpa using (List.mem_filter.1 ht).2⟩
 have hfz:∀ t∈aX ts,t.sz<=szs ts:=fun t ht=>mo (List.mem_filter.1 ht).1
 have hfin:∀ t,0<=iA ts t->iA ts t∈(aX ts).map Tr.ix:=by
  intro t ht;unfold iA at ht ⊢;cases hq:(aX ts).find? (fun f=>decide (f.text=t)) with
  | none=>rw [hq] at ht;simp at ht
  | some f=>exact List.mem_map.2 ⟨f,List.mem_of_find?_eq_some hq,rfl⟩
 rw [show List.take (aX ts).length (List.drop 0 (de (aX ts)))=((aX ts).map Tr.ix).map (fun k=>[D.int .i64 k]) by rw [aq,ae (by simp [de])];simp [de]];have c89:∀ t∈Tr.mk root 18 n [] [] ts::aX ts,Fn C 89 [lz ns root,.d (.int .i64 t.ix),.d (bJ ((aX ts).map Tr.ix))] [] (.agg ((fcS ts ((aX ts).map Tr.ix) root t.ix t.text t.names t.kids).enc.map .d)) []:=by
  intro t ht;rcases aQ.1 ht with rfl | ht
  ·exact k89 hP _ (by simp;omega) hdist ns root _ h0 hnd ts hs (by omega) hfin root 18 n [] [] ts kids h0 hnd hs hw hb (by simp) (fun h=>absurd rfl h)
  ·have a1:=hfs t ht;have a2:=hfw t ht;have a3:=hfz t ht
   match t,a1,a2,a3 with
   | .mk ix kind m txt nms ks,a1,a2,a3 =>
   obtain ⟨_,kids',k0,k1,k2⟩:=a1;have hk:kind=20:=a2.2;have hsh:=a2.1.1.2.2;subst hk;simp at hsh;obtain ⟨hsh1,b,hb1,_⟩:=hsh;exact k89 hP _ (by simp;omega) hdist ns root _ h0 hnd ts hs (by omega) hfin ix 20 m txt nms ks kids' k0 k1 k2 a2.1.2 (by simp only [Tr.sz] at a3;omega) hsh1 (fun _=>⟨b,hb1⟩)
 refine gO (c89 (Tr.mk root 18 n [] [] ts) (by simp)) ⟨?_⟩;have hall:po root (.mk root 18 n [] [] ts)=fcS ts ((aX ts).map Tr.ix) root root [] [] ts::(aX ts).map fun t=>fcS ts ((aX ts).map Tr.ix) root t.ix t.text t.names t.kids:=rfl
 generalize hLe:po root (.mk root 18 n [] [] ts)=LL at hall ⊢;clear ih hLe;have hfl2:(aX ts).length<=200:=by omega
 generalize aX ts=fs at *;have tail:b4 C 0 [(2,some (some 1)),(3,none)] (fun v1 os1=>v1=pE (if (LL.any fun x=>decide (400 < x.code.length))=true then none else some LL)/\os1=[])
   (Cfg.eF c53.l 1 [(1,.ptr 0 0 0),(2,.ptr 1 0 0),(5,.d (bJ (fs.map Tr.ix))),(8,.ptr 2 0 0),(9,.d (.int .i64 0))] [(0,.st [.d (.imm 5 (ns.map Nd.enc)),.d (.int .i64 root)]),(1,.st [.d .nil]),(2,.st [.arr 3 0 1]),(3,.da 4 [(fcS ts (fs.map Tr.ix) root root [] [] ts).enc])] 4):=by
  refine ah.loop (fun j:Nat=>fs.length - j) (fun j=>j<=fs.length) (fun j=>[(1,.ptr 0 0 0),(2,.ptr 1 0 0),(5,.d (bJ (fs.map Tr.ix))),(8,.ptr 2 0 0),(9,.d (.int .i64 (j:Nat)))])
   (fun j=>[(0,.st [.d (.imm 5 (ns.map Nd.enc)),.d (.int .i64 root)]),(1,.st [.d .nil]),(2,.st [.arr 3 0 (j+1)]),(3,.da 4 ((fcS ts (fs.map Tr.ix) root root [] [] ts::(fs.take j).map fun t=>fcS ts (fs.map Tr.ix) root t.ix t.text t.names t.kids).map Fc.enc))]) 4 ?_ 0 (by omega)
  intro j hj ih;refine gG ⟨?_⟩;rw [show (List.map (fun k=>[D.int IntKind.i64 k]) (fs.map Tr.ix)).length=fs.length by simp];refine gP (fun h=>⟨?_⟩) fun h=>⟨?_⟩
  ·have hlt:j < fs.length:=by simpa using h
   refine ah.exD (row:=[.int .i64 fs[j].ix]) (by simp [aa hlt]) (by omega) rfl ?_;refine gG ⟨?_⟩;have c:=c89 fs[j] (aM _ (aZ hlt));have htk:fs.take (j+1)=fs.take j++[fs[j]]:=aG hlt;generalize fs[j]=t at c htk ⊢;refine gO c ⟨gN ?_ ⟨?_⟩⟩
   ·show j+1+1<=_;omega
   rw [aC (by omega)];refine (ih (j+1) hlt (by omega)).to rfl ?_;rw [htk,aq,ae (by simp;omega)];simp only [fa,cT,List.map_nil,<- cN];rfl
  ·have hge:fs.length<=j:=by simpa using h
   rw [ae hge,<- hall];have hj1:j+1=LL.length:=by rw [hall];simp;omega
   have hLl:LL.length<=201:=by omega
   rw [hj1];clear ih hall c89;refine gW (fun i:Nat=>LL.length - i) (fun i=>i<=LL.length/\((LL.take i).any fun x=>decide (400 < x.code.length))=false) (fun i=>[(2,.ptr 0 0 0),(8,.ptr 1 0 0),(10,.d (.int .i64 (i:Nat)))]) (fun i=>[(0,.st [.d .nil]),(1,.st [.arr 2 0 LL.length]),(2,.da 4 (LL.map Fc.enc))]) 3 ?_ 0 ⟨by omega,by simp⟩;refine fun i ⟨hi,hni⟩ ih=>⟨?_⟩
   refine gP (fun h=>⟨?_⟩) fun h=>⟨?_⟩
   ·have hilt:i < LL.length:=by simpa using h
    refine gN ?_ ⟨?_⟩
    ·omega
    refine ah.exD (row:=LL[i].enc) (by simp [aa hilt]) trivial rfl ?_;refine gG ⟨?_⟩;have htk:LL.take (i+1)=LL.take i++[LL[i]]:=aG hilt;have hmem:LL[i]∈LL:=aZ hilt;generalize LL[i]=x at htk hmem ⊢;rw [show (List.map Ins.enc x.code).length=x.code.length by simp];refine gP (fun h4=>⟨?_⟩) fun h4=>⟨?_⟩
    ·rw [aj (List.any_eq_true.2 ⟨x,hmem,by simp at h4;simp;omega⟩)];exact lW ⟨trivial,rfl⟩
    ·rw [aC (by omega)];refine (ih (i+1) ⟨hilt,?_⟩ (by omega)).to rfl rfl;rw [htk,List.any_append,hni];simp at h4;simp;omega
   ·have hge:LL.length<=i:=by simpa using h
    rw [ae hge] at hni;rw [hni];refine ah.aD (os':=[]) [0] trivial rfl rfl trivial ?_;(conv=>whnf);rw [aq,ae (by simp)];exact ⟨rfl,rfl⟩
 exact tail.to rfl rfl
def ze (ns:List Nd) (root:Int) (r:Tr):Prop:=∃ n ts kids,r= .mk root 18 n [] [] ts/\0<=root/\ns[root.toNat]?=some ⟨18,n,[],[],kids⟩/\dx ns ts kids/\wfs ts/\szs ts<=200/\((aX ts).map Tr.ix).Nodup
end
theorem qc (l:List (List UInt8)) (t:List UInt8):0<=au l t↔t∈l:=by
 unfold au;cases h:l.reverse.findIdx? (fun x=>decide (x=t)) with
 | none =>
  rw [List.findIdx?_eq_none_iff] at h;simp at h;constructor
  ·intro h2;simp at h2
  ·intro h2;exact absurd rfl (h t h2)
 | some i =>
  obtain ⟨h1,h2,_⟩:=List.findIdx?_eq_some_iff_getElem.1 h;simp at h1;have h2:l.reverse[i]=t:=by simpa using h2
  constructor
  ·intro _;rw [<- h2];exact List.mem_reverse.1 (aZ _)
  ·intro _;simp only;omega
theorem AD {l:List (List UInt8)} (h:0<=au l t):slI l t=au l t:=by
 unfold slI;rw [ab (by omega)]
theorem back (h:ie s s') (h0:s'.code=0):s.code=0:=by
 by_cases hs:s.code=0
 ·exact hs
 ·rw [(h.1 hs).1] at h0;exact absurd h0 hs
theorem oR {ar:List UInt8->Option Int} {n:Nat} (hk:kind=5\/kind=12) (h:(s.meet ar kind t n k).code=0):0<=au s.names t:=by
 unfold Sc.meet at h;rw [aj hk] at h;split at h
 ·unfold Sc.fail at h;split at h
  ·simp at h
  ·rename_i h1 h2;exact absurd h h2
 ·omega
theorem Dt {cl:List UInt8->Int} {text:List UInt8} (h:kind=5\/kind=12->0<=au g.names text):g.emit slI cl kind n text nk=g.emit au cl kind n text nk:=by
 unfold Gs.emit;by_cases h5:kind=5
 ·rw [AD (h (.inl h5))]
 ·by_cases h12:kind=12
  ·rw [AD (h (.inr h12))]
  ·simp only [ab h5,ab h12]
section
variable (ar:List UInt8->Option Int) (cl:List UInt8->Int)
mutual
theorem ki:∀ (t:Tr) (g:Gs) (s:Sc),t.wf->g.names=s.names->(t.walk ar s).code=0->t.gen slI cl g=t.gen au cl g
 | .mk ix kind n text names kids,g,s,hwf,h,hc=>by
  obtain ⟨hsh,hws⟩:=hwf;have hsh:=hsh.2.2;have hmt:g.names=(s.meet ar kind text kids.length ix).names:=by rw [iN,h]
  unfold Tr.walk at hc;unfold Tr.gen;by_cases h20:kind=20
  ·rw [aj h20,aj h20]
  rw [ab h20] at hc ⊢;rw [ab h20];by_cases h17:kind=17
  ·rw [aj h17] at hc;have h89:¬ (kind=8\/kind=9):=by omega
   have h13:¬ kind=13:=by omega
   have h14:¬ kind=14:=by omega
   simp only [ab h89,ab h13,ab h14,aj h17];exact zR text ix kids g s hws h hc
  rw [ab h17] at hc;by_cases h18:kind=18
  ·rw [aj h18] at hc;have h89:¬ (kind=8\/kind=9):=by omega
   have h13:¬ kind=13:=by omega
   have h14:¬ kind=14:=by omega
   simp only [ab h89,ab h13,ab h14,ab h17,aj h18];rw [qm kids g {s with own:=s.names.length} hws h hc]
  rw [ab h18] at hc;simp only at hc;have hk:(walks ar kids (s.meet ar kind text kids.length ix)).code=0:=by
   split at hc
   ·exact back (od _ _ _) hc
   ·exact hc
  have hm:=back (dX ar kids _) hk;have ge:=qm kids g _ hws hmt hk;by_cases h89:kind=8\/kind=9
  ·simp only [aj h89];exact xY kind kids g _ hws hmt hk
  by_cases h13:kind=13
  ·simp only [ab h89,aj h13];exact BJ kids g _ hws hmt hk
  by_cases h14:kind=14
  ·simp only [ab h89,ab h13,aj h14];exact xW g.code.length kids g _ hws hmt hk
  simp only [ab h89,ab h13,ab h14,ab h17,ab h18];rw [ge];refine Dt fun h512=>?_
  have h1:=oR h512 hm;rw [qc] at h1 ⊢;rw [dv ar au cl kids g _ hws hmt];obtain ⟨_,l,h2,_⟩:=b5 ar kids (s.meet ar kind text kids.length ix);rw [h2,iN];exact bW _ h1
theorem qm:∀ (l:List Tr) (g:Gs) (s:Sc),wfs l->g.names=s.names->(walks ar l s).code=0->cX slI cl l g=cX au cl l g
 | [],g,s,_,h,_=>rfl
 | t::l,g,s,hw,h,hc=>by
  unfold walks at hc;unfold cX;rw [ki t g s hw.1 h (back (dX ar l _) hc)];exact qm l _ _ hw.2 (cE ar au cl t g s hw.1 h) hc
theorem xY (kind:Int):∀ (l:List Tr) (g:Gs) (s:Sc),wfs l->g.names=s.names->(walks ar l s).code=0->fE slI cl kind l g=fE au cl kind l g
 | [],g,s,_,h,_=>rfl
 | t::l,g,s,hw,h,hc=>by
  unfold walks at hc;unfold fE;rw [ki t g s hw.1 h (back (dX ar l _) hc)];exact wO _ l _ _ hw.2 (cE ar au cl t g s hw.1 h) hc
theorem wO (p:Nat):∀ (l:List Tr) (g:Gs) (s:Sc),wfs l->g.names=s.names->(walks ar l s).code=0->fI slI cl p l g=fI au cl p l g
 | [],g,s,_,h,_=>rfl
 | t::l,g,s,hw,h,hc=>by
  unfold walks at hc;unfold fI;rw [ki t g s hw.1 h (back (dX ar l _) hc)]
theorem BJ:∀ (l:List Tr) (g:Gs) (s:Sc),wfs l->g.names=s.names->(walks ar l s).code=0->hZ slI cl l g=hZ au cl l g
 | [],g,s,_,h,_=>rfl
 | t::l,g,s,hw,h,hc=>by
  unfold walks at hc;unfold hZ;rw [ki t g s hw.1 h (back (dX ar l _) hc)];exact zV _ l _ _ hw.2 (cE ar au cl t g s hw.1 h) hc
theorem zV (p:Nat):∀ (l:List Tr) (g:Gs) (s:Sc),wfs l->g.names=s.names->(walks ar l s).code=0->iy slI cl p l g=iy au cl p l g
 | [],g,s,_,h,_=>rfl
 | t::l,g,s,hw,h,hc=>by
  unfold walks at hc;unfold iy;rw [ki t g s hw.1 h (back (dX ar l _) hc)];exact zT p l _ _ hw.2 (cE ar au cl t g s hw.1 h) hc
theorem zT (p:Nat):∀ (l:List Tr) (g:Gs) (s:Sc),wfs l->g.names=s.names->(walks ar l s).code=0->iw slI cl p l g=iw au cl p l g
 | [],g,s,_,h,_=>rfl
 | t::l,g,s,hw,h,hc=>by
  unfold walks at hc;unfold iw;rw [ki t ((g.put (iOp 6 0 0 [])).here p) s hw.1 h (back (dX ar l _) hc)]
theorem xW (start:Nat):∀ (l:List Tr) (g:Gs) (s:Sc),wfs l->g.names=s.names->(walks ar l s).code=0->fD slI cl start l g=fD au cl start l g
 | [],g,s,_,h,_=>rfl
 | t::l,g,s,hw,h,hc=>by
  unfold walks at hc;unfold fD;rw [ki t g s hw.1 h (back (dX ar l _) hc)];exact wL start _ l _ _ hw.2 (cE ar au cl t g s hw.1 h) hc
theorem wL (start p:Nat):∀ (l:List Tr) (g:Gs) (s:Sc),wfs l->g.names=s.names->(walks ar l s).code=0->fR slI cl start p l g=fR au cl start p l g
 | [],g,s,_,h,_=>rfl
 | t::l,g,s,hw,h,hc=>by
  unfold walks at hc;unfold fR;rw [ki t g s hw.1 h (back (dX ar l _) hc)]
theorem zR (text:List UInt8) (ix:Int):∀ (l:List Tr) (g:Gs) (s:Sc),wfs l->g.names=s.names->(dT ar text ix s.names.length l s).code=0->gK slI cl text g.names.length l g=gK au cl text g.names.length l g
 | [],g,s,_,h,_=>rfl
 | t::l,g,s,hw,h,hc=>by
  unfold dT at hc;unfold gK;rw [ki t (g.put (iOp 14 0 0 [])) s hw.1 h (back (mO ar text ix l _) hc)];exact xU text ix _ _ l _ _ hw.2 (cE ar au cl t (g.put (iOp 14 0 0 [])) s hw.1 h) hc
theorem xU (text:List UInt8) (ix:Int) (n q:Nat):∀ (l:List Tr) (g:Gs) (s:Sc),wfs l->g.names=s.names->(dV ar text ix l s).code=0->iR slI cl text n q l g=iR au cl text n q l g
 | [],g,s,_,h,_=>rfl
 | t::l,g,s,hw,h,hc=>by
  unfold dV at hc;unfold iR;rw [ki t (g.store text) (s.cq text ix) hw.1 (by rw [bZ,Gs.store,h]) hc]
end
end
theorem zP {t:Tr} (h:Sub ns t k):t.ix=k:=by
 cases t;exact h.1.symm
theorem yv {ns:List Nd}:∀ {ts:List Tr} {ks:List Int},dx ns ts ks->ts.map Tr.ix=ks
 | [],[],_=>rfl
 | t::ts,k::ks,h=>by simp [zP h.1,yv h.2]
 | [],k::ks,h=>h.elim
 | t::ts,[],h=>h.elim
theorem zX {ks:List Int} (h:dx ns ts ks) (hn:ks.Nodup):((aX ts).map Tr.ix).Nodup:=by
 rw [<- yv h] at hn;exact hn.sublist ((List.filter_sublist (l:=ts)).map _)
theorem BV (t:List UInt8):∀ (fs:List Tr) (k:Nat),(fs.map Tr.ix).Nodup->idxOf t (fs.map Tr.text) k=match fs.find? (fun f=>decide (f.text=t)) with
  | some f=>posOf f.ix (fs.map Tr.ix) k
  | none=> -1
 | [],k,_=>rfl
 | f::l,k,h=>by
  rw [cT,List.nodup_cons] at h;rw [cT,idxOf,List.find?_cons];by_cases e:f.text=t
  ·simp only [e,bo,decide_true,cT,posOf]
  ·rw [ab (fun h=>e h.symm)];simp only [e,decide_false];rw [BV t l (k+1) h.2];cases hq:l.find? (fun f=>decide (f.text=t)) with
   | none=>rfl
   | some g =>
    have hm:=List.mem_of_find?_eq_some hq;have:¬ g.ix=f.ix:=fun e=>h.1 (e▸List.mem_map.2 ⟨g,hm,rfl⟩)
    simp only [cT,posOf,ab this]
theorem Gx (hs:dx ns ts kids) (hd:((aX ts).map Tr.ix).Nodup):clI ((aX ts).map Tr.text)=clS ts ((aX ts).map Tr.ix):=by
 funext t
 unfold clI clS iA;rw [BV t _ 0 hd];cases hq:(aX ts).find? (fun f=>decide (f.text=t)) with
 | none=>rfl
 | some g =>
  have hm:=List.mem_of_find?_eq_some hq;have h0:0<=g.ix:=by
   have:=jw hs g hm;cases g;obtain ⟨_,_,h,_⟩:=this;exact h
  simp only;rw [ab (by omega)]
theorem ln (ix:Int):∀ (l pre:List (List UInt8)) (s:Sc),(Sc.dj ix pre l s).names=s.names++l
 | [],pre,s=>by simp [Sc.dj]
 | w::l,pre,s=>by
  rw [Sc.dj,ln ix l,bZ];split<;>simp [eR]
theorem DA (ar:List UInt8->Option Int) (cl:List UInt8->Int) (b:Bool) (ix:Int) (names:List (List UInt8)) (kids:List Tr) (hw:wfs kids) (hc:(c7 ar b ix names kids Sc.zero).code=0) :
  cX slI cl kids ⟨bP b names,[]⟩=cX au cl kids ⟨bP b names,[]⟩:=by
 unfold c7 at hc;exact qm ar cl kids _ _ hw (by rw [ln];rfl) hc
theorem tK {w:Int} {k:D} (h:eV (.int .i64 w) k=true):∃ q,k= .int q w:=by
 cases k<;>simp [eV] at h
 exact ⟨_,by rw [h]⟩
theorem rD:∀ (es:List (D×Int)) (w t v:Int),cL (dd es (.int .i64 w) v) (.int .i64 t)=if w=t then v else cL es (.int .i64 t)
 | [],w,t,v=>by
  simp only [dd,cL,eV];by_cases h:w=t
  ·simp [h]
  ·have:¬ t=w:=fun e=>h e.symm
   simp [h,this]
 | (k,x)::l,w,t,v=>by
  unfold dd;by_cases h:eV (.int .i64 w) k=true
  ·rw [aj h];obtain ⟨q,rfl⟩:=tK h;simp only [cL,eV];by_cases e:t=w
   ·simp [e]
   ·have:¬ w=t:=fun h=>e h.symm
    simp [e,this]
  ·rw [ab h];simp only [cL];by_cases e:eV (.int .i64 t) k=true
   ·obtain ⟨q,rfl⟩:=tK e;have:¬ w=t:=fun he=>h (by simp [eV,he])
    simp [eV,this]
   ·simp only [e,aV];exact rD l w t v
theorem th (ar:List UInt8->Option Int) (root:Int):∀ (l:List Tr) (s:Sc) (m:List (D×Int)),s.code=0->s.node=0->(cG ar root l (s,m)).1.code=0 ->
  (∀ f∈l,(c7 ar (decide (f.ix=root)) f.ix f.names f.kids Sc.zero).code=0)/\(∀ k,(∀ f∈l,f.ix≠k)->cL (cG ar root l (s,m)).2 (.int .i64 k)=cL m (.int .i64 k)) /\
  ((l.map Tr.ix).Nodup->∀ f∈l,cL (cG ar root l (s,m)).2 (.int .i64 f.ix)=(c7 ar (decide (f.ix=root)) f.ix f.names f.kids Sc.zero).di)
 | [],s,m,_,_,_=>⟨by simp,fun k _=>rfl,by simp⟩
 | f::l,s,m,h1,h2,hc=>by
  rw [cG] at hc ⊢;simp only at hc ⊢;rw [lO ar _ _ _ _ h1 h2] at hc ⊢;have h3:=lP ar (decide (f.ix=root)) f.ix f.names f.kids Sc.zero;generalize hS:c7 ar (decide (f.ix=root)) f.ix f.names f.kids Sc.zero=S at h3 hc ⊢;have hc0:S.code=0:=back (gU ar root l (S,_)) hc;obtain ⟨g1,g2,g3⟩:=th ar root l S (dd m (.int .i64 f.ix) S.di) hc0 (h3.2 rfl hc0) hc;refine ⟨?_,?_,?_⟩
  ·intro g hg;rcases aQ.1 hg with rfl | hg
   ·rw [hS];exact hc0
   ·exact g1 g hg
  ·intro k hk;rw [g2 k (fun g hg=>hk g (aM _ hg)),rD,ab (hk f (by simp))]
  ·intro hn g hg;rw [cT,List.nodup_cons] at hn;rcases aQ.1 hg with rfl | hg
   ·rw [g2 _ (fun q hq e=>hn.1 (List.mem_map.2 ⟨q,hq,e⟩)),rD,aj rfl,hS]
   ·exact g3 hn.2 g hg
theorem xc (fn:List (List UInt8)) (root:Int) (M:List (D×Int)):∀ (l:List Tr) (acc:List Fc),oe fn root M l acc=if (l.any fun t=>decide (400 < (jX fn root t).length))=true then none else some (acc++l.map (fcM fn root M))
 | [],acc=>by simp [oe]
 | t::l,acc=>by
  rw [oe,List.any_cons];by_cases h:400 < (jX fn root t).length
  ·simp [h]
  ·rw [ab h,xc fn root M l];simp [h]
theorem vR {root:Int} (hnd:ns[root.toNat]?=some ⟨18,n,[],[],kids⟩) (hs:dx ns ts kids) (hw:wfs ts) :
  ∀ t∈aX ts,t.ix≠root/\0<=t.ix/\wfs t.kids/\t.kind=20:=by
 intro t ht;have h1:=jw hs t ht;have h2:=ep hw t (List.mem_filter.1 ht).1;have h3:t.kind=20:=by simpa using (List.mem_filter.1 ht).2
 cases t with
 | mk ix kind m txt nms ks =>
  obtain ⟨e,kids',k0,k1,_⟩:=h1;have h3:kind=20:=h3;refine ⟨fun (e:ix=root)=>?_,k0,h2.2,h3⟩;rw [show (Tr.mk ix kind m txt nms ks).ix=ix from rfl] at k1;rw [e,hnd] at k1;simp only [aw,Nd.mk.injEq] at k1;omega
structure Clean (root:Int) (r:Tr):Prop where
 fns:∀ f∈r::aX r.kids,(c7 (aA r.kids) (decide (f.ix=root)) f.ix f.names f.kids Sc.zero).code=0
theorem Aa {root:Int} (h:ze ns root r):rX ns root r=vM root r/\((gM root r).1=0->Clean root r):=by
 obtain ⟨n,ts,kids,rfl,h0,hnd,hs,hw,hb,hd⟩:=h;have hnc:=(wg (root:=root) (n:=n) (text:=[]) (names:=[]) hs).1;have hfn:=vR hnd hs hw;unfold rX vM;rw [hnc];by_cases hc:(gM root (.mk root 18 n [] [] ts)).1≠0
 ·rw [aj hc,aj hc];exact ⟨rfl,fun h=>absurd h hc⟩
 rw [ab hc,ab hc];have hc:(gM root (.mk root 18 n [] [] ts)).1=0:=by omega
 rw [hc] at hnc;have key:(∀ f∈Tr.mk root 18 n [] [] ts::aX ts,(c7 (aA ts) (decide (f.ix=root)) f.ix f.names f.kids Sc.zero).code=0) /\
   (∀ f∈Tr.mk root 18 n [] [] ts::aX ts,cL (gq ns root (.mk root 18 n [] [] ts)).2 (.int .i64 f.ix)=(c7 (aA ts) (decide (f.ix=root)) f.ix f.names f.kids Sc.zero).di):=by
  unfold gq at hnc ⊢;rw [show (Tr.mk root 18 n [] [] ts).kids=ts from rfl] at hnc ⊢;simp only at hnc ⊢;rw [B6 hs] at hnc ⊢;have hX0:=nr (aX ts) 0 (Sc.zero,[]);generalize cZ 0 (aX ts) (Sc.zero,[])=X at hX0 hnc ⊢;have hX1:X.1.code=0:=back (gU (aA ts) root (aX ts++[.mk root 18 n [] [] ts]) (X.1,[])) hnc;obtain ⟨g1,g2,g3⟩:=th (aA ts) root _ X.1 [] hX1 (hX0.2 rfl hX1) hnc;have hnod:((aX ts++[Tr.mk root 18 n [] [] ts]).map Tr.ix).Nodup:=by
   rw [fa,List.nodup_append];refine ⟨hd,by simp,?_⟩;intro a ha b hb e;obtain ⟨f,hf,rfl⟩:=List.mem_map.1 ha;simp only [cT,List.map_nil,bA] at hb;rw [hb] at e;exact (hfn f hf).1 e
  have hmem:∀ f,f∈Tr.mk root 18 n [] [] ts::aX ts->f∈aX ts++[Tr.mk root 18 n [] [] ts]:=by
   intro f hf;rcases aQ.1 hf with rfl | hf
   ·simp
   ·exact bW _ hf
  exact ⟨fun f hf=>g1 f (hmem f hf),fun f hf=>g3 hnod f (hmem f hf)⟩
 refine ⟨?_,fun _=>⟨key.1⟩⟩;have hbody:∀ f∈Tr.mk root 18 n [] [] ts::aX ts,fcM ((aX ts).map Tr.text) root (gq ns root (.mk root 18 n [] [] ts)).2 f=fcS ts ((aX ts).map Tr.ix) root f.ix f.text f.names f.kids/\(jX ((aX ts).map Tr.text) root f)=xl ts ((aX ts).map Tr.ix) root f.ix f.names f.kids:=by
  intro f hf;have e1:wfs f.kids:=by
   rcases aQ.1 hf with rfl | hf
   ·exact hw
   ·exact (hfn f hf).2.2.1
  have e2:(jX ((aX ts).map Tr.text) root f)=xl ts ((aX ts).map Tr.ix) root f.ix f.names f.kids:=by
   unfold jX xl;simp only;rw [Gx hs hd];have hb:=DA (aA ts) (clS ts ((aX ts).map Tr.ix)) (decide (f.ix=root)) f.ix f.names f.kids e1 (key.1 f hf);rw [<- hb];rcases aQ.1 hf with rfl | hf
   ·rw [aj (show (Tr.mk root 18 n [] [] ts).ix=root from rfl),Tr.gen];rfl
   ·rw [ab (hfn f hf).1]
  refine ⟨?_,e2⟩;unfold fcM fcS;rw [e2,key.2 f hf];congr 1;rcases aQ.1 hf with rfl | hf
  ·rw [aj (show (Tr.mk root 18 n [] [] ts).ix=root from rfl)];rfl
  ·rw [ab (hfn f hf).1]
 rw [show (Tr.mk root 18 n [] [] ts).kids=ts from rfl,xc];have hany:((Tr.mk root 18 n [] [] ts::aX ts).any fun t=>decide (400 < (jX ((aX ts).map Tr.text) root t).length))=((po root (.mk root 18 n [] [] ts)).any fun x=>decide (400 < x.code.length)):=by
  unfold po;rw [List.any_map,show (Tr.mk root 18 n [] [] ts).kids=ts from rfl];rw [Bool.eq_iff_iff,List.any_eq_true,List.any_eq_true];constructor
  ·rintro ⟨f,hf,h⟩
   refine ⟨f,hf,?_⟩;rw [(hbody f hf).2] at h;exact h
  ·rintro ⟨f,hf,h⟩
   refine ⟨f,hf,?_⟩;rw [(hbody f hf).2];exact h
 rw [hany];congr 1;split
 ·rfl
 ·rw [dG];congr 1;unfold po;rw [show (Tr.mk root 18 n [] [] ts).kids=ts from rfl];exact List.map_congr_left fun f hf=>(hbody f hf).1
def Fe (m:Nat) (x:Tok):Prop:=(x.kind=3->small (jt x.text))/\(x.kind=1->x.text≠[])/\x.text.length<=m+2
theorem rU (t:List UInt8) (i j:Nat):(eL t i j).length<=t.length:=by
 unfold eL;rw [bD,bh];omega
theorem uq:∀ (t x:List UInt8) (n:Nat),quo t=some (x,n)->x.length<=t.length
 | [],x,n,h=>by cases h
 | [c],x,n,h=>by
  unfold quo at h;split at h
  ·cases h;simp
  split at h
  ·cases h
  split at h
  ·cases h
  ·simp [quo] at h
 | c::d::r,x,n,h=>by
  unfold quo at h;split at h
  ·cases h;simp
  split at h
  ·simp only at h;split at h
   ·cases hq:quo r with
    | none=>rw [hq] at h;cases h
    | some p =>
     rw [hq] at h;obtain ⟨y,m⟩:=p;have:=uq r y m hq;cases h;simp;omega
   ·cases h
  split at h
  ·cases h
  ·cases hq:quo (d::r) with
   | none=>rw [hq] at h;cases h
   | some p =>
    rw [hq] at h;obtain ⟨y,m⟩:=p;have:=uq (d::r) y m hq;cases h;simp at this ⊢;omega
theorem DY (t:List UInt8) {i:Nat} (hi:i < t.length) (h:(ez t i).2.2=true):Fe t.length (ez t i).1:=by
 unfold ez at h ⊢;rw [aa hi] at h ⊢;dsimp only at h ⊢;split at h
 ·rename_i h1;rw [aj h1];split at h
  ·rename_i h2;rw [aj h2];exact ⟨fun h=>absurd h (by show ¬ (2:Int)=3;decide),fun h=>absurd h (by show ¬ (2:Int)=1;decide),by have:=rU t i (bS t i);simp only;omega⟩
  ·rename_i h2;rw [ab h2];refine ⟨fun h=>absurd h (by show ¬ (1:Int)=3;decide),fun _ e=>?_,by have:=rU t i (bS t i);simp only;omega⟩;simp only at e h;rw [e] at h;exact absurd h (by decide)
 ·rename_i h1;rw [ab h1];split at h
  ·rename_i h2;rw [aj h2];refine ⟨fun _=>?_,fun h=>absurd h (by show ¬ (3:Int)=1;decide),by have:=rU t i (dn t i);simp only;omega⟩;simp only [nZ,ag,ak] at h;simp only [small];omega
  ·rename_i h2;rw [ab h2];split at h
   ·rename_i h3;rw [aj h3];refine ⟨fun h=>absurd h (by show ¬ (4:Int)=3;decide),fun h=>absurd h (by show ¬ (4:Int)=1;decide),?_⟩;simp only [quoted];cases hq:quo (t.drop (i+1)) with
    | none=>simp
    | some p =>
     obtain ⟨x,n⟩:=p;have:=uq _ _ _ hq;simp at this ⊢;omega
   ·rename_i h3;rw [ab h3];exact ⟨fun h=>absurd h (by show ¬ (5:Int)=3;decide),fun h=>absurd h (by show ¬ (5:Int)=1;decide),by have:=yy (t.drop i);simp only;omega⟩
theorem Ba (t:List UInt8):∀ (n i:Nat) (acc l:List Tok),(∀ x∈acc,Fe t.length x)->lZ t n i acc= .ok l->∀ x∈l,Fe t.length x
 | 0,i,acc,l,h2,h=>by cases h;exact h2
 | n+1,i,acc,l,h2,h=>by
  unfold lZ at h;split at h
  ·rename_i hi;split at h
   ·cases h
   ·split at h
    ·rename_i h4;refine Ba t n _ _ l (fun x hx=>?_) h;rcases bL.1 hx with hx | hx
     ·exact h2 x hx
     ·rw [bA.1 hx];exact DY t hi h4
    ·cases h
  ·cases h;exact h2
theorem C4 (ht:t.length<=1073741000) {l:List Tok} (h:oX t= .ok l):TW l:=by
 have h1:=(uM t _ _ _ l (by simp) (by simp) h).1;have h2:=Ba t _ _ _ l (by simp) h;exact ⟨fun x hx=>(h2 x hx).1,fun x hx=>(h2 x hx).2.1,fun x hx=>bG (h2 x hx).2.2 (by omega),h1⟩
def FE:jg->Prop
 | .block _ _ _=>True
 | .stmts _ _ _ _=>True
 | .stmt _ _ _=>True
 | .cd _ _ _ _=>True
 | .top _ _ _=>True
 | _=>False
theorem iY {l:List Tok} {x:Nd} {p':Nat} {ns':List Nd} (h:cv l p ns x=some (.ok (k,p',ns'))):k=ns'.length - 1:=by
 obtain ⟨rfl,rfl⟩:=qk h;simp
theorem uH {l:List Tok}:∀ (n:Nat) (c:jg) (k:Int) (p':Nat) (ns':List Nd),mm l n c=some (.ok (k,p',ns'))->FE c->k=ns'.length - 1
 | 0,c,k,p',ns',h,_=>by cases h
 | n+1,c,k,p',ns',h,hc=>by
  have ih:=uH (l:=l) n;have hend:∀ {d:Nat} {kind:Int} {name:List UInt8} {p:Nat} {ns:List Nd},(bnd (mm l n (.expr d p ns)) fun (a,p,ns)=>bnd (a8 l p [59]) fun p=>cv l p ns ⟨kind,0,name,[],[a]⟩)=some (.ok (k,p',ns'))->k=ns'.length - 1:=by
   intro d kind name p ns hh;obtain ⟨⟨a,pa,na⟩,e1,hh⟩:=cy hh;obtain ⟨q,_,hh⟩:=cy hh;exact iY hh
  cases c with
  | block d p ns =>
   simp only [mm] at h;obtain ⟨q,_,h⟩:=cy h;exact ih _ k p' ns' h trivial
  | stmts d kids p ns =>
   simp only [mm] at h;split at h
   ·exact iY h
   ·obtain ⟨⟨a,pa,na⟩,e1,h⟩:=cy h;exact ih _ k p' ns' h trivial
  | stmt d p ns =>
   change (if d=20 then _ else _)=_ at h
   split at h
   ·cases h
   split at h
   ·obtain ⟨⟨t,p1⟩,e0,h⟩:=cy h;obtain ⟨q,_,h⟩:=cy h;exact hend h
   split at h
   ·exact hend h
   split at h
   ·exact hend h
   split at h
   ·obtain ⟨⟨a,pa,na⟩,e1,h⟩:=cy h;obtain ⟨⟨a2,p2,n2⟩,e2,h⟩:=cy h;exact iY h
   split at h
   ·obtain ⟨⟨a,pa,na⟩,e1,h⟩:=cy h;obtain ⟨⟨a2,p2,n2⟩,e2,h⟩:=cy h;dsimp only at h;split at h
    ·obtain ⟨⟨a3,p3,n3⟩,e3,h⟩:=cy h;exact iY h
    ·exact iY h
   split at h
   ·obtain ⟨⟨a,pa,na⟩,e1,h⟩:=cy h;obtain ⟨q1,_,h⟩:=cy h;obtain ⟨q2,_,h⟩:=cy h;obtain ⟨⟨t,p1⟩,e0,h⟩:=cy h;obtain ⟨q3,_,h⟩:=cy h;obtain ⟨⟨a2,p2,n2⟩,e2,h⟩:=cy h;exact iY h
   split at h
   ·exact ih _ k p' ns' h trivial
   split at h
   ·exact hend h
   ·exact hend h
  | cd name names p ns =>
   simp only [mm] at h;split at h
   ·obtain ⟨⟨a,pa,na⟩,e1,h⟩:=cy h;exact iY h
   ·obtain ⟨q,eq,h⟩:=cy h;obtain ⟨⟨t,p1⟩,e0,h⟩:=cy h;exact ih _ k p' ns' h trivial
  | top kids p ns =>
   simp only [mm] at h;split at h
   ·split at h
    ·obtain ⟨⟨t,p1⟩,e0,h⟩:=cy h;obtain ⟨q,_,h⟩:=cy h;obtain ⟨⟨a,pa,na⟩,e1,h⟩:=cy h;exact ih _ k p' ns' h trivial
    ·obtain ⟨⟨a,pa,na⟩,e1,h⟩:=cy h;exact ih _ k p' ns' h trivial
   ·exact iY h
  | expr=>exact hc.elim
  | op=>exact hc.elim
  | opL=>exact hc.elim
  | un=>exact hc.elim
  | jJ=>exact hc.elim
  | args=>exact hc.elim
theorem sT {l:List Tok} (hl:TW l):∀ (n:Nat) (kids:List Int) (p:Nat) (ns:List Nd) (k:Int) (p':Nat) (ns':List Nd),mm l n (.top kids p ns)=some (.ok (k,p',ns'))->kids.Nodup->(∀ x∈kids,x < ns.length) ->
  ∃ kids',ns'[k.toNat]?=some ⟨18,0,[],[],kids'⟩/\kids'.Nodup
 | 0,kids,p,ns,k,p',ns',h,_,_=>by cases h
 | n+1,kids,p,ns,k,p',ns',h,hn,hk=>by
  have step:∀ {a:Int} {pa:Nat} {na:List Nd},mm l n (.top (kids++[a]) pa na)=some (.ok (k,p',ns'))->ns.length < na.length->a=na.length - 1->∃ kids',ns'[k.toNat]?=some ⟨18,0,[],[],kids'⟩/\kids'.Nodup:=by
   intro a pa na hh h1 h2;refine sT hl n (kids++[a]) pa na k p' ns' hh ?_ ?_
   ·rw [List.nodup_append];refine ⟨hn,by simp,?_⟩;intro x hx y hy e;have:=hk x hx;rw [bA.1 hy] at e;omega
   ·intro x hx;rcases bL.1 hx with hx | hx
    ·have:=hk x hx;omega
    ·rw [bA.1 hx];omega
  simp only [mm] at h;split at h
  ·split at h
   ·obtain ⟨⟨t,p1⟩,e0,h⟩:=cy h;obtain ⟨q,_,h⟩:=cy h;obtain ⟨⟨a,pa,na⟩,e1,h⟩:=cy h;have ht:t.length<=1073741824:=by
     unfold cU at e0;split at e0<;>cases e0
     exact fJ hl _
    obtain ⟨_,u,_,_,h5⟩:=qj hl n (.cd t [] q ns) a pa na ns.length e1 ⟨ht,by simp,al _⟩;have h6:=uH n _ a pa na e1 trivial;have:1<=u.sz:=by cases u;simp [Tr.sz]
    exact step h (show ns.length < na.length by omega) h6
   ·obtain ⟨⟨a,pa,na⟩,e1,h⟩:=cy h;obtain ⟨_,u,_,_,h5⟩:=qj hl n (.stmt 0 p ns) a pa na ns.length e1 (al _);have h6:=uH n _ a pa na e1 trivial;have:1<=u.sz:=by cases u;simp [Tr.sz]
    exact step h (show ns.length < na.length by omega) h6
  ·obtain ⟨rfl,rfl⟩:=qk h;exact ⟨kids,by simp,hn⟩
structure DR (ns:List Nd) (root:Int) (r:Tr):Prop where
 root:ze ns root r
 kids:∀ u∈r.kids,stK u\/u.kind=20
theorem AX (ht:t.length<=1073741000) (h:par t= .ok (k,p,ns)):∃ r,DR ns k r:=by
 unfold par at h;cases hq:oX t with
 | error e=>rw [hq] at h;cases h
 | ok l =>
  rw [hq] at h;have hl:=C4 ht hq;simp only at h;cases hm:mm l 4000 (.top [] 0 []) with
  | none=>rw [hm] at h;cases h
  | some x =>
   rw [hm,gx] at h;subst h;have h1:=dN l 4000 (.top [] 0 []) ⟨by omega,by simp,by simp⟩;rw [hm] at h1;have h1:ns.length<=200:=h1.2;obtain ⟨kids',h2,h3⟩:=sT hl 4000 [] 0 [] k p ns hm (by simp) (by simp);obtain ⟨_,u,h4,h5,h6⟩:=qj hl 4000 (.top [] 0 []) k p ns 0 hm ⟨[],trivial,trivial,by simp,by simp [szs]⟩;obtain ⟨g1,g2,g3,g4,g5⟩:=h5
   match u,h4,g1,g2,g3,g4,g5,h6 with
   | .mk i kind n text names ts,h4,g1,g2,g3,g4,g5,h6 =>
   obtain ⟨rfl,kids,k0,e1,e2⟩:=h4;have g1:kind=18:=g1;have g2:text=[]:=g2;have g3:names=[]:=g3;subst g1 g2 g3;rw [h2] at e1;simp only [aw,Nd.mk.injEq] at e1;obtain ⟨_,rfl,_,_,rfl⟩:=e1;refine ⟨_,⟨0,ts,kids',rfl,k0,h2,e2,g4,?_,zX e2 h3⟩,g5⟩;simp only [Tr.sz] at h6;omega
theorem CU (ht:t.length<=1073741000) {c p:Int} (h:par t= .error (c,p)):c≠0:=by
 unfold par at h;cases hq:oX t with
 | error e =>
  rw [hq] at h;obtain ⟨p',c'⟩:=e;have:=nW t _ _ _ p' c' hq;simp only [Except.error.injEq,Prod.mk.injEq] at h;rw [<- h.1];exact this
 | ok l =>
  rw [hq] at h;obtain ⟨r,hr⟩:=qC (uN (by omega) hq).len;have h1:=dN l 4000 (.top [] 0 []) ⟨by omega,by simp,by simp⟩;rw [hr] at h1;simp only [hr,gx] at h;subst h;exact h1
theorem ze.root (h:ze ns k r):GM ns k r:=by
 obtain ⟨n,ts,kids,h1,h2,h3,h4,h5,h6,_⟩:=h;exact ⟨n,[],ts,kids,h1,h2,h3,h4,h5,h6⟩
structure MO (s s':Sc):Prop where
 len:s.names.length<=s.di->s'.names.length<=s'.di
 up:s.di<=s'.di
 bk:s'.code=0->s.code=0
 few:s'.code=0->s.di<=20->s'.di<=20
theorem MO.refl (s:Sc):MO s s:=⟨id,al _,id,fun _ h=>h⟩
theorem MO.trans {s'':Sc} (h:MO s s') (h':MO s' s''):MO s s'':=⟨fun h0=>h'.len (h.len h0),bG h.up h'.up,fun h0=>h.bk (h'.bk h0),fun h0 h1=>h'.few h0 (h.few (h'.bk h0) h1)⟩
theorem n8 (c k:Int) (s:Sc) (hc:c≠0):MO s (s.fail c k):=by
 unfold Sc.fail;split
 ·exact ⟨id,al _,fun h=>absurd h hc,fun _ h=>h⟩
 ·exact .refl _
theorem om (t:List UInt8) (k:Int) (s:Sc):MO s (s.cq t k):=by
 unfold Sc.cq;simp only;split
 ·rename_i h;unfold Sc.fail;simp only;split
  ·exact ⟨fun _=>by simp;omega,by simp;omega,fun h=>by simp at h,fun h=>by simp at h⟩
  ·rename_i h1;exact ⟨fun _=>by simp;omega,by simp;omega,fun h=>absurd h h1,fun h=>absurd h h1⟩
 ·exact ⟨fun _=>by simp;omega,by simp;omega,id,fun _ _=>by simp;omega⟩
theorem Du (ar:List UInt8->Option Int) (t:List UInt8) (n:Nat) (k:Int) (s:Sc):MO s (s.call ar t n k):=by
 unfold Sc.call;split
 ·exact n8 _ _ _ (by decide)
 ·split
  ·exact n8 _ _ _ (by decide)
  ·exact .refl _
theorem yJ (ar:List UInt8->Option Int) (kind:Int) (t:List UInt8) (n:Nat) (k:Int) (s:Sc):MO s (s.meet ar kind t n k):=by
 unfold Sc.meet;split
 ·split
  ·exact n8 _ _ _ (by decide)
  ·exact .refl _
 ·split
  ·exact Du _ _ _ _ _
  ·exact .refl _
theorem nu (t:List UInt8) (k:Int) (s:Sc):MO s (s.declare t k):=by
 unfold Sc.declare;refine MO.trans ?_ (om t k _);split
 ·exact n8 _ _ _ (by decide)
 ·exact .refl _
theorem EX (n o:Nat) (h:MO s s'):MO s {s' with own:=o,names:=s'.names.take n} :=
 ⟨fun h0=>by have:=h.len h0;simp;omega,h.up,h.bk,h.few⟩
mutual
theorem fe (ar:List UInt8->Option Int):∀ (t:Tr) (s:Sc),MO s (t.walk ar s)
 | .mk ix kind n text names kids,s=>by
  unfold Tr.walk;split
  ·exact .refl _
  split
  ·exact xz ar text ix s.names.length kids s
  split
  ·have h:=iV ar kids {s with own:=s.names.length};exact EX s.names.length s.own ⟨h.len,h.up,h.bk,h.few⟩
  ·have h2:=(yJ ar kind text kids.length ix s).trans (iV ar kids _);simp only;split
   ·exact h2.trans (nu text ix _)
   ·exact h2
theorem iV (ar:List UInt8->Option Int):∀ (l:List Tr) (s:Sc),MO s (walks ar l s)
 | [],s=> .refl _
 | t::l,s=>by
  unfold walks;exact (fe ar t s).trans (iV ar l _)
theorem xz (ar:List UInt8->Option Int) (text:List UInt8) (ix:Int) (n:Nat):∀ (l:List Tr) (s:Sc),MO s (dT ar text ix n l s)
 | [],s=> .refl _
 | a::l,s=>by
  unfold dT;exact (fe ar a s).trans (vy ar text ix l _)
theorem vy (ar:List UInt8->Option Int) (text:List UInt8) (ix:Int):∀ (l:List Tr) (s:Sc),MO s (dV ar text ix l s)
 | [],s=> .refl _
 | b::l,s=>by
  unfold dV;have h:=(om text ix s).trans (fe ar b _);exact ⟨fun h0=>by have:=h.len h0;simp;omega,h.up,h.bk,h.few⟩
end
theorem tX (k:Int):∀ (pre l:List (List UInt8)) (s:Sc),MO s (Sc.dj k pre l s)
 | _,[],s=> .refl _
 | pre,w::l,s=>by
  unfold Sc.dj;refine MO.trans ?_ (tX k _ l _);refine MO.trans ?_ (om w k _);split
  ·exact n8 _ _ _ (by decide)
  ·exact .refl _
def Val.ok (x:Val):Prop:=small x.n/\x.kindOk/\x.t.length<=1073741824
abbrev Hs:=Nat->Nat×Nat
inductive fM (K:Int->Nat->Prop) (sl:Nat) (H:Hs) (lo hi pc:Nat):Ins->Prop
 | push (v:Val) (h t:Nat):v.ok->H pc=(h,t)->H (pc+1)=(h+1,t)->fM K sl H lo hi pc (fN v)
 | load (a h t:Nat):a < sl->H pc=(h,t)->H (pc+1)=(h+1,t)->fM K sl H lo hi pc (iOp 2 a 0 [])
 | store (a h t:Nat):a < sl->H pc=(h+1,t)->H (pc+1)=(h,t)->fM K sl H lo hi pc (iOp 3 a 0 [])
 | un (x:List UInt8) (h t:Nat):H pc=(h+1,t)->H (pc+1)=(h+1,t)->fM K sl H lo hi pc (iOp 4 0 0 x)
 | bin (x:List UInt8) (h t:Nat):H pc=(h+2,t)->H (pc+1)=(h+1,t)->fM K sl H lo hi pc (iOp 5 0 0 x)
 | jump (n h t:Nat):lo<=n->n<=hi->H pc=(h,t)->H n=(h,t)->fM K sl H lo hi pc (iOp 6 n 0 [])
 | wT (n h t:Nat):lo<=n->n<=hi->H pc=(h+1,t)->H n=(h,t)->H (pc+1)=(h,t)->fM K sl H lo hi pc (iOp 7 n 0 [])
 | both (k:Int) (n h t:Nat):(k=8\/k=9)->lo<=n->n<=hi->H pc=(h+1,t)->H n=(h+1,t)->H (pc+1)=(h,t)->fM K sl H lo hi pc (iOp k n 0 [])
 | call (j:Int) (nk h t:Nat):K j nk->H pc=(h+nk,t)->H (pc+1)=(h+1,t)->fM K sl H lo hi pc (iOp 10 j nk [])
 | bi (x:List UInt8) (ks:List Int) (nk h t:Nat):db x=some ks->ks.length=nk->H pc=(h+nk,t)->H (pc+1)=(h+1,t)->fM K sl H lo hi pc (iOp 11 nk 0 x)
 | ret (h t:Nat):H pc=(h+1,t)->fM K sl H lo hi pc (iOp 12 0 0 [])
 | thr (h t:Nat):H pc=(h+1,t)->fM K sl H lo hi pc (iOp 13 0 0 [])
 | tr (n t:Nat):lo<=n->n<=hi->H pc=(0,t)->H (pc+1)=(0,t+1)->H n=(1,t)->fM K sl H lo hi pc (iOp 14 n 0 [])
 | don (h t:Nat):H pc=(h,t+1)->H (pc+1)=(h,t)->fM K sl H lo hi pc (iOp 15 0 0 [])
 | pop (h t:Nat):H pc=(h+1,t)->H (pc+1)=(h,t)->fM K sl H lo hi pc (iOp 16 0 0 [])
section
variable {K:Int->Nat->Prop} {sl:Nat}
theorem fM.map {H H':Hs} {lo' hi' pc:Nat} (e:∀ q,lo<=q->q<=hi->H' q=H q) (h1:lo<=pc) (h2:pc+1<=hi) (hl:lo'<=lo) (hh:hi<=hi') (h:fM K sl H lo hi pc i):fM K sl H' lo' hi' pc i:=by
 have e1:=e pc h1 (by omega);have e2:=e (pc+1) (by omega) h2;cases h with
 | push v h t a b c=>exact .push v h t a (e1.trans b) (e2.trans c)
 | load a h t a b c=>exact .load _ h t a (e1.trans b) (e2.trans c)
 | store a h t a b c=>exact .store _ h t a (e1.trans b) (e2.trans c)
 | un x h t b c=>exact .un x h t (e1.trans b) (e2.trans c)
 | bin x h t b c=>exact .bin x h t (e1.trans b) (e2.trans c)
 | jump n h t a b c d=>exact .jump n h t (by omega) (by omega) (e1.trans c) ((e n a b).trans d)
 | wT n h t a b c d f=>exact .wT n h t (by omega) (by omega) (e1.trans c) ((e n a b).trans d) (e2.trans f)
 | both k n h t z a b c d f=>exact .both k n h t z (by omega) (by omega) (e1.trans c) ((e n a b).trans d) (e2.trans f)
 | call j nk h t a b c=>exact .call j nk h t a (e1.trans b) (e2.trans c)
 | bi x ks nk h t a z b c=>exact .bi x ks nk h t a z (e1.trans b) (e2.trans c)
 | ret h t b=>exact .ret h t (e1.trans b)
 | thr h t b=>exact .thr h t (e1.trans b)
 | tr n t a b c d f=>exact .tr n t (by omega) (by omega) (e1.trans c) (e2.trans d) ((e n a b).trans f)
 | don h t b c=>exact .don h t (e1.trans b) (e2.trans c)
 | pop h t b c=>exact .pop h t (e1.trans b) (e2.trans c)
variable (K sl) in
def eO (H:Hs) (lo hi b:Nat) (l:List Ins):Prop:=∀ q i,l[q]?=some i->fM K sl H lo hi (b+q) i
theorem eO.nil (H:Hs) (lo hi b:Nat):eO K sl H lo hi b []:=fun q i h=>by simp at h
theorem eO.cons {H:Hs} (h:fM K sl H lo hi b i) (hl:eO K sl H lo hi (b+1) l):eO K sl H lo hi b (i::l):=by
 intro q j hq;cases q with
 | zero=>cases hq;exact h
 | succ q =>
  have:=hl q j (by simpa using hq)
  rwa [show b+1+q=b+(q+1) by omega] at this
theorem eO.app {H:Hs} {m:List Ins} (h:eO K sl H lo hi b l) (hm:eO K sl H lo hi (b+l.length) m):eO K sl H lo hi b (l++m):=by
 intro q j hq;by_cases hl:q < l.length
 ·rw [bU hl] at hq;exact h q j hq
 ·rw [cx (by omega)] at hq;have:=hm _ j hq
  rwa [show b+l.length+(q - l.length)=b+q by omega] at this
theorem eO.map {H H':Hs} (he:e=b+l.length) (h:eO K sl H b e b l) (hH:∀ q,b<=q->q<=e->H' q=H q) (hl:lo<=b) (hh:e<=hi):eO K sl H' lo hi b l:=by
 intro q i hq;have hlt:q < l.length:=(af.1 hq).1;exact (h q i hq).map hH (by omega) (by omega) hl hh
variable (K sl) in
def TYc (b:Nat) (l:List Ins) (a z:Nat×Nat):Prop:=∃ H:Hs,H b=a/\H (b+l.length)=z/\eO K sl H b (b+l.length) b l
theorem TYc.nil (b:Nat) (a:Nat×Nat):TYc K sl b [] a a:=⟨fun _=>a,rfl,rfl,eO.nil _ _ _ _⟩
def glue (m:Nat) (H1 H2:Hs):Hs:=fun q=>if q<=m then H1 q else H2 q
theorem cO {H1 H2:Hs} (h:q<=m):glue m H1 H2 q=H1 q:=aj h
theorem bY {H1 H2:Hs} (h:m < q):glue m H1 H2 q=H2 q:=ab (by omega)
theorem yO {H1 H2:Hs} (e:H1 m=H2 m) (h:m<=q):glue m H1 H2 q=H2 q:=by
 by_cases hq:q=m
 ·subst hq;rw [cO (al _),e]
 ·exact bY (by omega)
theorem TYc.app {m:List Ins} {a c z:Nat×Nat} (h:TYc K sl b l a c) (hm:TYc K sl (b+l.length) m c z):TYc K sl b (l++m) a z:=by
 obtain ⟨H1,a1,a2,a3⟩:=h;obtain ⟨H2,b1,b2,b3⟩:=hm;have e:H1 (b+l.length)=H2 (b+l.length):=a2.trans b1.symm;refine ⟨glue (b+l.length) H1 H2,by rw [cO (by omega),a1],?_,?_⟩
 ·rw [aH,yO e (by omega),<- b2];congr 1;omega
 ·rw [aH];refine eO.app (eO.map rfl a3 (fun q _ h2=>cO h2) (al _) (by omega)) (eO.map rfl b3 (fun q h1 _=>yO e h1) (by omega) (by omega))
theorem TYc.one {a z:Nat×Nat} (h:∀ H:Hs,H b=a->H (b+1)=z->fM K sl H b (b+1) b i):TYc K sl b [i] a z:=by
 obtain ⟨H,e1,e2⟩:∃ H:Hs,H b=a/\H (b+1)=z:=⟨fun q=>if q=b then a else z,aj rfl,ab (by omega)⟩
 exact ⟨H,e1,e2,eO.cons (h H e1 e2) (eO.nil _ _ _ _)⟩
theorem TYc.both {t:Nat} (hk:k=8\/k=9) (ha:TYc K sl b la (h,t) (h+1,t)) (hb:TYc K sl (b+la.length+1) lb (h,t) (h+1,t)) (he:e=b+la.length+1+lb.length) :
  TYc K sl b (la++iOp k e 0 []::lb) (h,t) (h+1,t):=by
 obtain ⟨H1,a1,a2,a3⟩:=ha;obtain ⟨H2,b1,b2,b3⟩:=hb;subst he;have hlen:b+(la++iOp k ((b+la.length+1+lb.length:Nat):Int) 0 []::lb).length=b+la.length+1+lb.length:=by simp;omega
 refine ⟨glue (b+la.length) H1 H2,by rw [cO (by omega),a1],?_,?_⟩
 ·rw [hlen,bY (by omega),b2]
 ·rw [hlen];refine eO.app (eO.map rfl a3 (fun q _ h2=>cO h2) (al _) (by omega)) (eO.cons ?_ (eO.map rfl b3 (fun q h1 _=>bY (by omega)) (by omega) (by omega)));exact .both k _ h t hk (by omega) (by omega) (by rw [cO (by omega),a2]) (by rw [bY (by omega),b2]) (by rw [bY (by omega),b1])
theorem TYc.if2 {t:Nat} (ha:TYc K sl b la (h,t) (h+1,t)) (hb:TYc K sl (b+la.length+1) lb (h,t) (h,t)) (he:e=b+la.length+1+lb.length) :
  TYc K sl b (la++iOp 7 e 0 []::lb) (h,t) (h,t):=by
 obtain ⟨H1,a1,a2,a3⟩:=ha;obtain ⟨H2,b1,b2,b3⟩:=hb;subst he;have hlen:b+(la++iOp 7 ((b+la.length+1+lb.length:Nat):Int) 0 []::lb).length=b+la.length+1+lb.length:=by simp;omega
 refine ⟨glue (b+la.length) H1 H2,by rw [cO (by omega),a1],?_,?_⟩
 ·rw [hlen,bY (by omega),b2]
 ·rw [hlen];refine eO.app (eO.map rfl a3 (fun q _ h2=>cO h2) (al _) (by omega)) (eO.cons ?_ (eO.map rfl b3 (fun q h1 _=>bY (by omega)) (by omega) (by omega)));exact .wT _ h t (by omega) (by omega) (by rw [cO (by omega),a2]) (by rw [bY (by omega),b2]) (by rw [bY (by omega),b1])
theorem TYc.if3 {t:Nat} (ha:TYc K sl b la (h,t) (h+1,t)) (hb:TYc K sl (b+la.length+1) lb (h,t) (h,t)) (hc:TYc K sl (b+la.length+1+lb.length+1) lc (h,t) (h,t))
  (hd:d=b+la.length+1+lb.length+1) (he:e=d+lc.length):TYc K sl b (la++iOp 7 d 0 []::(lb++iOp 6 e 0 []::lc)) (h,t) (h,t):=by
 obtain ⟨H1,a1,a2,a3⟩:=ha;obtain ⟨H2,b1,b2,b3⟩:=hb;obtain ⟨H3,c1,c2,c3⟩:=hc;subst he hd;have hlen:b+(la++iOp 7 ((b+la.length+1+lb.length+1:Nat):Int) 0 []::(lb++iOp 6 ((b+la.length+1+lb.length+1+lc.length:Nat):Int) 0 []::lc)).length=b+la.length+1+lb.length+1+lc.length:=by simp;omega
 refine ⟨glue (b+la.length) H1 (glue (b+la.length+1+lb.length) H2 H3),by rw [cO (by omega),a1],?_,?_⟩
 ·rw [hlen,bY (by omega),bY (by omega),c2]
 ·rw [hlen];refine eO.app (eO.map rfl a3 (fun q _ h2=>cO h2) (al _) (by omega)) (eO.cons ?_ (eO.app (eO.map rfl b3 (fun q h1 h2=>by rw [bY (by omega),cO h2]) (by omega) (by omega)) (eO.cons ?_ (eO.map rfl c3 (fun q h1 _=>by rw [bY (by omega),bY (by omega)]) (by omega) (by omega)))))
  ·exact .wT _ h t (by omega) (by omega) (by rw [cO (by omega),a2]) (by rw [bY (by omega),bY (by omega),c1]) (by rw [bY (by omega),cO (by omega),b1])
  ·exact .jump _ h t (by omega) (by omega) (by rw [bY (by omega),cO (by omega),b2]) (by rw [bY (by omega),bY (by omega),c2])
theorem TYc.loop {t:Nat} (ha:TYc K sl b la (h,t) (h+1,t)) (hb:TYc K sl (b+la.length+1) lb (h,t) (h,t)) (he:e=b+la.length+1+lb.length+1) :
  TYc K sl b (la++iOp 7 e 0 []::(lb++[iOp 6 b 0 []])) (h,t) (h,t):=by
 obtain ⟨H1,a1,a2,a3⟩:=ha;obtain ⟨H2,b1,b2,b3⟩:=hb;subst he;have hlen:b+(la++iOp 7 ((b+la.length+1+lb.length+1:Nat):Int) 0 []::(lb++[iOp 6 b 0 []])).length=b+la.length+1+lb.length+1:=by simp;omega
 refine ⟨glue (b+la.length) H1 (glue (b+la.length+1+lb.length) H2 (fun _=>(h,t))),by rw [cO (by omega),a1],?_,?_⟩
 ·rw [hlen,bY (by omega),bY (by omega)]
 ·rw [hlen];refine eO.app (eO.map rfl a3 (fun q _ h2=>cO h2) (al _) (by omega)) (eO.cons ?_ (eO.app (eO.map rfl b3 (fun q h1 h2=>by rw [bY (by omega),cO h2]) (by omega) (by omega)) (eO.cons ?_ (eO.nil _ _ _ _))))
  ·exact .wT _ h t (by omega) (by omega) (by rw [cO (by omega),a2]) (by rw [bY (by omega),bY (by omega)]) (by rw [bY (by omega),cO (by omega),b1])
  ·exact .jump _ h t (by omega) (by omega) (by rw [bY (by omega),cO (by omega),b2]) (by rw [cO (by omega),a1])
theorem TYc.try {t:Nat} (ha:TYc K sl (b+1) la (0,t+1) (0,t+1)) (hc:TYc K sl (b+1+la.length+2) lc (1,t) (0,t)) (hd:d=b+1+la.length+2) (he:e=d+lc.length) :
  TYc K sl b (iOp 14 d 0 []::(la++iOp 15 0 0 []::iOp 6 e 0 []::lc)) (0,t) (0,t):=by
 obtain ⟨H1,a1,a2,a3⟩:=ha;obtain ⟨H3,c1,c2,c3⟩:=hc;subst he hd;have hlen:b+(iOp 14 ((b+1+la.length+2:Nat):Int) 0 []::(la++iOp 15 0 0 []::iOp 6 ((b+1+la.length+2+lc.length:Nat):Int) 0 []::lc)).length=b+1+la.length+2+lc.length:=by simp;omega
 refine ⟨glue b (fun _=>(0,t)) (glue (b+1+la.length) H1 (glue (b+1+la.length+1) (fun _=>(0,t)) H3)),by rw [cO (by omega)],?_,?_⟩
 ·rw [hlen,bY (by omega),bY (by omega),bY (by omega),c2]
 ·rw [hlen];refine eO.cons ?_ (eO.app (eO.map rfl a3 (fun q h1 h2=>by rw [bY (by omega),cO h2]) (by omega) (by omega)) (eO.cons ?_ (eO.cons ?_ ?_)))
  ·exact .tr _ t (by omega) (by omega) (by rw [cO (by omega)]) (by rw [bY (by omega),cO (by omega),a1]) (by rw [bY (by omega),bY (by omega),bY (by omega),c1])
  ·exact .don 0 t (by rw [bY (by omega),cO (by omega),a2]) (by rw [bY (by omega),bY (by omega),cO (by omega)])
  ·exact .jump _ 0 t (by omega) (by omega) (by rw [bY (by omega),bY (by omega),cO (by omega)]) (by rw [bY (by omega),bY (by omega),bY (by omega),c2])
  ·rw [show b+1+la.length+1+1=b+1+la.length+2 by omega];exact eO.map rfl c3 (fun q h1 _=>by rw [bY (by omega),bY (by omega),bY (by omega)]) (by omega) (by omega)
end
theorem fQ {α:Type} (f:α->α):∀ (xs:List α) (i:α) (ys:List α),(xs++i::ys).modify xs.length f=xs++f i::ys
 | [],i,ys=>by simp [List.modify_cons]
 | x::xs,i,ys=>by simp [List.modify_cons,fQ f xs i ys]
theorem yx (l:List (List UInt8)) (t:List UInt8) (h:0<=au l t):∃ n:Nat,au l t=n/\n < l.length:=by
 have hm:=(qc l t).1 h;have hl:0 < l.length:=List.length_pos_of_mem hm;refine ⟨(au l t).toNat,by omega,?_⟩;unfold au at h ⊢;cases hq:l.reverse.findIdx? (fun x=>decide (x=t)) with
 | none=>rw [hq] at h;simp at h
 | some i=>simp only;omega
section
variable (ar:List UInt8->Option Int) (cl:List UInt8->Int) {K:Int->Nat->Prop} {sl:Nat}
variable (K sl) in
def TY (g g':Gs) (a z:Nat×Nat):Prop:=∃ l,g'.code=g.code++l/\TYc K sl g.code.length l a z
theorem TY.refl (g:Gs) (a:Nat×Nat):TY K sl g g a a:=⟨[],by simp,.nil _ _⟩
theorem TY.trans {g2:Gs} {a c z:Nat×Nat} (h:TY K sl g g1 a c) (h':TY K sl g1 g2 c z):TY K sl g g2 a z:=by
 obtain ⟨l,e,h⟩:=h;obtain ⟨m,e',h'⟩:=h';rw [e,aH] at h';exact ⟨l++m,by rw [e',e,e8],h.app h'⟩
theorem TY.put {a z:Nat×Nat} (h:∀ H:Hs,H g.code.length=a->H (g.code.length+1)=z->fM K sl H g.code.length (g.code.length+1) g.code.length i):TY K sl g (g.put i) a z:=⟨[i],rfl,.one h⟩
theorem TY.code {g' g'':Gs} {a z:Nat×Nat} (h:TY K sl g g' a z) (e:g''.code=g'.code):TY K sl g g'' a z:=let ⟨l,h1,h2⟩:=h;⟨l,e.trans h1,h2⟩
variable (K sl) in
def GT (t:Tr):Prop:=∀ (g:Gs) (s:Sc),t.wf->g.names=s.names->s.names.length<=s.di->(t.walk ar s).code=0->(t.walk ar s).di<=sl ->
 (exK t->∀ h tr,TY K sl g (t.gen au cl g) (h,tr) (h+1,tr))/\(stK t->∀ tr,TY K sl g (t.gen au cl g) (0,tr) (0,tr))
theorem u3:∀ (l:List Tr) (g:Gs) (s:Sc),(∀ t∈l,GT ar cl K sl t/\exK t)->wfs l->g.names=s.names->s.names.length<=s.di->(walks ar l s).code=0->(walks ar l s).di<=sl->∀ h tr,TY K sl g (cX au cl l g) (h,tr) (h+l.length,tr)
 | [],g,s,_,_,_,_,_,_,h,tr=> .refl _ _
 | t::l,g,s,hg,hw,hn,hm,hc,hs,h,tr=>by
  unfold walks at hc hs;unfold cX;have m1:=fe ar t s;have m2:=iV ar l (t.walk ar s);have h1:=((hg t (by simp)).1 g s hw.1 hn hm (m2.bk hc) (bG m2.up hs)).1 (hg t (by simp)).2 h tr;have h2:=u3 l (t.gen au cl g) (t.walk ar s) (fun u hu=>hg u (aM _ hu)) hw.2 (cE ar au cl t g s hw.1 hn) (m1.len hm) hc hs (h+1) tr;have:=h1.trans h2
  rwa [show h+1+l.length=h+(t::l).length by simp;omega] at this
theorem u0:∀ (l:List Tr) (g:Gs) (s:Sc),(∀ t∈l,(GT ar cl K sl t/\stK t)\/t.kind=20)->wfs l->g.names=s.names->s.names.length<=s.di->(walks ar l s).code=0->(walks ar l s).di<=sl->∀ tr,TY K sl g (cX au cl l g) (0,tr) (0,tr)
 | [],g,s,_,_,_,_,_,_,tr=> .refl _ _
 | t::l,g,s,hg,hw,hn,hm,hc,hs,tr=>by
  unfold walks at hc hs;unfold cX;have m1:=fe ar t s;have m2:=iV ar l (t.walk ar s);have h2:=u0 l (t.gen au cl g) (t.walk ar s) (fun u hu=>hg u (aM _ hu)) hw.2 (cE ar au cl t g s hw.1 hn) (m1.len hm) hc hs tr;rcases hg t (by simp) with hk | hk
  ·exact ((hk.1 g s hw.1 hn hm (m2.bk hc) (bG m2.up hs)).2 hk.2 tr).trans h2
  ·have e:t.gen au cl g=g:=by
    cases t with
    | mk ix kind n text names kids =>
     have hk:kind=20:=hk;unfold Tr.gen;rw [aj hk]
   rw [e] at h2 ⊢;exact h2
theorem zF (h:(s.meet ar 10 t nk k).code=0):arity ar t=some (nk:Int):=by
 unfold Sc.meet at h;rw [ab (by omega),aj rfl] at h;unfold Sc.call at h;have hf:∀ c:Int,c≠0->(s.fail c k).code=0->False:=by
  intro c hc h;unfold Sc.fail at h;split at h
  ·exact hc h
  ·rename_i h1;exact h1 h
 split at h
 ·exact (hf 11 (by decide) h).elim
 ·rename_i m e;split at h
  ·exact (hf 14 (by decide) h).elim
  ·rename_i h1;rw [e];congr 1;omega
theorem BH (HC:∀ (t:List UInt8) (nk:Nat),arity ar t=some (nk:Int)->if 0<=cl t then K (cl t+1) nk else ∃ ks,db t=some ks/\ks.length=nk):∀ (N:Nat) (t:Tr),t.sz<=N->GT ar cl K sl t
 | 0,t,h=>by cases t;simp [Tr.sz] at h
 | N+1,.mk ix kind n text names kids,hN=>by
  intro g s hwf hn hm hc hs;have ih:∀ u∈kids,GT ar cl K sl u:=fun u hu=>BH HC N u (by have:=mo hu;simp only [Tr.sz] at hN;omega)
  obtain ⟨⟨htl,_,hsh⟩,hws⟩:=hwf;have hmt:g.names=(s.meet ar kind text kids.length ix).names:=by rw [iN,hn]
  have mm:=yJ ar kind text kids.length ix s;refine ⟨fun hk h tr=>?_,fun hk tr=>?_⟩
  ·
   have hk1:1<=kind/\kind<=10:=hk;unfold Tr.walk at hc hs;rw [ab (by omega),ab (by omega),ab (by omega)] at hc hs;simp only at hc hs;rw [ab (by omega)] at hc hs;have mk:=iV ar kids (s.meet ar kind text kids.length ix);have hml:=mm.len hm;unfold Tr.gen;rw [ab (by omega)];by_cases h89:kind=8\/kind=9
   ·rw [aj h89];obtain ⟨a,b,rfl,ea,eb⟩:∃ a b,kids=[a,b]/\exK a/\exK b:=by
     rcases hsh with h | h | h | h | h | h | h | h | h | h | h
     all_goals first | exact h.2 | (exfalso;omega)
    simp only [walks] at hc hs mk;generalize hs0:s.meet ar kind text [a,b].length ix=s0 at *;have m1:=fe ar a s0;have m2:=fe ar b (a.walk ar s0);obtain ⟨la,e1,t1⟩:=(ih a (by simp) g s0 hws.1 hmt hml (m2.bk hc) (bG m2.up hs)).1 ea h tr;have n1:=cE ar au cl a g s0 hws.1 hmt;obtain ⟨lb,e2,t2⟩:=(ih b (by simp) ((a.gen au cl g).put (iOp kind 0 0 [])) (a.walk ar s0) hws.2.1 n1 (m1.len hml) hc hs).1 eb h tr;simp only [fE,fI];generalize b.gen au cl ((a.gen au cl g).put (iOp kind 0 0 []))=g2 at e2 ⊢;generalize a.gen au cl g=g1 at e1 e2 t2 ⊢;simp only [Gs.put,e1] at e2 t2;have hp:g1.code.length=(g.code++la).length:=by rw [e1]
    refine ⟨la++iOp kind (g.code.length+la.length+1+lb.length:Nat) 0 []::lb,?_,TYc.both h89 t1 ?_ rfl⟩
    ·simp only [Gs.here,e2];rw [hp,show g.code++la++[iOp kind 0 0 []]++lb=(g.code++la)++iOp kind 0 0 []::lb by simp,fQ];simp [iOp];omega
    ·rw [show (g.code++la++[iOp kind 0 0 []]).length=g.code.length+la.length+1 by simp;omega] at t2;exact t2
   rw [ab h89,ab (by omega),ab (by omega),ab (by omega),ab (by omega)];have nk:=dv ar au cl kids g _ hws hmt;have fin:∀ (h1:Nat),(∀ t∈kids,exK t)->h1=h+kids.length->(∀ g1:Gs,g1.names=(walks ar kids (s.meet ar kind text kids.length ix)).names->TY K sl g1 (g1.emit au cl kind n text kids.length) (h1,tr) (h+1,tr))->TY K sl g ((cX au cl kids g).emit au cl kind n text kids.length) (h,tr) (h+1,tr):=by
    intro h1 hall hh hi;subst hh;exact (u3 ar cl kids g _ (fun t ht=>⟨ih t ht,hall t ht⟩) hws hmt hml hc hs h tr).trans (hi _ nk)
   rcases hsh with ⟨rfl,rfl,hsm⟩ | ⟨hk4,rfl⟩ | ⟨rfl,a,rfl,ea⟩ | ⟨hk7,a,b,rfl,ea,eb⟩ | ⟨rfl,hall⟩ | h | h | h | h | h | h
   ·refine fin h (by simp) rfl fun g1 _=>?_
    exact TY.put fun H h1 h2=> .push _ h tr ⟨hsm,by simp [Val.kindOk,iH],by simp [iH]⟩ h1 h2
   ·refine fin h (by simp) rfl fun g1 hg1=>?_
    rcases hk4 with rfl | rfl | rfl | rfl
    ·exact TY.put fun H h1 h2=> .push _ h tr ⟨by simp [small,dH],by simp [Val.kindOk,dH],htl⟩ h1 h2
    ·refine TY.put fun H h1 h2=> .push _ h tr ⟨?_,by simp [Val.kindOk,iW],by simp [iW]⟩ h1 h2
     simp only [iW,small];split<;>omega
    ·exact TY.put fun H h1 h2=> .push _ h tr ⟨by simp [small,bO],by simp [Val.kindOk,bO],by simp [bO]⟩ h1 h2
    ·have hsl:=oR (.inl rfl) (mk.bk hc);simp only [walks] at hg1 hs;have:g1.names=s.names:=by rw [hg1,iN]
     obtain ⟨a,ha1,ha2⟩:=yx s.names text hsl;have e:g1.emit au cl 5 n text ([]:List Tr).length=g1.put (iOp 2 a 0 []):=by
      unfold Gs.emit;rw [ab (by decide),ab (by decide),ab (by decide),ab (by decide),aj rfl,this,ha1]
     rw [e];have hle:s.names.length<=(s.meet ar 5 text ([]:List Tr).length ix).di:=by have:=mm.up;omega
     exact TY.put fun H h1 h2=> .load a h tr (by omega) h1 h2
   ·refine fin (h+1) (by simpa using ea) (by simp) fun g1 _=>?_
    exact TY.put fun H h1 h2=> .un text h tr h1 h2
   ·rcases hk7 with rfl | h8 | h9
    ·refine fin (h+2) (by simp;exact ⟨ea,eb⟩) (by simp) fun g1 _=>?_
     exact TY.put fun H h1 h2=> .bin text h tr h1 h2
    ·exact absurd (.inl h8) h89
    ·exact absurd (.inr h9) h89
   ·refine fin (h+kids.length) hall rfl fun g1 _=>?_
    have ha:=HC text kids.length (zF ar (mk.bk hc));have e:g1.emit au cl 10 n text kids.length=g1.put (if 0<=cl text then iOp 10 (cl text+1) kids.length [] else iOp 11 kids.length 0 text):=by
     unfold Gs.emit;rw [ab (by decide),ab (by decide),ab (by decide),ab (by decide),ab (by decide),ab (by decide),ab (by decide),aj rfl]
    rw [e];by_cases hcl:0<=cl text
    ·rw [aj hcl] at ha ⊢;exact TY.put fun H h1 h2=> .call _ _ h tr ha h1 h2
    ·rw [ab hcl] at ha ⊢;obtain ⟨ks,k1,k2⟩:=ha;exact TY.put fun H h1 h2=> .bi _ ks _ h tr k1 k2 h1 h2
   all_goals (exfalso;omega)
  ·
   have hk1:11<=kind/\kind<=19:=hk;unfold Tr.walk at hc hs;unfold Tr.gen;rw [ab (by omega)] at hc hs ⊢;rw [ab (by omega)];by_cases h17:kind=17
   ·rw [aj h17] at hc hs;rw [ab (by omega),ab (by omega),aj h17];obtain ⟨htx,a,b,rfl,ka,kb⟩:text≠[]/\∃ a b,kids=[a,b]/\blK a/\blK b:=by
     rcases hsh with h | h | h | h | h | h | h | h | h | h | h
     all_goals first | exact h.2 | (exfalso;omega)
    simp only [dT,dV] at hc hs;have m1:=fe ar a s;have mb:=om text ix (a.walk ar s);have m2:=fe ar b ((a.walk ar s).cq text ix);have hc1:(b.walk ar ((a.walk ar s).cq text ix)).code=0:=hc;have hs1:(b.walk ar ((a.walk ar s).cq text ix)).di<=sl:=hs;have stk:∀ {u:Tr},blK u->stK u:=fun {u} hu=>by have:u.kind=18:=hu;unfold stK;omega
    obtain ⟨la,e1,t1⟩:=(ih a (by simp) (g.put (iOp 14 0 0 [])) s hws.1 hn hm (mb.bk (m2.bk hc1)) (bG (bG mb.up m2.up) hs1)).2 (stk ka) (tr+1);have n1:=cE ar au cl a (g.put (iOp 14 0 0 [])) s hws.1 hn;have l1:=m1.len hm;have lb1:=mb.len l1;simp only [gK,iR];generalize a.gen au cl (g.put (iOp 14 0 0 []))=g1 at e1 n1 ⊢;simp only [Gs.put] at e1 t1;have ec:(((g1.put (iOp 15 0 0 [])).put (iOp 6 0 0 [])).here g.code.length).code=g.code++iOp 14 (g.code.length+1+la.length+2:Nat) 0 []::(la++[iOp 15 0 0 [],iOp 6 0 0 []]):=by
     simp only [Gs.here,Gs.put,e1];rw [show g.code++[iOp 14 0 0 []]++la++[iOp 15 0 0 []]++[iOp 6 0 0 []]=g.code++iOp 14 0 0 []::(la++[iOp 15 0 0 [],iOp 6 0 0 []]) by simp,fQ];simp [iOp];omega
    generalize hg2:((g1.put (iOp 15 0 0 [])).put (iOp 6 0 0 [])).here g.code.length=g2 at ec ⊢;have n2:g2.names=(a.walk ar s).names:=by rw [<- hg2];exact n1
    have t3:TY K sl g2 (b.gen au cl (g2.store text)) (1,tr) (0,tr):=by
     refine TY.trans (c:=(0,tr)) ?_ ((ih b (by simp) (g2.store text) ((a.walk ar s).cq text ix) hws.2.1 (by rw [bZ,Gs.store,n2]) lb1 hc1 hs1).2 (stk kb) tr);have hlt:g2.names.length < sl:=by
      rw [bZ,aH,aU] at lb1;have:=m2.up;rw [n2];omega
     exact TY.code (TY.put (i:=iOp 3 g2.names.length 0 []) fun H h1 h2=> .store _ 0 tr hlt h1 h2) rfl
    obtain ⟨lc,e3,t3⟩:=t3;generalize b.gen au cl (g2.store text)=g3 at e3 ⊢;have hq:(g1.put (iOp 15 0 0 [])).code.length=g.code.length+1+la.length+1:=by simp [Gs.put,e1];omega
    rw [hq];refine ⟨iOp 14 (g.code.length+1+la.length+2:Nat) 0 []::(la++iOp 15 0 0 []::iOp 6 (g.code.length+1+la.length+2+lc.length:Nat) 0 []::lc),?_,TYc.try (by simpa using t1) ?_ rfl rfl⟩
    ·simp only [Gs.cut,Gs.here,e3,ec];have hxs:(g.code++iOp 14 (g.code.length+1+la.length+2:Nat) 0 []::(la++[iOp 15 0 0 []])).length=g.code.length+1+la.length+1:=by simp;omega
     rw [<- hxs,show g.code++iOp 14 ((g.code.length+1+la.length+2:Nat):Int) 0 []::(la++[iOp 15 0 0 [],iOp 6 0 0 []])++lc=(g.code++iOp 14 ((g.code.length+1+la.length+2:Nat):Int) 0 []::(la++[iOp 15 0 0 []]))++iOp 6 0 0 []::lc by simp,fQ];simp [iOp];omega
    ·rw [ec,show (g.code++iOp 14 ((g.code.length+1+la.length+2:Nat):Int) 0 []::(la++[iOp 15 0 0 [],iOp 6 0 0 []])).length=g.code.length+1+la.length+2 by simp;omega] at t3;exact t3
   rw [ab h17] at hc hs;by_cases h18:kind=18
   ·rw [aj h18] at hc hs;rw [ab (by omega),ab (by omega),ab h17,aj h18];have hall:∀ t∈kids,stK t:=by
     rcases hsh with h | h | h | h | h | h | h | h | h | h | h
     all_goals first | exact h.2 | (exfalso;omega)
    exact TY.code (u0 ar cl kids g {s with own:=s.names.length} (fun t ht=> .inl ⟨ih t ht,hall t ht⟩) hws hn hm hc hs tr) rfl
   rw [ab h18] at hc hs;simp only at hc hs;generalize hs0:s.meet ar kind text kids.length ix=s0 at *;have hml:=mm.len hm;by_cases h13:kind=13
   ·rw [ab (by omega)] at hc hs;rw [aj h13];obtain ⟨a,b,ea,kb,hks⟩:∃ a b,exK a/\blK b/\(kids=[a,b]\/∃ c,kids=[a,b,c]/\blK c):=by
     rcases hsh with h | h | h | h | h | h | h | h | h | h | h
     all_goals first | exact h.2 | (exfalso;omega)
    have stk:∀ {u:Tr},blK u->stK u:=fun {u} hu=>by have:u.kind=18:=hu;unfold stK;omega
    rcases hks with rfl | ⟨c,rfl,kc⟩
    ·simp only [walks] at hc hs;have m1:=fe ar a s0;have m2:=fe ar b (a.walk ar s0);obtain ⟨la,e1,t1⟩:=(ih a (by simp) g s0 hws.1 hmt hml (m2.bk hc) (bG m2.up hs)).1 ea 0 tr;have n1:=cE ar au cl a g s0 hws.1 hmt;obtain ⟨lb,e2,t2⟩:=(ih b (by simp) ((a.gen au cl g).put (iOp 7 0 0 [])) (a.walk ar s0) hws.2.1 n1 (m1.len hml) hc hs).2 (stk kb) tr;simp only [hZ,iy,iw];generalize b.gen au cl ((a.gen au cl g).put (iOp 7 0 0 []))=g2 at e2 ⊢;generalize a.gen au cl g=g1 at e1 e2 t2 ⊢;simp only [Gs.put,e1] at e2 t2;have hp:g1.code.length=(g.code++la).length:=by rw [e1]
     refine ⟨la++iOp 7 (g.code.length+la.length+1+lb.length:Nat) 0 []::lb,?_,TYc.if2 t1 ?_ rfl⟩
     ·simp only [Gs.here,e2];rw [hp,show g.code++la++[iOp 7 0 0 []]++lb=(g.code++la)++iOp 7 0 0 []::lb by simp,fQ];simp [iOp];omega
     ·rw [show (g.code++la++[iOp 7 0 0 []]).length=g.code.length+la.length+1 by simp;omega] at t2;exact t2
    ·simp only [walks] at hc hs;have m1:=fe ar a s0;have m2:=fe ar b (a.walk ar s0);have m3:=fe ar c (b.walk ar (a.walk ar s0));obtain ⟨la,e1,t1⟩:=(ih a (by simp) g s0 hws.1 hmt hml (m2.bk (m3.bk hc)) (bG (bG m2.up m3.up) hs)).1 ea 0 tr;have n1:=cE ar au cl a g s0 hws.1 hmt;obtain ⟨lb,e2,t2⟩:=(ih b (by simp) ((a.gen au cl g).put (iOp 7 0 0 [])) (a.walk ar s0) hws.2.1 n1 (m1.len hml) (m3.bk hc) (bG m3.up hs)).2 (stk kb) tr;have n2:=cE ar au cl b ((a.gen au cl g).put (iOp 7 0 0 [])) (a.walk ar s0) hws.2.1 n1;simp only [hZ,iy,iw];generalize b.gen au cl ((a.gen au cl g).put (iOp 7 0 0 []))=g2 at e2 n2 ⊢;generalize a.gen au cl g=g1 at e1 e2 t2 ⊢;simp only [Gs.put,e1] at e2 t2;have hp:g1.code.length=(g.code++la).length:=by rw [e1]
     have ec:((g2.put (iOp 6 0 0 [])).here g1.code.length).code=g.code++la++iOp 7 (g.code.length+la.length+1+lb.length+1:Nat) 0 []::(lb++[iOp 6 0 0 []]):=by
      simp only [Gs.here,Gs.put,e2];rw [hp,show g.code++la++[iOp 7 0 0 []]++lb++[iOp 6 0 0 []]=(g.code++la)++iOp 7 0 0 []::(lb++[iOp 6 0 0 []]) by simp,fQ];simp [iOp];omega
     generalize hg3:(g2.put (iOp 6 0 0 [])).here g1.code.length=g3 at ec ⊢;have n3:g3.names=(b.walk ar (a.walk ar s0)).names:=by rw [<- hg3];exact n2
     obtain ⟨lc,e3,t3⟩:=(ih c (by simp) g3 (b.walk ar (a.walk ar s0)) hws.2.2.1 n3 (m2.len (m1.len hml)) hc hs).2 (stk kc) tr;generalize c.gen au cl g3=g4 at e3 ⊢;have hq:g2.code.length=g.code.length+la.length+1+lb.length:=by rw [e2];simp;omega
     rw [hq];refine ⟨la++iOp 7 (g.code.length+la.length+1+lb.length+1:Nat) 0 []::(lb++iOp 6 (g.code.length+la.length+1+lb.length+1+lc.length:Nat) 0 []::lc),?_,TYc.if3 t1 ?_ ?_ rfl rfl⟩
     ·simp only [Gs.here,e3,ec];have hxs:(g.code++la++iOp 7 (g.code.length+la.length+1+lb.length+1:Nat) 0 []::lb).length=g.code.length+la.length+1+lb.length:=by simp;omega
      rw [show g.code++la++iOp 7 ((g.code.length+la.length+1+lb.length+1:Nat):Int) 0 []::(lb++[iOp 6 0 0 []])++lc=(g.code++la++iOp 7 ((g.code.length+la.length+1+lb.length+1:Nat):Int) 0 []::lb)++iOp 6 0 0 []::lc by simp];have key:=fQ (fun i:Ins=>(⟨i.op,((g.code++la++iOp 7 ((g.code.length+la.length+1+lb.length+1:Nat):Int) 0 []::lb)++iOp 6 0 0 []::lc).length,i.b,i.text,i.val⟩:Ins)) (g.code++la++iOp 7 (g.code.length+la.length+1+lb.length+1:Nat) 0 []::lb) (iOp 6 0 0 []) lc;rw [hxs] at key;rw [key];simp [iOp];omega
     ·rw [show (g.code++la++[iOp 7 0 0 []]).length=g.code.length+la.length+1 by simp;omega] at t2;exact t2
     ·rw [ec,show (g.code++la++iOp 7 ((g.code.length+la.length+1+lb.length+1:Nat):Int) 0 []::(lb++[iOp 6 0 0 []])).length=g.code.length+la.length+1+lb.length+1 by simp;omega] at t3;exact t3
   rw [ab h13];by_cases h14:kind=14
   ·rw [ab (by omega)] at hc hs;rw [aj h14];obtain ⟨a,b,rfl,ea,kb⟩:∃ a b,kids=[a,b]/\exK a/\blK b:=by
     rcases hsh with h | h | h | h | h | h | h | h | h | h | h
     all_goals first | exact h.2 | (exfalso;omega)
    have stk:∀ {u:Tr},blK u->stK u:=fun {u} hu=>by have:u.kind=18:=hu;unfold stK;omega
    simp only [walks] at hc hs;have m1:=fe ar a s0;have m2:=fe ar b (a.walk ar s0);obtain ⟨la,e1,t1⟩:=(ih a (by simp) g s0 hws.1 hmt hml (m2.bk hc) (bG m2.up hs)).1 ea 0 tr;have n1:=cE ar au cl a g s0 hws.1 hmt;obtain ⟨lb,e2,t2⟩:=(ih b (by simp) ((a.gen au cl g).put (iOp 7 0 0 [])) (a.walk ar s0) hws.2.1 n1 (m1.len hml) hc hs).2 (stk kb) tr;simp only [fD,fR];generalize b.gen au cl ((a.gen au cl g).put (iOp 7 0 0 []))=g2 at e2 ⊢;generalize a.gen au cl g=g1 at e1 e2 t2 ⊢;simp only [Gs.put,e1] at e2 t2;have hp:g1.code.length=(g.code++la).length:=by rw [e1]
    refine ⟨la++iOp 7 (g.code.length+la.length+1+lb.length+1:Nat) 0 []::(lb++[iOp 6 g.code.length 0 []]),?_,TYc.loop t1 ?_ rfl⟩
    ·simp only [Gs.here,Gs.put,e2];rw [hp,show g.code++la++[iOp 7 0 0 []]++lb++[iOp 6 g.code.length 0 []]=(g.code++la)++iOp 7 0 0 []::(lb++[iOp 6 g.code.length 0 []]) by simp,fQ];simp [iOp];omega
    ·rw [show (g.code++la++[iOp 7 0 0 []]).length=g.code.length+la.length+1 by simp;omega] at t2;exact t2
   rw [ab h14,ab h17,ab h18];obtain ⟨a,rfl,ea⟩:∃ a,kids=[a]/\exK a:=by
    rcases hsh with h | h | h | h | h | h | h | h | h | h | h
    all_goals first | exact h.2 | (exfalso;omega)
   have hcs:(walks ar [a] s0).code=0/\(walks ar [a] s0).di<=sl:=by
    split at hc
    ·rename_i h11;rw [aj h11] at hs;have md:=nu text ix (walks ar [a] s0);exact ⟨md.bk hc,bG md.up hs⟩
    ·rename_i h11;rw [ab h11] at hs;exact ⟨hc,hs⟩
   have mk:=iV ar [a] s0;have nk:=dv ar au cl [a] g s0 hws hmt;refine TY.trans (u3 ar cl [a] g s0 (by simpa using ⟨ih a (by simp),ea⟩) hws hmt hml hcs.1 hcs.2 0 tr) ?_;generalize cX au cl [a] g=g1 at nk ⊢;have hlm:=mk.len hml;rcases (show kind=11\/kind=12\/kind=15\/kind=16\/kind=19 by
    rcases hsh with h | h | h | h | h | h | h | h | h | h | h
    all_goals first | exact h.1 | (exfalso;omega)) with rfl | rfl | rfl | rfl | rfl
   ·have e:g1.emit au cl 11 n text [a].length=g1.store text:=by
     unfold Gs.emit;rw [ab (by decide),ab (by decide),ab (by decide),ab (by decide),ab (by decide),ab (by decide),ab (by decide),ab (by decide),aj rfl]
    rw [e];have hlt:g1.names.length < sl:=by
     rw [aj rfl] at hs;have hl1:(((walks ar [a] s0).declare text ix)).names.length<=((walks ar [a] s0).declare text ix).di:=(nu text ix _).len hlm;have:((walks ar [a] s0).declare text ix).names.length=(walks ar [a] s0).names.length+1:=by
      unfold Sc.declare;rw [bZ];split<;>simp [eR]
     rw [nk];omega
    exact TY.code (TY.put (i:=iOp 3 g1.names.length 0 []) fun H h1 h2=> .store _ 0 tr hlt h1 h2) rfl
   ·have hsl:=oR (s:=s) (ar:=ar) (k:=ix) (n:=[a].length) (.inr rfl) (by rw [hs0];exact mk.bk hcs.1);have hmem:text∈g1.names:=by
     rw [nk];obtain ⟨_,l,h2,_⟩:=b5 ar [a] s0;rw [h2];refine bW _ ?_;rw [<- hs0,iN];exact (qc _ _).1 hsl
    obtain ⟨q,hq1,hq2⟩:=yx g1.names text ((qc _ _).2 hmem);have e:g1.emit au cl 12 n text [a].length=g1.put (iOp 3 q 0 []):=by
     unfold Gs.emit;rw [ab (by decide),ab (by decide),ab (by decide),ab (by decide),ab (by decide),ab (by decide),ab (by decide),ab (by decide),ab (by decide),aj rfl,hq1]
    rw [e];have:g1.names.length<=(walks ar [a] s0).di:=by rw [nk];exact hlm
    exact TY.put fun H h1 h2=> .store q 0 tr (by omega) h1 h2
   ·exact TY.put (i:=iOp 12 0 0 []) fun H h1 h2=> .ret 0 tr h1
   ·exact TY.put (i:=iOp 13 0 0 []) fun H h1 h2=> .thr 0 tr h1
   ·exact TY.put (i:=iOp 16 0 0 []) fun H h1 h2=> .pop 0 tr h1 h2
end
structure Cc (K:Int->Nat->Prop) (sl:Nat) (H:Hs) (code:List Ins):Prop where
 zero:H 0=(0,0)
 pos:0 < code.length
 ins:∀ (pc:Nat) i,code[pc]?=some i->fM K sl H 0 (code.length - 1) pc i/\(pc+1 < code.length\/i.op=12)
def KOk (P:List Fc) (j:Int) (nk:Nat):Prop:=∃ f,0<=j/\P[j.toNat]?=some f/\(nk:Int)<=f.aL
structure DF (P:List Fc) (f:Fc) (sl:Nat) (H:Hs):Prop where
 aL:f.aL=sl
 few:sl<=20
 sK:Cc (KOk P) sl H f.code
structure mi (P:List Fc):Prop where
 fns:∀ f∈P,∃ sl H,DF P f sl H
 root:∃ f,P[0]?=some f/\1<=f.aL
 few:P.length<=1073741824
theorem BM {K:Int->Nat->Prop} {sl:Nat} (h0:g.code=[]) (h:TY K sl g g1 (0,0) (0,0)):∃ H,Cc K sl H ((g1.put (fN bO)).put (iOp 12 0 0 [])).code:=by
 obtain ⟨l,e,H,a1,a2,a3⟩:=h;rw [h0] at e a1 a2 a3;simp only [c6,aW,dG] at e a1 a2 a3;have hc:((g1.put (fN bO)).put (iOp 12 0 0 [])).code=l++[fN bO,iOp 12 0 0 []]:=by simp [Gs.put,e]
 rw [hc];have hlen:(l++[fN bO,iOp 12 0 0 []]).length=l.length+2:=by simp
 refine ⟨glue l.length H (fun _=>(1,0)),by rw [cO (by omega),a1],by omega,fun pc i hi=>?_⟩;rw [hlen];by_cases hlt:pc < l.length
 ·rw [bU hlt] at hi;refine ⟨?_,.inl (by omega)⟩;have:=eO.map (H':=glue l.length H (fun _=>(1,0))) (lo:=0) (hi:=l.length+2 - 1) (by omega) a3 (fun q _ h2=>cO h2) (al _) (by omega) pc i hi
  rwa [aW] at this
 ·rw [cx (by omega)] at hi;have hq:pc - l.length=0\/pc - l.length=1:=by
   have:=(af.1 hi).1;simp at this;omega
  rcases hq with hq | hq
  ·rw [hq] at hi;cases hi;have:pc=l.length:=by omega
   subst this;exact ⟨.push bO 0 0 ⟨by simp [small,bO],by simp [Val.kindOk,bO],by simp [bO]⟩ (by rw [cO (al _),a2]) (by rw [bY (by omega)]),.inl (by omega)⟩
  ·rw [hq] at hi;cases hi;exact ⟨.ret 0 0 (by rw [bY (by omega)]),.inr rfl⟩
theorem tz (x:Int):∀ (l:List Int) (k:Nat),x∈l->∃ i:Nat,posOf x l k=((k+i:Nat):Int)/\l[i]?=some x
 | [],k,h=>by cases h
 | y::l,k,h=>by
  unfold posOf;by_cases e:x=y
  ·exact ⟨0,by rw [aj e];rfl,by simp [e]⟩
  ·rw [ab e];obtain ⟨i,h1,h2⟩:=tz x l (k+1) ((aQ.1 h).resolve_left e);exact ⟨i+1,by rw [h1];congr 1;omega,by simpa using h2⟩
theorem lN (ar:List UInt8->Option Int) (b:Bool) (ix:Int) (names:List (List UInt8)) (kids:List Tr) (hc:(c7 ar b ix names kids Sc.zero).code=0) :
  (bP b names).length<=(c7 ar b ix names kids Sc.zero).di/\(c7 ar b ix names kids Sc.zero).di<=20/\(Sc.dj ix [] (bP b names) Sc.zero.kn).names=bP b names/\(Sc.dj ix [] (bP b names) Sc.zero.kn).names.length<=(Sc.dj ix [] (bP b names) Sc.zero.kn).di:=by
 have m1:=tX ix [] (bP b names) Sc.zero.kn;have m2:=iV ar kids (Sc.dj ix [] (bP b names) Sc.zero.kn);have hn:(Sc.dj ix [] (bP b names) Sc.zero.kn).names=bP b names:=by rw [ln];rfl
 have hl:=m1.len (by simp [Sc.kn,Sc.zero]);refine ⟨?_,(m1.trans m2).few hc (by simp [Sc.kn,Sc.zero]),hn,hl⟩;have:=m2.up;rw [hn] at hl;exact bG hl this
theorem DD {root:Int} (h:DR ns root r) (hc:Clean root r):mi (po root r):=by
 obtain ⟨⟨n,ts,kids,rfl,h0,hnd,hs,hw,hb,hd⟩,hkids⟩:=h;have hfn:=vR hnd hs hw;have hkids:∀ u∈ts,stK u\/u.kind=20:=hkids;have hc:=hc.fns;rw [show (Tr.mk root 18 n [] [] ts).kids=ts from rfl] at hc;have hP:po root (.mk root 18 n [] [] ts)=(Tr.mk root 18 n [] [] ts::aX ts).map fun t=>fcS ts ((aX ts).map Tr.ix) root t.ix t.text t.names t.kids:=rfl
 generalize hPe:po root (.mk root 18 n [] [] ts)=P at hP ⊢;have HC:∀ (t:List UInt8) (nk:Nat),arity (aA ts) t=some (nk:Int)->if 0<=clS ts ((aX ts).map Tr.ix) t then KOk P (clS ts ((aX ts).map Tr.ix) t+1) nk else ∃ ks,db t=some ks/\ks.length=nk:=by
  intro t nk ha;unfold arity aA at ha;cases hq:(aX ts).find? (fun f=>decide (f.text=t)) with
  | none =>
   rw [hq] at ha;simp only [Option.map_none] at ha;have hcl:clS ts ((aX ts).map Tr.ix) t= -1:=by
    unfold clS iA;rw [hq];rfl
   rw [hcl,ab (by omega)];cases hk:db t with
   | none=>rw [hk] at ha;cases ha
   | some ks =>
    rw [hk] at ha;simp only [aS,aw] at ha;exact ⟨ks,rfl,by omega⟩
  | some g =>
   rw [hq] at ha;simp only [aS,aw] at ha;have hm:=List.mem_of_find?_eq_some hq;obtain ⟨g1,g2,g3,g4⟩:=hfn g hm;have hcl:clS ts ((aX ts).map Tr.ix) t=posOf g.ix ((aX ts).map Tr.ix) 0:=by
    unfold clS iA;rw [hq];simp only;rw [ab (by omega)]
   rw [hcl];obtain ⟨i,p1,p2⟩:=tz g.ix ((aX ts).map Tr.ix) 0 (List.mem_map.2 ⟨g,hm,rfl⟩);rw [aW] at p1;rw [p1,aj (by omega)];obtain ⟨j,hj⟩:=List.mem_iff_getElem?.1 hm;have hil:i < ((aX ts).map Tr.ix).length:=(af.1 p2).1;have hij:i=j:=(List.getElem?_inj hil hd).1 (by rw [p2,bf,hj];rfl);subst hij;have hcg:=hc g (aM _ hm);refine ⟨fcS ts ((aX ts).map Tr.ix) root g.ix g.text g.names g.kids,by omega,?_,?_⟩
   ·rw [hP,show ((i:Int)+1).toNat=i+1 by omega,cT,List.getElem?_cons_succ,bf,hj];rfl
   ·have:=(lN _ _ _ _ _ hcg).1;have hne:decide (g.ix=root)=false:=by simpa using g1
    unfold fcS;simp only;rw [hne] at this ⊢;have e:(bP false g.names).length=g.names.length:=rfl;omega
 refine ⟨fun f hf=>?_,?_,?_⟩
 ·rw [hP] at hf;obtain ⟨g,hg,rfl⟩:=List.mem_map.1 hf;have hcg:=hc g hg;obtain ⟨q1,q2,q3,q4⟩:=lN _ _ _ _ _ hcg;have hwk:wfs g.kids/\∀ u∈g.kids,stK u\/u.kind=20:=by
   rcases aQ.1 hg with rfl | hg
   ·exact ⟨hw,hkids⟩
   ·refine ⟨(hfn g hg).2.2.1,?_⟩;have h4:=(hfn g hg).2.2.2;have hwf:=ep hw g (List.mem_filter.1 hg).1;cases g with
    | mk ix kind m txt nms ks =>
     have h4:kind=20:=h4;obtain ⟨⟨_,_,hsh⟩,_⟩:=hwf;subst h4;simp at hsh;obtain ⟨_,b,hb1,hb2⟩:=hsh;intro u hu;have hu:u∈ks:=hu;rw [hb1,bA] at hu;subst hu;have:u.kind=18:=hb2;left;unfold stK;omega
  have hty:=u0 (K:=KOk P) (sl:=(c7 (aA ts) (decide (g.ix=root)) g.ix g.names g.kids Sc.zero).di) (aA ts) (clS ts ((aX ts).map Tr.ix)) g.kids ⟨bP (decide (g.ix=root)) g.names,[]⟩ (Sc.dj g.ix [] (bP (decide (g.ix=root)) g.names) Sc.zero.kn)
   (fun u hu=>(hwk.2 u hu).imp (fun h=>⟨BH _ _ HC u.sz u (al _),h⟩) id) hwk.1 q3.symm q4 hcg (al _) 0
  obtain ⟨H,hH⟩:=BM rfl hty;exact ⟨_,H,rfl,q2,hH⟩
 ·refine ⟨_,by rw [hP];rfl,?_⟩;have hcg:=hc (Tr.mk root 18 n [] [] ts) (by simp);obtain ⟨q1,_⟩:=lN _ _ _ _ _ hcg;have hne:decide ((Tr.mk root 18 n [] [] ts).ix=root)=true:=by simp [Tr.ix]
  unfold fcS;simp only;rw [hne] at q1 ⊢;have e:(bP true (Tr.mk root 18 n [] [] ts).names).length=1:=rfl;omega
 ·rw [hP,aJ,aT];have:=fC ts;have:(aX ts).length<=ts.length:=List.length_filter_le _ _;omega
end Go.Proofs.YtggoiofammbchaaGreatDoor.Loc
