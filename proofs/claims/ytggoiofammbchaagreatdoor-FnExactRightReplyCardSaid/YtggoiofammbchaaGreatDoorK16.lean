/- Part 16 of a chain that ends in the statement named in GOCLAIM.json; no condition. -/
import Derived.Test.YtggoiofammbchaaGreatDoorK15
set_option maxRecDepth 100000
set_option maxHeartbeats 2000000
set_option linter.all false
namespace Go.Proofs.YtggoiofammbchaaGreatDoor.Loc
open Go
variable {A B a b:Nat} {es:List (D×Int)} {k:Int} {kids:List Int} {ns:List Nd} {s s':Sc} {ts:List Tr}
structure pr (C:Ctx):Prop where
 clone:∀ l:List (List UInt8),l.length<=1073741824->Fn C 209 [.d (strs l)] [] (.d (strs l)) []
section
variable {C:Ctx} (hP:C.P=Tryz.prog)
include hP
omit hP in
theorem fC:∀ l:List Tr,l.length<=szs l
 | []=>by simp
 | t::l=>by
  have:=fC l;have:1<=t.sz:=by cases t;simp [Tr.sz]
  simp [szs];omega
def yt:List UInt8:=[112,97,116,104]
def bP (root:Bool) (names:List (List UInt8)):List (List UInt8):=if root then [yt] else names
theorem HR (hS:pr C) (ns:List Nd) (root k:Int) (nd:Nd) (h0:0<=k) (hnd:ns[k.toNat]?=some nd) (hnn:nd.names.length<=1073741824):Fn C 145 [.ptr 0 0 0,.d (.int .i64 k)] [bz ns root] (.d (strs (bP (decide (k=root)) nd.names))) [some (bz ns root)]:=by
 refine eN hP c145 ⟨gP (fun h=>⟨?_⟩) fun h=>⟨?_⟩⟩
 ·refine ah.aD (os':=[some (bz ns root)]) [0] trivial rfl rfl ⟨rfl,trivial⟩ ?_;(conv=>whnf);rw [h];exact ⟨rfl,rfl⟩
 ·refine gD (bM hnd) ⟨gO (hS.clone nd.names hnn) ⟨?_⟩⟩ h0;refine ah.aD (os':=[some (bz ns root)]) [0] trivial rfl rfl ⟨rfl,trivial⟩ ?_;(conv=>whnf);rw [h];exact ⟨rfl,rfl⟩
def aX (ts:List Tr):List Tr:=ts.filter fun t=>t.kind=20
def de (ts:List Tr):List (List D):=ts.map fun t=>[.int .i64 t.ix]
theorem EB (ns:List Nd) (root:Int) (nd:Nd) (h0:0<=root) (hnd:ns[root.toNat]?=some nd) (ts:List Tr) (hs:dx ns ts nd.kids) (hb:ts.length < 1073741824):Fn C 144 [.ptr 0 0 0] [bz ns root] (.arr 1 0 (aX ts).length) [some (bz ns root),some (.da 1 (de (aX ts)))]:=by
 refine eN hP Dy ⟨gD (bM hnd) ⟨?_⟩ h0⟩;rw [show (List.map (fun k=>[D.int IntKind.i64 k]) nd.kids).length=nd.kids.length by simp];have htl:=eP hs;refine gW (fun j:Nat=>ts.length - j) (fun j=>j<=ts.length) (fun j=>[(0,.ptr 0 0 0),(2,.d .nil),(3,.arr 1 0 (aX (ts.take j)).length),(17,.d (bJ nd.kids)),(18,.d (.int .i64 (nd.kids.length:Nat))),(19,.d (.int .i64 (j:Nat)))]) (fun j=>[(0,bz ns root),(1,.da 1 (de (aX (ts.take j))))]) 2 ?_ 0 (by omega);refine fun j hj ih=>⟨?_⟩
 refine gP (fun h=>⟨?_⟩) fun h=>⟨?_⟩
 ·have hlt:j < ts.length:=by rw [htl];simpa using h
  obtain ⟨k,hk1,hk2⟩:=eX hs (aa hlt);refine ah.exD (row:=[.int .i64 k]) (by simp [hk1]) (by omega) rfl ?_;refine gG ⟨?_⟩;generalize ht:ts[j]=t at hk2;have htk:ts.take (j+1)=ts.take j++[t]:=by rw [aG hlt,ht]
  match t,hk2 with
  | .mk ix kind n text names kids,hk2 =>
  obtain ⟨hki,kids',k0,hnk,_⟩:=hk2;refine gD (bM hnk) ⟨?_⟩ k0;have e1:aX (ts.take (j+1))=if kind=20 then aX (ts.take j)++[.mk ix kind n text names kids] else aX (ts.take j):=by
   rw [htk,aX,aX,List.filter_append];by_cases h:kind=20<;>simp [h,Tr.kind]
  refine gP (fun h=>⟨?_⟩) fun h=>⟨?_⟩
  ·rw [aj (ai h)] at e1;have e2:(aX (ts.take j)).length<=j:=bG (List.length_filter_le _ _) (by simp;omega);have e3:(aX (ts.take j)).length+(Sh.ds [[D.int IntKind.i64 k]] [[D.int IntKind.i64 k]].length).len=(aX (ts.take (j+1))).length:=by
    rw [e1,aH];rfl
   refine gN ?_ ⟨?_⟩
   ·rw [e3,e1];simp;omega
   rw [aC (by omega),e3];refine (ih (j+1) hlt (by omega)).to rfl ?_;rw [e1,hki,aq,ae (by simp [de])];simp only [de,fa];rfl
  ·rw [aC (by omega)];rw [ab (ao h)] at e1;have:=(ih (j+1) hlt (by omega))
   rw [e1] at this;exact this.to rfl rfl
 ·have hge:ts.length<=j:=by
   have:¬ (j < nd.kids.length):=by simpa using h
   omega
  rw [ae hge];exact lW ⟨⟨rfl,rfl,trivial⟩,rfl⟩
def kN (ts:List Tr):List (List D):=ts.map fun t=>[.str t.text]
omit hP in
theorem jw {ns:List Nd}:∀ {ts:List Tr} {ks:List Int},dx ns ts ks->∀ t∈aX ts,Sub ns t t.ix
 | [],[],_,t,ht=>by simp [aX] at ht
 | a::ts,k::ks,h,t,ht=>by
  have:=(List.mem_filter.1 ht).1;rcases aQ.1 this with rfl | hm
  ·cases t;exact h.1.1▸h.1
  ·exact jw h.2 t (List.mem_filter.2 ⟨hm,(List.mem_filter.1 ht).2⟩)
 | [],k::ks,h,_,_=>h.elim
 | t::ts,[],h,_,_=>h.elim
theorem HS (ns:List Nd) (root:Int) (nd:Nd) (h0:0<=root) (hnd:ns[root.toNat]?=some nd) (ts:List Tr) (hs:dx ns ts nd.kids) (hb:ts.length < 1073741824):Fn C 143 [.ptr 0 0 0] [bz ns root] (.arr 1 0 (aX ts).length) [some (bz ns root),some (.da 1 (kN (aX ts)))]:=by
 have hfs:=jw hs;have hfl:(aX ts).length<=ts.length:=List.length_filter_le _ _;refine eN hP c143 ⟨?_⟩;refine ah.call [0] (EB hP ns root nd h0 hnd ts hs hb) rfl rfl rfl ?_;generalize aX ts=fs at hfs hfl ⊢;refine gG ⟨gW (fun j:Nat=>fs.length - j) (fun j=>j<=fs.length) (fun j=>[(0,.ptr 0 0 0),(2,.d .nil),(3,.arr 1 0 j),(8,.arr 2 0 fs.length),(9,.d (.int .i64 (fs.length:Nat))),(10,.d (.int .i64 (j:Nat)))]) (fun j=>[(0,bz ns root),(1,.da 1 (kN (fs.take j))),(2,.da 1 (de fs))]) 3 ?_ 0 (by omega)⟩;refine fun j hj ih=>⟨?_⟩
 refine gP (fun h=>⟨?_⟩) fun h=>⟨?_⟩
 ·have hlt:j < fs.length:=by simpa using h
  have hsub:=hfs fs[j] (aZ hlt);have htk:fs.take (j+1)=fs.take j++[fs[j]]:=aG hlt;have hr:(de fs)[j]?=some [.int .i64 fs[j].ix]:=by simp [de,aa hlt]
  generalize fs[j]=t at hsub htk hr;refine gN ?_ ⟨?_⟩
  ·omega
  refine ah.exD (row:=[.int .i64 t.ix]) (by simpa using hr) trivial rfl ?_;refine gG ⟨?_⟩
  match t,hsub,htk with
  | .mk ix kind n text names kids,hsub,htk =>
  obtain ⟨hki,kids',k0,hnk,_⟩:=hsub;refine gD (bM hnk) ⟨gN ?_ ⟨?_⟩⟩ k0
  ·show j+1<=_;omega
  rw [aC (by omega)];refine (ih (j+1) hlt (by omega)).to rfl ?_;rw [htk,aq,ae (by simp [kN];omega)];simp only [kN,fa];rfl
 ·have hge:fs.length<=j:=by simpa using h
  rw [ae hge];obtain rfl:j=fs.length:=by omega
  exact lW ⟨⟨rfl,rfl,trivial⟩,rfl⟩
def Sc.dj (k:Int):List (List UInt8)->List (List UInt8)->Sc->Sc
 | _,[],s=>s
 | pre,w::l,s=>Sc.dj k (pre++[w]) l ((if w∈pre then s.fail 12 k else s).cq w k)
def Sc.kn (s:Sc):Sc:={names:=[],own:=0,di:=0,code:=s.code,node:=s.node}
def c7 (ar:List UInt8->Option Int) (root:Bool) (k:Int) (names:List (List UInt8)) (kids:List Tr) (s:Sc):Sc:=walks ar kids (Sc.dj k [] (bP root names) s.kn)
omit hP in
theorem jC (k:Int):∀ (pre l:List (List UInt8)) (s:Sc),jm l.length s (Sc.dj k pre l s)
 | _,[],s=> .refl _ _
 | pre,w::l,s=>by
  unfold Sc.dj;refine jm.trans (n:=1) (m:=l.length) ?_ (jC k _ l _) (by simp;omega);split
  ·exact ⟨by rw [fK,l9],[w],by rw [bZ,eR],by simp⟩
  ·exact ⟨by rw [fK],[w],by rw [bZ],by simp⟩
theorem HE (hS3:mh C) (hS4:pr C) (s:Sc) (ns:List Nd) (root:Int) (es:List (D×Int)) (hf:pv ns es) (ix kind n:Int) (text:List UInt8) (names:List (List UInt8)) (ts:List Tr) (kids:List Int) (h0:0<=ix) (hnd:ns[ix.toNat]?=some ⟨kind,n,text,names,kids⟩) (hsubs:dx ns ts kids) (hw:wfs ts)
  (hb:szs ts<=536870912) (hnm:names.length<=300) (hk:ix≠root->∃ b,ts=[b]) :
  Fn C 208 [.ptr 0 0 0,.d (.int .i64 ix)] [s.enc,bz ns root,.mp es] (.tup []) [some (c7 (arM ns es) (decide (ix=root)) ix names ts s).enc,some (bz ns root),some (.mp es)]:=by
 have hbl:(bP (decide (ix=root)) names).length<=300:=by
  unfold bP;split
  ·simp
  ·exact hnm
 rw [c7];have hkb:=jC ix [] (bP (decide (ix=root)) names) s.kn;generalize hS1:Sc.dj ix [] (bP (decide (ix=root)) names) s.kn=S1 at hkb ⊢;have hkl:=hkb.len;have ho1:S1.own=0:=hkb.1;have hn1:S1.names.length<=300:=by simp [Sc.kn] at hkl;omega
 have c145:=HR hP hS4 ns root ix _ h0 hnd (by show names.length<=1073741824;omega);generalize hbs:bP (decide (ix=root)) (Nd.mk kind n text names kids).names=bl at c145;replace hbs:bP (decide (ix=root)) names=bl:=hbs;rw [hbs] at hbl hS1;refine eN hP c208 ⟨gC [1] c145 ⟨?_⟩⟩;rw [show (List.map (fun w=>[D.str w]) bl).length=bl.length by simp];refine ah.loop (fun x:Nat×Sc=>bl.length - x.1) (fun x=>x.1<=bl.length/\x.2.names.length<=x.1/\Sc.dj ix (bl.take x.1) (bl.drop x.1) x.2=S1) (fun x=>[(0,.ptr 0 0 0),(1,.d (.int .i64 ix)),(4,.d (strs bl)),(22,.d (strs bl)),(23,.d (.int .i64 (bl.length:Nat))),(24,.d (.int .i64 (x.1:Nat)))]) (fun x=>[(0,x.2.enc),(1,bz ns root),(2,.mp es)]) 3 ?_ (0,s.kn) ⟨by simp,by simp [Sc.kn],hS1⟩;intro ⟨j,s'⟩ ⟨hj,hs',hb'⟩ ih;simp only at hj hs' hb' ih ⊢;refine gG ⟨gP (fun h=>⟨?_⟩) fun h=>⟨?_⟩⟩
 ·have hlt:j < bl.length:=by simpa using h
  have hrow:(List.map (fun w=>[D.str w]) bl)[(j:Int).toNat]?=some [.str bl[j]]:=by simp [aa hlt]
  refine gD hrow ⟨?_⟩;have hd:bl.drop j=bl[j]::bl.drop (j+1):=av hlt;have htk:bl.take (j+1)=bl.take j++[bl[j]]:=aG hlt;rw [hd] at hb';generalize bl[j]=w at hrow hd htk hb' ⊢;rw [Sc.dj,<- htk] at hb';have tail:∀ s2:Sc,s2.names.length<=j->Sc.dj ix (bl.take (j+1)) (bl.drop (j+1)) (s2.cq w ix)=S1->b4 C 3 [] (fun v os'=>v= .tup []/\os'=[some (walks (arM ns es) ts S1).enc,some (bz ns root),some (.mp es)])
    (Cfg.dy c208.l 0 [(0,.ptr 0 0 0),(1,.d (.int .i64 ix)),(4,.d (strs bl)),(6,.d (.str w)),(22,.d (strs bl)),(23,.d (.int .i64 (bl.length:Nat))),(24,.d (.int .i64 (j:Nat)))] [(0,s2.enc),(1,bz ns root),(2,.mp es)] 3):=by
   intro s2 h2 h3;refine gT ⟨gC [0,1,2] (Ej hP s2 ns root es w ix (by omega)) ⟨?_⟩⟩;rw [aC (by omega)];exact (ih (j+1,s2.cq w ix) ⟨hlt,by rw [bZ];simp;omega,h3⟩ (by simp only;omega)).to rfl rfl
  refine gN ?_ ⟨?_⟩
  ·simp [fb];omega
  rw [show sub (List.map (fun s=>[D.str s]) bl) none (some (j:Int))=(bl.take j).map (fun s=>[D.str s]) by simp [sub]];refine gO (k49 hP (bl.take j) w (by simp;omega)) ⟨gP (fun h=>⟨?_⟩) fun h=>⟨?_⟩⟩
  ·refine gC [0,1,2] (pV hP s' ns root es 12 ix) ⟨?_⟩;rw [aj (ai h)] at hb';exact (tail (s'.fail 12 ix) (by rw [eR];exact hs') hb').toC rfl rfl
  ·rw [ab (ao h)] at hb';exact (tail s' hs' hb').toC rfl rfl
 ·have hge:bl.length<=j:=by simpa using h
  rw [List.drop_of_length_le hge,Sc.dj] at hb';subst hb';by_cases hr:ix=root
  ·refine gY ⟨gD (bM hnd) ⟨?_⟩ h0⟩ (by simpa using hr);refine ah.call [0,1,2] (Ei hP s' ns root es _ ts (oB hP hS3 ns root es hf ts) hsubs hw (by omega) (by omega) (by have:=fC ts;have h2:=eP hsubs;simp only;omega)) rfl rfl rfl ?_;refine gG ⟨?_⟩;refine lW ⟨⟨?_,rfl,rfl,trivial⟩,rfl⟩;(conv=>lhs;whnf);rfl
  ·obtain ⟨b,rfl⟩:=hk hr
   match kids,hsubs with
   | [kb],hsubs =>
   refine gX ⟨gD (bM hnd) ⟨?_⟩ h0⟩ (by simpa using hr);refine ah.exD (row:=[.int .i64 kb]) rfl (by omega) rfl ?_;refine gG ⟨?_⟩;refine gC [0,1,2] (vx hP hS3 ns root es hf b s' kb hsubs.1 hw.1 (by simp [szs] at hb;omega) (by omega)) ⟨?_⟩;refine lW ⟨⟨?_,rfl,rfl,trivial⟩,rfl⟩;(conv=>lhs;whnf);rfl
end
section
variable {C:Ctx} (hP:C.P=Tryz.prog)
include hP
def dZ (i:Nat) (t:Tr) (x:Sc×List (D×Int)):Sc×List (D×Int) :=
 let s1:=if (db t.text).isSome=true then x.1.fail 12 t.ix else x.1
 let y:=if cJ x.2 (.str t.text)=true then (s1.fail 12 t.ix,x.2) else (s1,dd x.2 (.str t.text) t.ix)
 (if 8<=i\/4 < t.names.length then y.1.fail 6 t.ix else y.1,y.2)
def cZ:Nat->List Tr->Sc×List (D×Int)->Sc×List (D×Int)
 | _,[],x=>x
 | i,t::l,x=>cZ (i+1) l (dZ i t x)
def cG (ar:List UInt8->Option Int) (root:Int):List Tr->Sc×List (D×Int)->Sc×List (D×Int)
 | [],x=>x
 | t::l,x=>let s:=c7 ar (decide (t.ix=root)) t.ix t.names t.kids x.1;cG ar root l (s,dd x.2 (.int .i64 t.ix) s.di)
def Sc.zero:Sc:={names:=[],own:=0,di:=0,code:=0,node:=0}
def Sc.wW (q:Nat) (s:Sc):O:= .st [.ptr 0 0 0,.mp q,.own false 1 (bd s.names),.d (.int .i64 s.own),.d (.int .i64 s.di),.d (.int .i64 s.code),.d (.int .i64 s.node)]
omit hP in
theorem kW:∀ {es:List (D×Int)} {k:D} {v:Int} {p:D×Int},p∈dd es k v->p∈es\/p=(k,v)
 | [],k,v,p,h=>by simp [dd] at h;exact .inr h
 | (k',v')::l,k,v,p,h=>by
  unfold dd at h;split at h
  ·rcases aQ.1 h with rfl | h
   ·exact .inr rfl
   ·exact .inl (aM _ h)
  ·rcases aQ.1 h with rfl | h
   ·exact .inl (by simp)
   ·rcases kW h with h | h
    ·exact .inl (aM _ h)
    ·exact .inr h
omit hP in
theorem rl:∀ {es:List (D×Int)} {k:D},cJ es k=true->∃ p∈es,cL es k=p.2
 | [],k,h=>by simp [cJ] at h
 | (k',v')::l,k,h=>by
  unfold cJ at h;by_cases hk:eV k k'=true
  ·exact ⟨(k',v'),by simp,by simp [cL,hk]⟩
  ·rw [ab hk] at h;obtain ⟨p,h1,h2⟩:=rl h;exact ⟨p,aM _ h1,by simp [cL,hk,h2]⟩
def lv (ns:List Nd) (es:List (D×Int)):Prop:=∀ p∈es,jO none p.1/\∃ nd,0<=p.2/\ns[p.2.toNat]?=some nd
omit hP in
theorem lv.ok (h:lv ns es):pv ns es:=⟨fun p hp=>(h p hp).1,fun t ht=>by
 obtain ⟨p,h1,h2⟩:=rl ht;rw [h2];exact (h p h1).2⟩
omit hP in
theorem lv.set (h:lv ns es) {t:List UInt8} {nd:Nd} (h0:0<=k) (hk:ns[k.toNat]?=some nd):lv ns (dd es (.str t) k):=fun p hp=>by
 rcases kW hp with hp | rfl
 ·exact h p hp
 ·exact ⟨trivial,nd,h0,hk⟩
omit hP in
theorem mo:∀ {l:List Tr} {t:Tr},t∈l->t.sz<=szs l
 | a::l,t,h=>by
  rcases aQ.1 h with rfl | h
  ·simp [szs]
  ·have:=mo h;simp [szs];omega
def gq (ns:List Nd) (root:Int) (r:Tr):Sc×List (D×Int) :=
 let x:=cZ 0 (aX r.kids) (Sc.zero,[])
 cG (arM ns x.2) root (aX r.kids++[r]) (x.1,[])
def oP (ns:List Nd) (root:Int) (r:Tr):V×List (D×Int):=(.tup [.agg [.d (.int .i64 (gq ns root r).1.code),.d (.int .i64 (gq ns root r).1.node)],.mp 1],(gq ns root r).2)
theorem HU (hS3:mh C) (hS4:pr C) (ns:List Nd) (root:Int) (text:List UInt8) (names:List (List UInt8)) (n:Int) (ts:List Tr) (kids:List Int) (h0:0<=root) (hnd:ns[root.toNat]?=some ⟨18,n,text,names,kids⟩) (hs:dx ns ts kids) (hw:wfs ts) (hb:szs ts<=536870912) (hnm:names=[]) :
  Fn C 142 [.ptr 0 0 0] [bz ns root] (oP ns root (.mk root 18 n text names ts)).1 [some (bz ns root),some (.mp (oP ns root (.mk root 18 n text names ts)).2)]:=by
 have hlen:=fC ts;have hfl:(aX ts).length<=ts.length:=List.length_filter_le _ _;have hfs:=jw hs;have hfw:∀ t∈aX ts,t.wf/\t.kind=20:=fun t ht=>⟨ep hw t (List.mem_filter.1 ht).1,by simpa using (List.mem_filter.1 ht).2⟩
 have Dy:=EB hP ns root _ h0 hnd ts hs (by omega);generalize hfse:aX ts=fs at Dy hfl hfs hfw;generalize hR:cZ 0 fs (Sc.zero,[])=R;have hV:oP ns root (.mk root 18 n text names ts)=(.tup [.agg [.d (.int .i64 (cG (arM ns R.2) root (fs++[.mk root 18 n text names ts]) (R.1,[])).1.code),.d (.int .i64 (cG (arM ns R.2) root (fs++[.mk root 18 n text names ts]) (R.1,[])).1.node)],.mp 1],(cG (arM ns R.2) root (fs++[.mk root 18 n text names ts]) (R.1,[])).2):=by
  simp only [oP,gq,Tr.kids,hfse,hR]
 generalize oP ns root (.mk root 18 n text names ts)=NV at hV ⊢;obtain ⟨V0,M0⟩:=NV;simp only [Prod.mk.injEq] at hV;obtain ⟨hV1,hV2⟩:=hV;simp only;refine eN hP xk ⟨gC [0] Dy ⟨?_⟩⟩;refine ah.loop (fun x:Nat×Sc×List (D×Int)=>fs.length - x.1) (fun x=>x.1<=fs.length/\lv ns x.2.2/\cZ x.1 (fs.drop x.1) x.2=R) (fun x=>[(0,.ptr 0 0 0),(2,.ptr 1 0 0),(3,.nmp),(4,.ptr 2 0 0),(5,.arr 3 0 fs.length),(22,.arr 3 0 fs.length),(23,.d (.int .i64 (fs.length:Nat))),(24,.d (.int .i64 (x.1:Nat)))])
  (fun x=>[(0,bz ns root),(1,.st [.d (.int .i64 0),.d (.int .i64 0)]),(2,x.2.1.wW 4),(3,.da 1 (de fs)),(4,.mp x.2.2)]) 5 ?_ (0,Sc.zero,[]) ⟨by simp,by simp [lv],hR⟩
 intro ⟨j,s,es⟩ ⟨hj,hes,hRj⟩ ih;simp only at hj hes hRj ih ⊢;refine gG ⟨gP (fun h=>⟨?_⟩) fun h=>⟨?_⟩⟩
 ·have hlt:j < fs.length:=by simpa using h
  have hd:fs.drop j=fs[j]::fs.drop (j+1):=av hlt;have hsub:=hfs fs[j] (aZ hlt);have hwf:=hfw fs[j] (aZ hlt);have hr:(de fs)[j]?=some [.int .i64 fs[j].ix]:=by simp [de,aa hlt]
  rw [hd] at hRj;generalize fs[j]=t at hsub hwf hd hr hRj;refine gN ?_ ⟨?_⟩
  ·omega
  refine ah.exD (row:=[.int .i64 t.ix]) (by simpa using hr) trivial rfl ?_;refine gG ⟨?_⟩
  match t,hsub,hwf,hRj with
  | .mk ix kind m text names kids,hsub,hwf,hRj =>
  obtain ⟨hki,kids',k0,hnk,_⟩:=hsub;refine gD (bM hnk) ⟨?_⟩ k0;have hix:(Tr.mk ix kind m text names kids).ix=ix:=rfl;rw [hix] at *;rw [cZ] at hRj;obtain ⟨kv,h206⟩:∃ kv:D,Fn C 206 [.d (.str text)] [] (.tup [.d kv,.d (.bool (db text).isSome)]) []:=by
   have hv:=uS hP text;cases hq:db text with
   | none=>simp only [oY,hq] at hv;exact ⟨_,hv⟩
   | some ks=>simp only [oY,hq] at hv;exact ⟨_,hv⟩
  have tail2:∀ (s3:Sc) (es3:List (D×Int)),lv ns es3->cZ (j+1) (fs.drop (j+1)) (s3,es3)=R->b4 C 1 [(2,some (some 2)),(3,none)] (fun v os'=>v=V0/\os'=[some (bz ns root),some (O.mp M0)])
    (Cfg.dy xk.l 2 [(0,.ptr 0 0 0),(2,.ptr 1 0 0),(3,.nmp),(4,.ptr 2 0 0),(5,.arr 3 0 fs.length),(22,.arr 3 0 fs.length),(23,.d (.int .i64 (fs.length:Nat))),(24,.d (.int .i64 (j:Nat)))]
     [(0,bz ns root),(1,.st [.d (.int .i64 0),.d (.int .i64 0)]),(2,s3.wW 4),(3,.da 1 (de fs)),(4,.mp es3)] 5):=by
   intro s3 es3 h1 h2;refine gT ⟨?_⟩;rw [aC (by omega)];exact (ih (j+1,s3,es3) ⟨hlt,h1,h2⟩ (by simp only;omega)).to rfl rfl
  have tail1:∀ (s2:Sc) (es3:List (D×Int)),lv ns es3->cZ (j+1) (fs.drop (j+1)) (if 8<=j\/4 < names.length then s2.fail 6 ix else s2,es3)=R->b4 C 1 [(2,some (some 2)),(3,none)] (fun v os'=>v=V0/\os'=[some (bz ns root),some (O.mp M0)])
    (Cfg.dy xk.l 1 [(0,.ptr 0 0 0),(2,.ptr 1 0 0),(3,.nmp),(4,.ptr 2 0 0),(5,.arr 3 0 fs.length),(6,.d (.int .i64 (j:Nat))),(7,.d (.int .i64 ix)),(8,.ptr 4 0 0),(22,.arr 3 0 fs.length),(23,.d (.int .i64 (fs.length:Nat))),(24,.d (.int .i64 (j:Nat)))]
     [(0,bz ns root),(1,.st [.d (.int .i64 0),.d (.int .i64 0)]),(2,s2.wW 5),(3,.da 1 (de fs)),(4,.st ((Nd.enc ⟨kind,m,text,names,kids'⟩).map .d)),(5,.mp es3)] 6):=by
   intro s2 es3 h1 h2;refine gT ⟨gP (fun h8=>⟨?_⟩) fun h8=>⟨?_⟩⟩
   ·refine gC [2,0,5] (pV hP s2 ns root es3 6 ix) ⟨?_⟩;rw [aj (.inl (by simp at h8;omega))] at h2;exact (tail2 (s2.fail 6 ix) es3 h1 h2).toC rfl rfl
   ·have h8:¬ 8<=j:=by simp at h8;omega
    refine gP (fun h4=>⟨?_⟩) fun h4=>⟨?_⟩
    ·refine gC [2,0,5] (pV hP s2 ns root es3 6 ix) ⟨?_⟩;rw [aj (.inr (by simp [Nd.enc] at h4;omega))] at h2;exact (tail2 (s2.fail 6 ix) es3 h1 h2).toC rfl rfl
    ·have h4:¬ 4 < names.length:=by simp at h4;omega
     rw [ab (by omega)] at h2;exact (tail2 s2 es3 h1 h2).toC rfl rfl
  have tail0:∀ (s1:Sc),cZ (j+1) (fs.drop (j+1)) (let y:=if cJ es (.str text)=true then (s1.fail 12 ix,es) else (s1,dd es (.str text) ix);(if 8<=j\/4 < names.length then y.1.fail 6 ix else y.1,y.2))=R->b4 C 1 [(2,some (some 2)),(3,none)] (fun v os'=>v=V0/\os'=[some (bz ns root),some (O.mp M0)])
    (Cfg.dy xk.l 0 [(0,.ptr 0 0 0),(2,.ptr 1 0 0),(3,.nmp),(4,.ptr 2 0 0),(5,.arr 3 0 fs.length),(6,.d (.int .i64 (j:Nat))),(7,.d (.int .i64 ix)),(8,.ptr 4 0 0),(22,.arr 3 0 fs.length),(23,.d (.int .i64 (fs.length:Nat))),(24,.d (.int .i64 (j:Nat)))]
     [(0,bz ns root),(1,.st [.d (.int .i64 0),.d (.int .i64 0)]),(2,s1.wW 5),(3,.da 1 (de fs)),(4,.st ((Nd.enc ⟨kind,m,text,names,kids'⟩).map .d)),(5,.mp es)] 6):=by
   intro s1 h1;refine gT ⟨gN ⟨trivial,hes.ok.1⟩ ⟨?_⟩⟩;cases hm:cJ es (.str text) with
   | true =>
    refine gY ⟨gC [2,0,5] (pV hP s1 ns root es 12 ix) ⟨?_⟩⟩;rw [hm] at h1;exact (tail1 (s1.fail 12 ix) es hes h1).toC rfl rfl
   | false =>
    refine gX ⟨gN ⟨⟨trivial,hes.ok.1⟩,rfl⟩ ⟨?_⟩⟩;rw [hm] at h1;exact (tail1 s1 (dd es (.str text) ix) (hes.set k0 hnk) h1).toC rfl rfl
  refine gO h206 ⟨?_⟩;have hRj':cZ (j+1) (fs.drop (j+1)) (let y:=if cJ es (.str text)=true then ((if (db text).isSome=true then s.fail 12 ix else s).fail 12 ix,es) else ((if (db text).isSome=true then s.fail 12 ix else s),dd es (.str text) ix);(if 8<=j\/4 < names.length then y.1.fail 6 ix else y.1,y.2))=R:=hRj;cases hks:(db text).isSome with
  | true =>
   rw [aj hks] at hRj';refine gY ⟨gC [2,0,4] (pV hP s ns root es 12 ix) ⟨?_⟩⟩;exact (tail0 (s.fail 12 ix) hRj').toC rfl rfl
  | false =>
   rw [ab (show ¬ (db text).isSome=true by simp [hks])] at hRj';refine gX ⟨?_⟩;exact (tail0 s hRj').toC rfl rfl
 ·have hge:fs.length<=j:=by simpa using h
  obtain rfl:j=fs.length:=by omega
  rw [List.drop_length,cZ] at hRj;subst hRj;refine gN ?_ ⟨?_⟩
  ·show fs.length+1<=_;omega
  have es0:=hes.ok;rw [show (fs.length+(Sh.ds [[D.int IntKind.i64 root]] [[D.int IntKind.i64 root]].length).len)=(fs++[Tr.mk root 18 n text names ts]).length by simp [Sh.len],
   show List.take fs.length (List.drop 0 (de fs))++[[D.int IntKind.i64 root]]=de (fs++[Tr.mk root 18 n text names ts]) by rw [aq,ae (by simp [de])];simp [de,Tr.ix]]
  have hgs:∀ g∈fs++[Tr.mk root 18 n text names ts],∃ kind n text kids,0<=g.ix/\ns[g.ix.toNat]?=some ⟨kind,n,text,g.names,kids⟩/\dx ns g.kids kids/\wfs g.kids/\szs g.kids<=536870912/\g.names.length<=300/\(g.ix≠root->∃ b,g.kids=[b]):=by
   intro g hg;rcases bL.1 hg with hg | hg
   ·have h1:=hfs g hg;have h2:=hfw g hg;have hsz:g.sz<=szs ts:=mo (List.mem_filter.1 (hfse▸hg)).1
    match g,h1,h2,hsz with
    | .mk ix kind m text names ks,h1,h2,hsz =>
    obtain ⟨_,kids',k0,k1,k2⟩:=h1;have hk:kind=20:=h2.2;have hsh:=h2.1.1.2.2;subst hk;simp at hsh;obtain ⟨hsh1,b,hb1,hb2⟩:=hsh;exact ⟨_,_,_,kids',k0,k1,k2,h2.1.2,by simp only [Tr.sz] at hsz;simp only [Tr.kids];omega,hsh1,fun _=>⟨b,hb1⟩⟩
   ·obtain rfl:=bA.1 hg;exact ⟨_,_,_,kids,h0,hnd,hs,hw,hb,by simp [Tr.names,hnm],fun h=>absurd rfl h⟩
  have hgl:(fs++[Tr.mk root 18 n text names ts]).length<=1073741824:=by simp;omega
  generalize fs++[Tr.mk root 18 n text names ts]=gs at hgs hV1 hV2 hgl ⊢;generalize hF:cG (arM ns es) root gs (s,[])=F at hV1 hV2;refine ah.loop (fun x:Nat×Sc×List (D×Int)=>gs.length - x.1) (fun x=>x.1<=gs.length/\(∀ p∈x.2.2,jO (some .i64) p.1)/\cG (arM ns es) root (gs.drop x.1) x.2=F) (fun x=>[(2,.ptr 1 0 0),(3,.nmp),(4,.ptr 2 0 0),(13,.mp 3),(86,.arr 4 0 gs.length),(87,.d (.int .i64 (gs.length:Nat))),(88,.d (.int .i64 (x.1:Nat)))])
   (fun x=>[(0,bz ns root),(1,.st [.d (.int .i64 0),.d (.int .i64 0)]),(2,x.2.1.wW 5),(3,.mp x.2.2),(4,.da 1 (de gs)),(5,.mp es)]) 6 ?_ (0,s,[]) ⟨by simp,by simp,hF⟩
  clear ih hj h hge;intro ⟨j,s',m⟩ ⟨hj,hm,hFj⟩ ih;simp only at hj hm hFj ih ⊢;refine gG ⟨gP (fun h=>⟨?_⟩) fun h=>⟨?_⟩⟩
  ·have hlt:j < gs.length:=by simpa using h
   obtain ⟨kind,gn,gt,gk,g0,g1,g2,g3,g4,g5,g6⟩:=hgs gs[j] (aZ hlt);have hr:(de gs)[j]?=some [.int .i64 gs[j].ix]:=by simp [de,aa hlt]
   rw [av hlt,cG] at hFj;generalize gs[j]=g at *;refine gN ?_ ⟨?_⟩
   ·omega
   refine ah.exD (row:=[.int .i64 g.ix]) (by simpa using hr) trivial rfl ?_;refine gG ⟨gC [2,0,5] (HE hP hS3 hS4 s' ns root es es0 g.ix kind gn gt g.names g.kids gk g0 g1 g2 g3 g4 g5 g6) ⟨gN ⟨⟨rfl,hm⟩,rfl⟩ ⟨?_⟩⟩⟩;rw [aC (by omega)];refine (ih (j+1,_,_) ⟨hlt,?_,hFj⟩ (by simp only;omega)).to rfl rfl;intro p hp;rcases kW hp with hp | rfl
   ·exact hm p hp
   ·rfl
  ·have hge:gs.length<=j:=by simpa using h
   rw [List.drop_of_length_le hge,cG] at hFj;rw [hV1,hV2,<- hFj];refine ah.aD (os':=[some (bz ns root),some (.mp m)]) [0,3,1] trivial rfl rfl ⟨rfl,rfl,trivial⟩ ?_;(conv=>whnf);exact ⟨rfl,rfl⟩
end
def Sc.aY (s:Sc) (ns:List Nd) (root:Int):O:= .st [.d (.imm 5 (ns.map Nd.enc)),.d (.int .i64 root),.d (strs s.names),.d (.int .i64 s.own),.d (.int .i64 s.di),.d (.int .i64 s.code),.d (.int .i64 s.node)]
section
variable {C:Ctx} (hP:C.P=Tryz.prog)
include hP
theorem zJ (s:Sc) (ns:List Nd) (root c k:Int):Fn C 178 [.ptr 0 0 0,.d (.int .i64 c),.d (.int .i64 k)] [s.aY ns root] (.tup []) [some ((s.fail c k).aY ns root)]:=by
 refine eN hP IY ⟨gP (fun h=>⟨?_⟩) fun h=>⟨?_⟩⟩
 ·refine lW ⟨⟨?_,trivial⟩,rfl⟩;(conv=>lhs;whnf);rw [Sc.fail,aj (ai h)];rfl
 ·refine lW ⟨⟨?_,trivial⟩,rfl⟩;(conv=>lhs;whnf);rw [Sc.fail,ab (ao h)];rfl
omit hP in
theorem lL (l:List (List UInt8)) (w t:List UInt8):au (l++[w]) t=if w=t then (l.length:Int) else au l t:=by
 unfold au;rw [List.reverse_append,List.reverse_singleton,List.singleton_append,List.findIdx?_cons];by_cases h:w=t
 ·simp [h]
 ·simp only [h,decide_false,aV];cases l.reverse.findIdx? (fun x=>decide (x=t)) with
  | none=>simp
  | some i=>simp;omega
theorem zL (s:Sc) (ns:List Nd) (root:Int) (t:List UInt8) (hl:s.names.length<=1073741824):Fn C 177 [.ptr 0 0 0,.d (.str t)] [s.aY ns root] (.d (.int .i64 (au s.names t))) [some (s.aY ns root)]:=by
 refine eN hP vh ⟨?_⟩;rw [show (List.map (fun w=>[D.str w]) s.names).length=s.names.length by simp];rw [show IntKind.i64.wrap ((s.names.length:Int) - 1)=(s.names.length:Int) - 1 from wrap_i64 ⟨by omega,by omega⟩];refine gW (fun x:Nat=>x) (fun x=>x<=s.names.length/\au (s.names.take x) t=au s.names t) (fun x=>[(0,.ptr 0 0 0),(1,.d (.str t)),(4,.d (.int .i64 0)),(5,.d (.int .i64 ((x:Int) - 1)))]) (fun _=>[(0,s.aY ns root)]) 1 ?_ s.names.length ⟨by omega,by rw [b8]⟩;refine fun x ⟨hx,hsl⟩ ih=>⟨?_⟩
 refine gP (fun h=>⟨?_⟩) fun h=>⟨?_⟩
 ·have h0:0<=(x:Int) - 1:=by simpa using h
  match x,hx,hsl,ih,h,h0 with
  | y+1,hx,hsl,ih,h,h0 =>
  have hrow:(List.map (fun w=>[D.str w]) s.names)[(((y+1:Nat):Int) - 1).toNat]?=some [.str s.names[y]]:=by
   rw [show (((y+1:Nat):Int) - 1).toNat=y by omega];simp [aa (show y < s.names.length by omega)]
  refine gD hrow ⟨?_⟩;rw [aG (show y < s.names.length by omega),lL] at hsl;generalize s.names[y]=w at hsl hrow ⊢;refine gP (fun hw=>⟨?_⟩) fun hw=>⟨?_⟩
  ·refine lW ⟨⟨rfl,trivial⟩,?_⟩;rw [<- hsl,aj (by simpa using hw),bh];congr 3;omega
  ·rw [ab (by simpa using hw)] at hsl;rw [show IntKind.i64.wrap (((y+1:Nat):Int) - 1 - 1)=(y:Int) - 1 by rw [wrap_i64 ⟨by omega,by omega⟩];omega];exact (ih y ⟨by omega,hsl⟩ (by omega)).to rfl rfl
 ·have:x=0:=by have:¬ 0<=(x:Int) - 1:=(by simpa using h);omega
  subst this;refine lW ⟨⟨rfl,trivial⟩,?_⟩;rw [<- hsl];rfl
def iA (ts:List Tr) (t:List UInt8):Int:=match (aX ts).find? (fun f=>decide (f.text=t)) with
 | some f=>f.ix
 | none=> -1
omit hP in
theorem zY (u:Tr) (l:List Tr) (t:List UInt8):iA (u::l) t=if u.kind=20/\u.text=t then u.ix else iA l t:=by
 unfold iA aX;by_cases h1:u.kind=20
 ·rw [List.filter_cons_of_pos (by simpa using h1),List.find?_cons];by_cases h2:u.text=t
  ·simp [h1,h2]
  ·simp [h2]
 ·rw [List.filter_cons_of_neg (by simpa using h1)];simp [h1]
theorem FV (ns:List Nd) (root:Int) (nd:Nd) (h0:0<=root) (hnd:ns[root.toNat]?=some nd) (ts:List Tr) (hs:dx ns ts nd.kids) (t:List UInt8) (hl:ts.length<=1073741824) :
  Fn C 179 [.agg [.d (.imm 5 (ns.map Nd.enc)),.d (.int .i64 root)],.d (.str t)] [] (.d (.int .i64 (iA ts t))) []:=by
 have htl:=eP hs;refine eN hP E3 ⟨gD (bM hnd) ⟨gW (fun j:Nat=>ts.length - j) (fun j=>j<=ts.length/\iA (ts.drop j) t=iA ts t) (fun j=>[(1,.d (.str t)),(2,.ptr 0 0 0),(4,.d (.int .i64 0)),(5,.d (bJ nd.kids)),(6,.d (.int .i64 (j:Nat)))]) (fun _=>[(0,.st [.d (.imm 5 (ns.map Nd.enc)),.d (.int .i64 root)])]) 1 ?_ 0 ⟨by omega,rfl⟩⟩ h0⟩;refine fun j ⟨hj,hjf⟩ ih=>⟨?_⟩
 rw [show (List.map (fun k=>[D.int IntKind.i64 k]) nd.kids).length=nd.kids.length by simp];refine gP (fun h=>⟨?_⟩) fun h=>⟨?_⟩
 ·have hlt:j < ts.length:=by rw [htl];simpa using h
  obtain ⟨k,hk1,hk2⟩:=eX hs (aa hlt);rw [av hlt,zY] at hjf;have hkr:(List.map (fun k=>[D.int IntKind.i64 k]) nd.kids)[((j:Nat):Int).toNat]?=some [.int .i64 k]:=by simp [hk1]
  refine gD hkr ⟨?_⟩;generalize ts[j]=u at hk2 hjf
  match u,hk2,hjf with
  | .mk ix kind n text names kids,hk2,hjf =>
  obtain ⟨hki,kids',k0,hnk,_⟩:=hk2;refine gD (bM hnk) ⟨gP (fun h20=>⟨?_⟩) fun h20=>⟨?_⟩⟩ k0
  ·refine gD hkr ⟨gD (bM hnk) ⟨gP (fun ht=>⟨?_⟩) fun ht=>⟨?_⟩⟩ k0⟩
   ·refine gD hkr ⟨lW ⟨trivial,?_⟩⟩;rw [<- hjf,aj (by simpa [Tr.kind,Tr.text] using And.intro h20 ht),hki];rfl
   ·rw [ab (by simp at ht;simp [Tr.text,ht])] at hjf;rw [aC (by omega)];exact (ih (j+1) ⟨hlt,hjf⟩ (by omega)).to rfl rfl
  ·rw [ab (by simp at h20;simp [Tr.kind,h20])] at hjf;rw [aC (by omega)];exact (ih (j+1) ⟨hlt,hjf⟩ (by omega)).to rfl rfl
 ·have hge:ts.length<=j:=by
   have:¬ (j < nd.kids.length):=by simpa using h
   omega
  rw [List.drop_of_length_le hge] at hjf;refine lW ⟨trivial,?_⟩;rw [<- hjf];rfl
omit hP in
theorem zZ (s:Sc) {c:Int} (hc:c≠0):(s.fail c k).fail c k=s.fail c k:=by
 unfold Sc.fail;by_cases h:s.code=0
 ·simp [h,hc]
 ·simp [h]
theorem zM (s:Sc) (ns:List Nd) (root:Int) (t:List UInt8) (k:Int) (hl:s.names.length<=1073741000) (ho:s.own<=s.names.length):Fn C 176 [.ptr 0 0 0,.d (.str t),.d (.int .i64 k)] [s.aY ns root] (.tup []) [some ((s.declare t k).aY ns root)]:=by
 refine eN hP xj ⟨?_⟩;refine ah.loop (fun x:Nat×Sc=>s.names.length - x.1) (fun x=>s.own<=x.1/\x.1<=s.names.length/\x.2=if t∈(s.names.take x.1).drop s.own then s.fail 12 k else s) (fun x=>[(0,.ptr 0 0 0),(1,.d (.str t)),(2,.d (.int .i64 k)),(6,.d (.int .i64 (x.1:Nat)))]) (fun x=>[(0,x.2.aY ns root)]) 1 ?_ (s.own,s) ⟨by omega,ho,by simp⟩;intro ⟨j,s'⟩ ⟨hj0,hj,hs'⟩ ih;simp only at hj0 hj hs' ih ⊢;have hn':s'.names=s.names:=by rw [hs'];split<;>simp [eR]
 refine gG ⟨?_⟩;rw [show (List.map (fun w=>[D.str w]) s'.names).length=s'.names.length by simp];refine gP (fun h=>⟨?_⟩) fun h=>⟨?_⟩
 ·have hlt:j < s.names.length:=by rw [<- hn'];simpa using h
  refine ah.exD (row:=[.str s.names[j]]) (by simp [hn',aa hlt]) (by omega) rfl ?_;refine gG ⟨?_⟩;have htk:(s.names.take (j+1)).drop s.own=(s.names.take j).drop s.own++[s.names[j]]:=by
   rw [aG hlt,List.drop_append_of_le_length (by simp;omega)]
  generalize s.names[j]=w at htk ⊢;refine gP (fun hw=>⟨?_⟩) fun hw=>⟨?_⟩
  ·refine gC [0] (zJ hP s' ns root 12 k) ⟨?_⟩;rw [aC (by omega)];refine (ih (j+1,s'.fail 12 k) ⟨by simp only;omega,hlt,?_⟩ (by simp only;omega)).to rfl rfl;have hw:w=t:=by simpa using hw
   simp only;rw [htk,aj (by simp [hw]),hs'];split
   ·rw [zZ s (by decide)]
   ·rfl
  ·rw [aC (by omega)];refine (ih (j+1,s') ⟨by simp only;omega,hlt,?_⟩ (by simp only;omega)).to rfl rfl;have hw:¬ t=w:=fun e=>by simp [e] at hw
   simp only;rw [htk,hs'];simp [hw]
 ·have hge:s.names.length<=j:=by rw [<- hn'];simpa using h
  rw [ae hge] at hs';have hl':s'.names.length<=1073741000:=by rw [hn'];exact hl
  rw [show s.declare t k=s'.cq t k by rw [Sc.declare,hs']];clear hs' ih hj0 hj hge hn' hl ho;rw [show (Sh.ds (List.map (fun s=>[D.str s]) s'.names) (List.map (fun s=>[D.str s]) s'.names).length).len=s'.names.length by simp [Sh.len]];refine gN ?_ ⟨?_⟩
  ·omega
  refine ah.dR ?_ ?_
  ·show s'.names.length+1<=_;omega
  rw [show List.take s'.names.length (List.drop 0 ([]++List.map (fun s=>[D.str s]) s'.names))++[[D.str t]]=(s'.names++[t]).map (fun s=>[D.str s]) by
   rw [aq,dG,ae (by simp)];simp]
  refine gG ⟨?_⟩;rw [show (List.map (fun s=>[D.str s]) (s'.names++[t])).length=s'.names.length+1 by simp];have e3:(if ((s'.names.length+1:Nat):Int) > (s'.di:Int) then ((s'.names.length+1:Nat):Int) else (s'.di:Int))=((max s'.di (s'.names.length+1):Nat):Int):=by split<;>omega
  rw [e3];refine gP (fun h=>⟨?_⟩) fun h=>⟨?_⟩
  ·refine gC [0] (zJ hP {s' with names:=s'.names++[t],di:=max s'.di (s'.names.length+1)} ns root 7 k) ⟨lW ⟨⟨?_,trivial⟩,rfl⟩⟩;(conv=>lhs;whnf);rw [Sc.cq,aj (by simp at h;omega)];rfl
  ·refine lW ⟨⟨?_,trivial⟩,rfl⟩;(conv=>lhs;whnf);rw [Sc.cq,ab (by simp at h;omega)];rfl
def aA (ts:List Tr) (t:List UInt8):Option Int:=((aX ts).find? fun f=>decide (f.text=t)).map fun f=>(f.names.length:Int)
def zd (C:Ctx) (ns:List Nd) (root:Int) (ar:List UInt8->Option Int) (t:Tr):Prop:=∀ (s:Sc) (k:Int),Sub ns t k->t.wf->s.names.length+t.sz<=1073741000->s.own<=s.names.length ->
 Fn C 125 [.ptr 0 0 0,.d (.int .i64 k)] [s.aY ns root] (.tup []) [some ((t.walk ar s).aY ns root)]
omit hP in
theorem Aq (ar:List UInt8->Option Int) (t:Tr) (h:blK t) (s:Sc) (o:Nat):t.walk ar {s with own:=o}={t.walk ar s with own:=o}:=by
 cases t with
 | mk ix kind n text names kids =>
  have h:kind=18:=h;subst h;simp only [Tr.walk];rfl
theorem Ar (ns:List Nd) (root:Int) (rd:Nd) (h0r:0<=root) (hrd:ns[root.toNat]?=some rd) (us:List Tr) (hus:dx ns us rd.kids) (hul:us.length<=1073741824) (ix kind n:Int) (text:List UInt8) (names:List (List UInt8)) (ts:List Tr) (hall:∀ t∈ts,zd C ns root (aA us) t):zd C ns root (aA us) (.mk ix kind n text names ts):=by
 intro s k hsub hwf hb ho;obtain ⟨hki,kids,h0,hnd,hsubs⟩:=hsub;subst hki;obtain ⟨hsh,hws⟩:=hwf;have htl:=eP hsubs;have hlz:=fC ts;simp only [Tr.sz] at hb;have hc179:=FV hP ns root rd h0r hrd us hus text hul;by_cases h20:kind=20
 ·rw [Tr.walk,aj h20];subst h20;refine eN hP Al ⟨gD (bM hnd) ⟨?_⟩ h0⟩
  (repeat' (first | refine gY ⟨?_⟩ | refine gX ⟨?_⟩ | refine gL ⟨?_⟩ | refine gD rfl ⟨?_⟩ | refine gP (fun _=>⟨?_⟩) fun _=>⟨?_⟩ | (refine gN ?_ ⟨?_⟩;assumption) | (refine gN ?_ ⟨?_⟩;rotate_left) | exact lW ⟨trivial,rfl⟩ | refine lW ⟨trivial,?_⟩ | fail))
  exact lW ⟨⟨rfl,trivial⟩,rfl⟩
 by_cases h17:kind=17
 ·rw [Tr.walk,ab h20,aj h17];obtain ⟨a,b,rfl,hbb⟩:∃ a b,ts=[a,b]/\blK b:=by
   have:=hsh.2.2;subst h17;simp at this;obtain ⟨_,a,b,h,_,hb⟩:=this;exact ⟨a,b,h,hb⟩
  match kids,hsubs with
  | [ka,kb],hsubs =>
  subst h17;have hka:=e9 (aA us) a s;have c1:=hall a (by simp) s ka hsubs.1 hws.1 (by simp [szs] at hb;omega) ho;simp only [dT];generalize hs1:a.walk (aA us) s=s1 at hka c1 ⊢;have hl1:=hka.len;simp only [szs] at hb;have c2:=zM hP {s1 with own:=s1.names.length} ns root text k (by simp only;omega) (by simp);rw [show ({s1 with own:=s1.names.length}:Sc).declare text k=({s1 with own:=s1.names.length}:Sc).cq text k by rw [Sc.declare,ab (by simp)]] at c2;have c3:=hall b (by simp) (({s1 with own:=s1.names.length}:Sc).cq text k) kb hsubs.2.1 hws.2.1 (by rw [bZ];simp;omega) (by rw [bZ,fK];simp);have e3:b.walk (aA us) (({s1 with own:=s1.names.length}:Sc).cq text k)={b.walk (aA us) (s1.cq text k) with own:=s1.names.length}:=by
   rw [<- Aq _ b hbb];congr 1;unfold Sc.cq Sc.fail;simp only;split<;>(try split)<;>rfl
  rw [e3] at c3;simp only [dV];have hkb:=e9 (aA us) b (s1.cq text k);generalize b.walk (aA us) (s1.cq text k)=s2 at c3 hkb ⊢;dsimp only at c3;have hl2:=hkb.len;rw [bZ,aH,aU] at hl2;have ho2:s2.own=s1.own:=by rw [hkb.1,fK]
  generalize ({s1 with own:=s1.names.length}:Sc).cq text k=s1b at c2 c3;refine eN hP Al ⟨gD (bM hnd) ⟨?_⟩ h0⟩
  (repeat' (first | refine gY ⟨?_⟩ | refine gX ⟨?_⟩ | refine gL ⟨?_⟩ | refine gD rfl ⟨?_⟩ | refine gP (fun _=>⟨?_⟩) fun _=>⟨?_⟩ | (refine gN ?_ ⟨?_⟩;assumption) | (refine gN ?_ ⟨?_⟩;rotate_left) | exact lW ⟨trivial,rfl⟩ | refine lW ⟨trivial,?_⟩ | fail))
  refine gC [0] c1 ⟨?_⟩;rw [show (List.map (fun w=>[D.str w]) s1.names).length=s1.names.length by simp];refine gC [0] c2 ⟨?_⟩;refine ah.exD (row:=[.int .i64 kb]) rfl (by omega) rfl ?_;refine gG ⟨gC [0] c3 ⟨gN ?_ ⟨?_⟩⟩⟩
  ·simp [fb];omega
  refine lW ⟨⟨?_,trivial⟩,rfl⟩;(conv=>lhs;whnf);rw [show sub (List.map (fun s=>[D.str s]) s2.names) none (some (s1.names.length:Int))=(s2.names.take s1.names.length).map (fun s=>[D.str s]) by simp [sub,List.map_take],<- ho2];rfl
 by_cases h18:kind=18
 ·rw [Tr.walk,ab h20,ab h17,aj h18];simp only;subst h18;have hkp:=b5 (aA us) ts {s with own:=s.names.length};generalize hs1:walks (aA us) ts {s with own:=s.names.length}=s1 at hkp ⊢;have hl:=hkp.len;simp only at hl;refine eN hP Al ⟨gD (bM hnd) ⟨gX ⟨gX ⟨gX ⟨gX ⟨gY ⟨?_⟩⟩⟩⟩⟩⟩ h0⟩;rw [show (List.map (fun w=>[D.str w]) s.names).length=s.names.length by simp];refine ah.loop (fun j:Nat=>ts.length - j) (fun j=>j<=ts.length) (fun j=>[(0,.ptr 0 0 0),(1,.d (.int .i64 k)),(4,.ptr 1 0 0),(7,.d (.int .i64 (s.own:Nat))),(8,.d (.int .i64 (s.names.length:Nat))),(9,.d (.int .i64 (j:Nat)))]) (fun j=>[(0,(walks (aA us) (ts.take j) {s with own:=s.names.length}).aY ns root),(1,.st ((Nd.enc ⟨18,n,text,names,kids⟩).map .d))]) 2 ?_ 0 (by omega);intro j hj ih;have hkp':=b5 (aA us) (ts.take j) {s with own:=s.names.length};generalize hs':walks (aA us) (ts.take j) {s with own:=s.names.length}=s' at hkp' ⊢;refine gG ⟨?_⟩;rw [show (List.map (fun k=>[D.int IntKind.i64 k]) (Nd.mk 18 n text names kids).kids).length=kids.length by simp];refine gP (fun h=>⟨?_⟩) fun h=>⟨?_⟩
  ·have hlt:j < ts.length:=by rw [htl];simpa using h
   obtain ⟨kk,hk1,hk2⟩:=eX hsubs (aa hlt);refine ah.exD (row:=[.int .i64 kk]) (by simp [hk1]) (by omega) rfl ?_;refine gG ⟨?_⟩;have hsz:szs (ts.take j)+ts[j].sz<=szs ts:=by
    have:=congrArg szs (List.take_append_drop j ts);rw [av hlt,gB] at this;simp only [szs] at this;omega
   have hn:=hkp'.len;have hn1:=hkp'.1;simp only at hn hn1;refine gC [0] (hall ts[j] (aZ hlt) s' kk hk2 (ep hws _ (aZ hlt)) (by omega) (by omega)) ⟨?_⟩;rw [aC (by omega)];refine (ih (j+1) hlt (by omega)).to rfl ?_;rw [aG hlt,gS,hs'];rfl
  ·have hge:ts.length<=j:=by
    have:¬ (j < kids.length):=by simpa using h
    omega
   rw [ae hge,hs1] at hs';subst hs';refine gN ?_ ⟨?_⟩
   ·simp [fb];omega
   refine lW ⟨⟨?_,trivial⟩,rfl⟩;(conv=>lhs;whnf);rw [show sub (List.map (fun s=>[D.str s]) s1.names) none (some (s.names.length:Int))=(s1.names.take s.names.length).map (fun s=>[D.str s]) by simp [sub,List.map_take]];rfl
 rw [Tr.walk,ab h20,ab h17,ab h18];simp only;have hm:=nf (aA us) kind text ts.length k s;generalize hs1:s.meet (aA us) kind text ts.length k=s1 at hm ⊢;have hkp:=b5 (aA us) ts s1;have hl0:=hm.len;generalize hs2:walks (aA us) ts s1=s2 at hkp ⊢;have hl:=hkp.len;have tail:b4 C 1 [] (fun v os'=>v= .tup []/\os'=[some ((if kind=11 then s2.declare text k else s2).aY ns root)])
   (Cfg.dy Al.l 1 [(0,.ptr 0 0 0),(1,.d (.int .i64 k)),(4,.ptr 1 0 0)] [(0,s1.aY ns root),(1,.st ((Nd.enc ⟨kind,n,text,names,kids⟩).map .d))] 2):=by
  refine gT ⟨?_⟩;refine ah.loop (fun j:Nat=>ts.length - j) (fun j=>j<=ts.length) (fun j=>[(0,.ptr 0 0 0),(1,.d (.int .i64 k)),(4,.ptr 1 0 0),(12,.d (.int .i64 (j:Nat)))]) (fun j=>[(0,(walks (aA us) (ts.take j) s1).aY ns root),(1,.st ((Nd.enc ⟨kind,n,text,names,kids⟩).map .d))]) 2 ?_ 0 (by omega);intro j hj ih;have hkp':=b5 (aA us) (ts.take j) s1;generalize hs':walks (aA us) (ts.take j) s1=s' at hkp' ⊢;refine gG ⟨?_⟩;rw [show (List.map (fun k=>[D.int IntKind.i64 k]) (Nd.mk kind n text names kids).kids).length=kids.length by simp];refine gP (fun h=>⟨?_⟩) fun h=>⟨?_⟩
  ·have hlt:j < ts.length:=by rw [htl];simpa using h
   obtain ⟨kk,hk1,hk2⟩:=eX hsubs (aa hlt);refine ah.exD (row:=[.int .i64 kk]) (by simp [hk1]) (by omega) rfl ?_;refine gG ⟨?_⟩;have hsz:szs (ts.take j)+ts[j].sz<=szs ts:=by
    have:=congrArg szs (List.take_append_drop j ts);rw [av hlt,gB] at this;simp only [szs] at this;omega
   have hn:=hkp'.len;have hn1:=hkp'.1;have hm1:=hm.1;refine gC [0] (hall ts[j] (aZ hlt) s' kk hk2 (ep hws _ (aZ hlt)) (by omega) (by omega)) ⟨?_⟩;rw [aC (by omega)];refine (ih (j+1) hlt (by omega)).to rfl ?_;rw [aG hlt,gS,hs'];rfl
  ·have hge:ts.length<=j:=by
    have:¬ (j < kids.length):=by simpa using h
    omega
   rw [ae hge,hs2] at hs';subst hs';by_cases h11:kind=11
   ·rw [aj h11];refine gY ⟨?_⟩ (by simpa using h11);exact gC [0] (zM hP s2 ns root text k (by omega) (by rw [hkp.1,hm.1];omega)) ⟨lW ⟨⟨rfl,trivial⟩,rfl⟩⟩
   ·rw [ab h11];exact gX ⟨lW ⟨⟨rfl,trivial⟩,rfl⟩⟩ (by simpa using h11)
 refine eN hP Al ⟨gD (bM hnd) ⟨?_⟩ h0⟩;have slot:kind=5\/kind=12->(au s.names text < 0->s.fail 11 k=s1)/\(¬ au s.names text < 0->s=s1):=by
  intro h;rw [<- hs1,Sc.meet,aj h];exact ⟨fun h=>by rw [aj h],fun h=>by rw [ab h]⟩
 by_cases h5:kind=5
 ·refine gY ⟨gC [0] (zL hP s ns root text (by omega)) ⟨gP (fun h=>⟨?_⟩) fun h=>⟨?_⟩⟩⟩ (by simpa using h5)
  ·refine gC [0] (zJ hP s ns root 11 k) ⟨?_⟩;rw [(slot (.inl h5)).1 (ai h)];exact tail.toC rfl rfl
  ·rw [<- (slot (.inl h5)).2 (ao h)] at tail;exact tail.toC rfl rfl
 refine gX ⟨?_⟩ (by simpa using h5);by_cases h12:kind=12
 ·refine gY ⟨gC [0] (zL hP s ns root text (by omega)) ⟨gP (fun h=>⟨?_⟩) fun h=>⟨?_⟩⟩⟩ (by simpa using h12)
  ·refine gC [0] (zJ hP s ns root 11 k) ⟨?_⟩;rw [(slot (.inr h12)).1 (ai h)];exact tail.toC rfl rfl
  ·rw [<- (slot (.inr h12)).2 (ao h)] at tail;exact tail.toC rfl rfl
 refine gX ⟨?_⟩ (by simpa using h12);have h512:¬ (kind=5\/kind=12):=by omega
 by_cases h10:kind=10
 ·refine gY ⟨gO (k87 hP text) ⟨gO hc179 ⟨?_⟩⟩⟩ (by simpa using h10);rw [Sc.meet,ab h512,aj h10,htl] at hs1;have fin:∀ m:Int,0<=m->(if m≠(kids.length:Int) then s.fail 14 k else s)=s1->b4 C 1 [] (fun v os'=>v= .tup []/\os'=[some ((if kind=11 then s2.declare text k else s2).aY ns root)])
    (Cfg.dy Al.l 0 [(0,.ptr 0 0 0),(1,.d (.int .i64 k)),(4,.ptr 1 0 0),(5,.d (.int .i64 m))] [(0,s.aY ns root),(1,.st ((Nd.enc ⟨kind,n,text,names,kids⟩).map .d))] 2):=by
   intro m hm0 hms;refine gT ⟨?_⟩;refine gX ⟨gP (fun h=>⟨?_⟩) fun h=>⟨?_⟩⟩ (by simp;omega)
   ·refine gC [0] (zJ hP s ns root 14 k) ⟨?_⟩;rw [aj (by simpa using h)] at hms;rw [hms];exact tail.toC rfl rfl
   ·rw [ab (by simpa using h)] at hms;rw [<- hms] at tail;exact tail.toC rfl rfl
  cases hq:(aX us).find? (fun f=>decide (f.text=text)) with
  | some f =>
   have hfm:=jw hus f (List.mem_of_find?_eq_some hq);have hfa:iA us text=f.ix:=by simp [iA,hq]
   have hsp:aA us text=some (f.names.length:Int):=by simp [aA,hq]
   match f,hfm,hfa,hsp with
   | .mk fi fk fn ft fnm fks,hfm,hfa,hsp =>
   obtain ⟨_,fkids,f0,f1,_⟩:=hfm;rw [hfa];refine gY ⟨gD (bM f1) ⟨?_⟩ f0⟩ (by simpa using f0);rw [Sc.call,arity,hsp] at hs1;exact (fin (fnm.length:Int) (by omega) hs1).toC (by simp) rfl
  | none =>
   have hfa:iA us text= -1:=by simp [iA,hq]
   have hsp:aA us text=none:=by simp [aA,hq]
   rw [hfa];rw [Sc.call,arity,hsp] at hs1;refine gX ⟨?_⟩;cases hks:db text with
   | none =>
    have hco:j7 text= -1:=by rw [j7,hks]
    rw [hks] at hs1;replace hs1:s.fail 11 k=s1:=hs1;rw [hco];refine gT ⟨gY ⟨gC [0] (zJ hP s ns root 11 k) ⟨?_⟩⟩⟩;rw [hs1];exact tail.toC rfl rfl
   | some ks =>
    have hco:j7 text=(ks.length:Int):=by rw [j7,hks]
    rw [hks] at hs1;rw [hco];exact (fin (ks.length:Int) (by omega) hs1).toC rfl rfl
 ·refine gX ⟨gX ⟨gX ⟨gX ⟨?_⟩ (by simpa using h17)⟩ (by simpa using h18)⟩ (by simpa using h20)⟩ (by simpa using h10);rw [Sc.meet,ab h512,ab h10] at hs1;rw [<- hs1] at tail;exact tail.toC rfl rfl
mutual
theorem zf (ns:List Nd) (root:Int) (rd:Nd) (h0r:0<=root) (hrd:ns[root.toNat]?=some rd) (us:List Tr) (hus:dx ns us rd.kids) (hul:us.length<=1073741824):∀ t:Tr,zd C ns root (aA us) t
 | .mk ix kind n text names kids=>Ar hP ns root rd h0r hrd us hus hul ix kind n text names kids (mS ns root rd h0r hrd us hus hul kids)
theorem mS (ns:List Nd) (root:Int) (rd:Nd) (h0r:0<=root) (hrd:ns[root.toNat]?=some rd) (us:List Tr) (hus:dx ns us rd.kids) (hul:us.length<=1073741824):∀ l:List Tr,∀ t∈l,zd C ns root (aA us) t
 | []=>by simp
 | a::l=>by
  have h1:=zf ns root rd h0r hrd us hus hul a;have h2:=mS ns root rd h0r hrd us hus hul l;intro t h;rcases aQ.1 h with rfl | h
  ·exact h1
  ·exact h2 t h
end
def lz (ns:List Nd) (root:Int):V:= .agg [.d (.imm 5 (ns.map Nd.enc)),.d (.int .i64 root)]
omit hP in
theorem sN (w:List UInt8) (k:Int) (s:Sc) (ho:s.own=0):s.declare w k=(if w∈s.names then s.fail 12 k else s).cq w k:=by rw [Sc.declare,ho,aq]
theorem Gb (ns:List Nd) (root k:Int) (nd:Nd) (h0:0<=k) (hnd:ns[k.toNat]?=some nd) (hnm:nd.names.length<=300):Fn C 124 [lz ns root,.d (.int .i64 k)] [] (.ptr 0 0 0) [some ((Sc.dj k [] (bP (decide (k=root)) nd.names) Sc.zero).aY ns root)]:=by
 refine eN hP c124 ⟨?_⟩;by_cases hr:k=root
 ·refine gY ⟨gC [1] (zM hP Sc.zero ns root yt k (by simp [Sc.zero]) (by simp [Sc.zero])) ⟨?_⟩⟩ (by simpa using hr);have e:Sc.dj k [] (bP (decide (k=root)) nd.names) Sc.zero=Sc.zero.declare yt k:=by
   rw [bP,aj (by simpa using hr)];rfl
  rw [e];exact lW ⟨⟨rfl,trivial⟩,rfl⟩
 ·refine gX ⟨?_⟩ (by simpa using hr);rw [bP,ab (by simpa using hr)];generalize hS1:Sc.dj k [] nd.names Sc.zero=S1;refine ah.loop (fun x:Nat×Sc=>nd.names.length - x.1) (fun x=>x.1<=nd.names.length/\x.2.names=nd.names.take x.1/\x.2.own=0/\Sc.dj k (nd.names.take x.1) (nd.names.drop x.1) x.2=S1) (fun x=>[(1,.d (.int .i64 k)),(2,.ptr 0 0 0),(4,.iM),(5,.ptr 1 0 0),(6,.d (.int .i64 (x.1:Nat)))]) (fun x=>[(0,.st [.d (.imm 5 (ns.map Nd.enc)),.d (.int .i64 root)]),(1,x.2.aY ns root)]) 2 ?_ (0,Sc.zero) ⟨by simp,by simp [Sc.zero],rfl,hS1⟩;intro ⟨j,s'⟩ ⟨hj,hn',ho',hb'⟩ ih;simp only at hj hn' ho' hb' ih ⊢;refine gG ⟨gD (bM hnd) ⟨?_⟩ h0⟩;rw [show (List.map (fun w=>[D.str w]) nd.names).length=nd.names.length by simp];refine gP (fun h=>⟨?_⟩) fun h=>⟨?_⟩
  ·have hlt:j < nd.names.length:=by simpa using h
   refine gD (bM hnd) ⟨?_⟩ h0;refine ah.exD (row:=[.str nd.names[j]]) (by simp [aa hlt]) (by omega) rfl ?_;refine gG ⟨?_⟩;have hd:nd.names.drop j=nd.names[j]::nd.names.drop (j+1):=av hlt;have htk:nd.names.take (j+1)=nd.names.take j++[nd.names[j]]:=aG hlt;have hl':s'.names.length<=300:=by rw [hn'];simp;omega
   rw [hd] at hb';generalize nd.names[j]=w at hd htk hb' ⊢;rw [Sc.dj,<- htk] at hb';refine gC [1] (zM hP s' ns root w k (by omega) (by omega)) ⟨?_⟩;rw [aC (by omega)];have hde:s'.declare w k=(if w∈nd.names.take j then s'.fail 12 k else s').cq w k:=by rw [sN w k s' ho',hn']
   refine (ih (j+1,s'.declare w k) ⟨hlt,?_,?_,?_⟩ (by simp only;omega)).to rfl rfl
   ·simp only;rw [hde,bZ,htk,<- hn'];split<;>simp [eR]
   ·simp only;rw [hde,fK];split<;>simp [l9,ho']
   ·simp only;rw [hde];exact hb'
  ·have hge:nd.names.length<=j:=by simpa using h
   rw [List.drop_of_length_le hge,Sc.dj] at hb';subst hb';exact lW ⟨⟨rfl,trivial⟩,rfl⟩
theorem k88 (ns:List Nd) (root:Int) (rd:Nd) (h0r:0<=root) (hrd:ns[root.toNat]?=some rd) (us:List Tr) (hus:dx ns us rd.kids) (hul:us.length<=1073741824)
  (ix kind n:Int) (text:List UInt8) (names:List (List UInt8)) (ts:List Tr) (kids:List Int) (h0:0<=ix) (hnd:ns[ix.toNat]?=some ⟨kind,n,text,names,kids⟩) (hsubs:dx ns ts kids) (hw:wfs ts)
  (hb:szs ts<=536870912) (hnm:names.length<=300) (hk:ix≠root->∃ b,ts=[b]) :
  Fn C 88 [lz ns root,.d (.int .i64 ix)] [] (.ptr 0 0 0) [some ((c7 (aA us) (decide (ix=root)) ix names ts Sc.zero).aY ns root)]:=by
 have htl:=eP hsubs;have hlz:=fC ts;have hall:=mS hP ns root rd h0r hrd us hus hul ts;have c124:=Gb hP ns root ix _ h0 hnd hnm;have hbl:(bP (decide (ix=root)) names).length<=300:=by
  unfold bP;split
  ·simp
  ·exact hnm
 rw [c7];rw [show Sc.zero.kn=Sc.zero from rfl];have hkb:=jC ix [] (bP (decide (ix=root)) names) Sc.zero;simp only at c124;generalize Sc.dj ix [] (bP (decide (ix=root)) names) Sc.zero=S1 at c124 hkb ⊢;have hkl:=hkb.len;have ho1:S1.own=0:=hkb.1;have hn1:S1.names.length<=300:=by simp [Sc.zero] at hkl;omega
 refine eN hP c88 ⟨gO c124 ⟨?_⟩⟩;by_cases hr:ix=root
 ·refine gY ⟨?_⟩ (by simpa using hr);refine ah.loop (fun j:Nat=>ts.length - j) (fun j=>j<=ts.length) (fun j=>[(1,.d (.int .i64 ix)),(2,.ptr 0 0 0),(4,.iM),(5,.ptr 1 0 0),(6,.d (.int .i64 (j:Nat)))]) (fun j=>[(0,.st [.d (.imm 5 (ns.map Nd.enc)),.d (.int .i64 root)]),(1,(walks (aA us) (ts.take j) S1).aY ns root)]) 2 ?_ 0 (by omega);intro j hj ih;have hkp':=b5 (aA us) (ts.take j) S1;generalize hs':walks (aA us) (ts.take j) S1=s' at hkp' ⊢;refine gG ⟨gD (bM hnd) ⟨?_⟩ h0⟩;rw [show (List.map (fun k=>[D.int IntKind.i64 k]) (Nd.mk kind n text names kids).kids).length=kids.length by simp];refine gP (fun h=>⟨?_⟩) fun h=>⟨?_⟩
  ·have hlt:j < ts.length:=by rw [htl];simpa using h
   obtain ⟨kk,hk1,hk2⟩:=eX hsubs (aa hlt);refine gD (bM hnd) ⟨?_⟩ h0;refine ah.exD (row:=[.int .i64 kk]) (by simp [hk1]) (by omega) rfl ?_;refine gG ⟨?_⟩;have hsz:szs (ts.take j)+ts[j].sz<=szs ts:=by
    have:=congrArg szs (List.take_append_drop j ts);rw [av hlt,gB] at this;simp only [szs] at this;omega
   have hn:=hkp'.len;have hn1':=hkp'.1;refine gC [1] (hall ts[j] (aZ hlt) s' kk hk2 (ep hw _ (aZ hlt)) (by omega) (by omega)) ⟨?_⟩;rw [aC (by omega)];refine (ih (j+1) hlt (by omega)).to rfl ?_;rw [aG hlt,gS,hs'];rfl
  ·have hge:ts.length<=j:=by
    have:¬ (j < kids.length):=by simpa using h
    omega
   rw [ae hge] at hs';subst hs';exact lW ⟨⟨rfl,trivial⟩,rfl⟩
 ·obtain ⟨b,rfl⟩:=hk hr
  match kids,hsubs with
  | [kb],hsubs =>
  refine gX ⟨gD (bM hnd) ⟨?_⟩ h0⟩ (by simpa using hr);refine ah.exD (row:=[.int .i64 kb]) rfl (by omega) rfl ?_;refine gG ⟨?_⟩;exact gC [1] (hall b (by simp) S1 kb hsubs.1 hw.1 (by simp [szs] at hb;omega) (by omega)) ⟨lW ⟨⟨rfl,trivial⟩,rfl⟩⟩
def jT:List Tr->List (List UInt8)->Option (Int×Int)
 | [],_=>none
 | f::l,seen=>if f.text∈seen then some (12,f.ix) else if (db f.text).isSome=true then some (12,f.ix) else if seen.length=8\/4 < f.names.length then some (6,f.ix) else jT l (seen++[f.text])
def jS (ar:List UInt8->Option Int) (root:Int):List Tr->Option (Int×Int)
 | []=>none
 | f::l=>let s:=c7 ar (decide (f.ix=root)) f.ix f.names f.kids Sc.zero;if s.code≠0 then some (s.code,s.node) else jS ar root l
def gM (root:Int) (r:Tr):Int×Int:=match jT (aX r.kids) [] with
 | some f=>f
 | none=>match jS (aA r.kids) root (aX r.kids) with
  | some f=>f
  | none=>let s:=c7 (aA r.kids) true root r.names r.kids Sc.zero;(s.code,s.node)
theorem k52 (ns:List Nd) (root:Int) (text0:List UInt8) (names0:List (List UInt8)) (n:Int) (ts:List Tr) (kids:List Int) (h0:0<=root) (hnd:ns[root.toNat]?=some ⟨18,n,text0,names0,kids⟩) (hs:dx ns ts kids) (hw:wfs ts) (hb:szs ts<=536870912) (hnm:names0=[]) :
  Fn C 52 [lz ns root] [] (.agg [.d (.int .i64 (gM root (.mk root 18 n text0 names0 ts)).1),.d (.int .i64 (gM root (.mk root 18 n text0 names0 ts)).2)]) []:=by
 refine eN hP c52 ⟨gD (bM hnd) ⟨?_⟩ h0⟩;have htl:=eP hs;have hlz:=fC ts;generalize hM:gM root (.mk root 18 n text0 names0 ts)=M;refine ah.loop (fun x:Nat×List (List UInt8)=>ts.length - x.1) (fun x=>x.1<=ts.length/\x.2.length<=x.1/\jT (aX (ts.drop x.1)) x.2=jT (aX ts) []) (fun x=>[(1,.ptr 0 0 0),(2,.ptr 1 0 0),(3,.d (bJ kids)),(4,.arr 2 0 x.2.length),(5,.d (.int .i64 (x.1:Nat)))])
  (fun x=>[(0,.st [.d (.imm 5 (ns.map Nd.enc)),.d (.int .i64 root)]),(1,.st [.d (.int .i64 0),.d (.int .i64 0)]),(2,.da 1 (bd x.2))]) 3 ?_ (0,[]) ⟨by simp,by simp,rfl⟩
 intro ⟨j,seen⟩ ⟨hj,hse,hA⟩ ih;simp only at hj hse hA ih ⊢;refine gG ⟨?_⟩;rw [show (List.map (fun k=>[D.int IntKind.i64 k]) kids).length=kids.length by simp];refine gP (fun h=>⟨?_⟩) fun h=>⟨?_⟩
 ·have hlt:j < ts.length:=by rw [htl];simpa using h
  obtain ⟨k,hk1,hk2⟩:=eX hs (aa hlt);have hkr:(List.map (fun k=>[D.int IntKind.i64 k]) kids)[((j:Nat):Int).toNat]?=some [.int .i64 k]:=by simp [hk1]
  refine gD hkr ⟨?_⟩;rw [av hlt] at hA;generalize ts[j]=u at hk2 hA
  match u,hk2,hA with
  | .mk ix kind m text names ks,hk2,hA =>
  obtain ⟨hki,kids',k0,hnk,_⟩:=hk2;refine gD (bM hnk) ⟨gP (fun h20=>⟨?_⟩) fun h20=>⟨?_⟩⟩ k0
  ·rw [aC (by omega)];have h20:¬ kind=20:=by simpa using h20
   rw [show aX (Tr.mk ix kind m text names ks::ts.drop (j+1))=aX (ts.drop (j+1)) by simp [aX,Tr.kind,h20]] at hA;exact (ih (j+1,seen) ⟨hlt,by simp only;omega,hA⟩ (by simp only;omega)).to rfl rfl
  ·have h20:kind=20:=by simpa using h20
   rw [show aX (Tr.mk ix kind m text names ks::ts.drop (j+1))=Tr.mk ix kind m text names ks::aX (ts.drop (j+1)) by simp [aX,Tr.kind,h20]] at hA;have hRet:∀ c:Int,jT (aX ts) []=some (c,ix)->M=(c,k):=by
    intro c hc;rw [<- hM,gM,show (Tr.mk root 18 n text0 names0 ts).kids=ts from rfl,hc,hki]
   refine ah.loop (fun i:Nat=>seen.length - i) (fun i=>i<=seen.length/\¬ text∈seen.take i) (fun i=>[(1,.ptr 0 0 0),(2,.ptr 1 0 0),(3,.d (bJ kids)),(4,.arr 2 0 seen.length),(5,.d (.int .i64 (j:Nat))),(6,.ptr 3 0 0),(7,.d (.int .i64 (i:Nat)))])
    (fun i=>[(0,.st [.d (.imm 5 (ns.map Nd.enc)),.d (.int .i64 root)]),(1,.st [.d (.int .i64 0),.d (.int .i64 0)]),(2,.da 1 (bd seen)),(3,.st ((Nd.enc ⟨kind,m,text,names,kids'⟩).map .d))]) 4 ?_ 0 ⟨by omega,by simp⟩
   intro i ⟨hi,hni⟩ ih2;refine gG ⟨gP (fun h=>⟨?_⟩) fun h=>⟨?_⟩⟩
   ·have hilt:i < seen.length:=by simpa using h
    refine gN ?_ ⟨?_⟩
    ·omega
    refine ah.exD (row:=[.str seen[i]]) (by simp [bd,aa hilt]) trivial rfl ?_;refine gG ⟨?_⟩;have htk:seen.take (i+1)=seen.take i++[seen[i]]:=aG hilt;have hmem:seen[i]∈seen:=aZ hilt;generalize seen[i]=w at htk hmem ⊢;refine gP (fun hw=>⟨?_⟩) fun hw=>⟨?_⟩
    ·have hw:w=text:=by simpa using hw
     refine gD hkr ⟨?_⟩;rw [jT,aj (by show text∈seen;rw [<- hw];exact hmem)] at hA;rw [hRet 12 hA.symm];exact lW ⟨trivial,rfl⟩
    ·rw [aC (by omega)];have hw:¬ text=w:=fun e=>by simp [e] at hw
     exact (ih2 (i+1) ⟨hilt,by rw [htk];simp [hni,hw]⟩ (by omega)).to rfl rfl
   ·have hge:seen.length<=i:=by simpa using h
    rw [ae hge] at hni;rw [jT,ab (by exact hni)] at hA;refine gO (k87 hP text) ⟨?_⟩;have hco:(decide (0<=j7 text))=(db text).isSome:=by
     unfold j7;cases db text with
     | none=>rfl
     | some ks=>simp
    rw [hco];cases hks:(db text).isSome with
    | true =>
     refine gY ⟨gD hkr ⟨?_⟩⟩;rw [aj (by exact hks)] at hA;rw [hRet 12 hA.symm];exact lW ⟨trivial,rfl⟩
    | false =>
     refine gX ⟨?_⟩;rw [ab (by simp [Tr.text,hks])] at hA;have bad:(seen.length=8\/4 < names.length)->M=(6,k):=fun hh=>by
      rw [aj (by exact hh)] at hA;exact hRet 6 hA.symm
     refine gP (fun h8=>⟨?_⟩) fun h8=>⟨?_⟩
     ·refine gD hkr ⟨?_⟩;rw [bad (.inl (by simp at h8;omega))];exact lW ⟨trivial,rfl⟩
     ·refine gP (fun h4=>⟨?_⟩) fun h4=>⟨?_⟩
      ·refine gD hkr ⟨?_⟩;rw [bad (.inr (by simp at h4;omega))];exact lW ⟨trivial,rfl⟩
      ·rw [ab (by simp at h4 h8;simp only [Tr.names];omega)] at hA;refine gN ?_ ⟨?_⟩
       ·show seen.length+1<=_;omega
       rw [aC (by omega)];refine (ih (j+1,seen++[text]) ⟨hlt,by simp;omega,hA⟩ (by simp only;omega)).to ?_ ?_
       ·simp [Sh.len]
       ·rw [aq,ae (by simp [bd])];simp [bd]
 ·have hge:ts.length<=j:=by
   have:¬ (j < kids.length):=by simpa using h
   omega
  rw [List.drop_of_length_le hge] at hA;replace hA:jT (aX ts) []=none:=hA.symm;clear ih hse hj hge h;have hM1:M=(match jS (aA ts) root (aX ts) with
   | some f=>f
   | none=>let s:=c7 (aA ts) true root names0 ts Sc.zero;(s.code,s.node)):=by
   rw [<- hM,gM,show (Tr.mk root 18 n text0 names0 ts).kids=ts from rfl,hA];rfl
  refine ah.loop (fun j:Nat=>ts.length - j) (fun j=>j<=ts.length/\jS (aA ts) root (aX (ts.drop j))=jS (aA ts) root (aX ts)) (fun j=>[(1,.ptr 0 0 0),(2,.ptr 1 0 0),(3,.d (bJ kids)),(8,.d (.int .i64 (j:Nat)))])
   (fun _=>[(0,.st [.d (.imm 5 (ns.map Nd.enc)),.d (.int .i64 root)]),(1,.st [.d (.int .i64 0),.d (.int .i64 0)])]) 2 ?_ 0 ⟨by simp,rfl⟩
  intro j ⟨hj,hB⟩ ih;refine gG ⟨?_⟩;rw [show (List.map (fun k=>[D.int IntKind.i64 k]) kids).length=kids.length by simp];refine gP (fun h=>⟨?_⟩) fun h=>⟨?_⟩
  ·have hlt:j < ts.length:=by rw [htl];simpa using h
   obtain ⟨k,hk1,hk2⟩:=eX hs (aa hlt);have hkr:(List.map (fun k=>[D.int IntKind.i64 k]) kids)[((j:Nat):Int).toNat]?=some [.int .i64 k]:=by simp [hk1]
   have hwf:=ep hw ts[j] (aZ hlt);have hsz:ts[j].sz<=szs ts:=mo (aZ hlt);refine gD hkr ⟨?_⟩;rw [av hlt] at hB;generalize ts[j]=u at hk2 hB hwf hsz
   match u,hk2,hB,hwf,hsz with
   | .mk ix kind m text names ks,hk2,hB,hwf,hsz =>
   obtain ⟨hki,kids',k0,hnk,hsk⟩:=hk2;subst hki;refine gD (bM hnk) ⟨gP (fun h20=>⟨?_⟩) fun h20=>⟨?_⟩⟩ k0
   ·have h20:kind=20:=by simpa using h20
    rw [show aX (Tr.mk k kind m text names ks::ts.drop (j+1))=Tr.mk k kind m text names ks::aX (ts.drop (j+1)) by simp [aX,Tr.kind,h20],jS] at hB;subst h20;have hsh:=hwf.1.2.2;simp at hsh;obtain ⟨hsh1,b,hb1,_⟩:=hsh;refine gD hkr ⟨?_⟩;simp only [Tr.sz] at hsz;have c88:=k88 hP ns root _ h0 hnd ts hs (by omega) k 20 m text names ks kids' k0 hnk hsk hwf.2 (by omega) hsh1 (fun _=>⟨b,hb1⟩);replace hB:(if (c7 (aA ts) (decide (k=root)) k names ks Sc.zero).code≠0 then some ((c7 (aA ts) (decide (k=root)) k names ks Sc.zero).code,(c7 (aA ts) (decide (k=root)) k names ks Sc.zero).node) else jS (aA ts) root (aX (ts.drop (j+1))))=jS (aA ts) root (aX ts):=hB;generalize c7 (aA ts) (decide (k=root)) k names ks Sc.zero=S at hB c88;refine gO c88 ⟨gP (fun hc=>⟨?_⟩) fun hc=>⟨?_⟩⟩
    ·rw [aj (by simpa using hc)] at hB;rw [<- hB] at hM1;rw [hM1];exact lW ⟨trivial,rfl⟩
    ·rw [ab (by simpa using hc)] at hB;rw [aC (by omega)];exact (ih (j+1) ⟨hlt,hB⟩ (by omega)).to rfl rfl
   ·have h20:¬ kind=20:=by simpa using h20
    rw [show aX (Tr.mk k kind m text names ks::ts.drop (j+1))=aX (ts.drop (j+1)) by simp [aX,Tr.kind,h20]] at hB;rw [aC (by omega)];exact (ih (j+1) ⟨hlt,hB⟩ (by omega)).to rfl rfl
  ·have hge:ts.length<=j:=by
    have:¬ (j < kids.length):=by simpa using h
    omega
   rw [List.drop_of_length_le hge] at hB;rw [<- hB] at hM1;replace hM1:M=((c7 (aA ts) true root names0 ts Sc.zero).code,(c7 (aA ts) true root names0 ts Sc.zero).node):=hM1;have c88:=k88 hP ns root _ h0 hnd ts hs (by omega) root 18 n text0 names0 ts kids h0 hnd hs hw hb (by simp [hnm]) (fun hh=>absurd rfl hh);rw [aR rfl] at c88;generalize c7 (aA ts) true root names0 ts Sc.zero=S at hM1 c88;refine gO c88 ⟨?_⟩;rw [hM1];exact lW ⟨trivial,rfl⟩
end
theorem oZ (w t:List UInt8) (k:D) (h:eV (.str w) k=true):k= .str w:=by
 cases k<;>simp [eV] at h
 rw [h]
theorem mB:∀ (es:List (D×Int)) (w t:List UInt8) (v:Int),cJ (dd es (.str w) v) (.str t)=(cJ es (.str t) || decide (w=t))
 | [],w,t,v=>by
  simp only [dd,cJ,eV,Bool.false_or];by_cases h:w=t
  ·simp [h]
  ·have:¬ t=w:=fun e=>h e.symm
   simp [h,this]
 | (k,x)::l,w,t,v=>by
  unfold dd;by_cases h:eV (.str w) k=true
  ·rw [aj h];have:=oZ w t k h;subst this;simp only [cJ,eV];by_cases e:t=w
   ·simp [e]
   ·have:¬ w=t:=fun h=>e h.symm
    simp [e,this]
  ·rw [ab h];simp only [cJ];by_cases e:eV (.str t) k=true
   ·simp [e]
   ·simp only [e,aV];exact mB l w t v
theorem uZ:∀ (es:List (D×Int)) (w t:List UInt8) (v:Int),cL (dd es (.str w) v) (.str t)=if w=t then v else cL es (.str t)
 | [],w,t,v=>by
  simp only [dd,cL,eV];by_cases h:w=t
  ·simp [h]
  ·have:¬ t=w:=fun e=>h e.symm
   simp [h,this]
 | (k,x)::l,w,t,v=>by
  unfold dd;by_cases h:eV (.str w) k=true
  ·rw [aj h];have:=oZ w t k h;subst this;simp only [cL,eV];by_cases e:t=w
   ·simp [e]
   ·have:¬ w=t:=fun h=>e h.symm
    simp [e,this]
  ·rw [ab h];simp only [cL];by_cases e:eV (.str t) k=true
   ·have:=oZ t t k e;subst this;have:¬ w=t:=fun he=>h (by simp [eV,he])
    simp [eV,this]
   ·simp only [e,aV];exact uZ l w t v
theorem mc (i:Nat) (f:Tr) (s:Sc) (es:List (D×Int)):(dZ i f (s,es)).2=if cJ es (.str f.text)=true then es else dd es (.str f.text) f.ix:=by
 unfold dZ;simp only;split<;>rfl
theorem xa:∀ (l:List Tr) (i:Nat) (s:Sc) (es:List (D×Int)) (t:List UInt8),cJ (cZ i l (s,es)).2 (.str t)=(cJ es (.str t) || l.any fun f=>decide (f.text=t))
 | [],i,s,es,t=>by simp [cZ]
 | f::l,i,s,es,t=>by
  rw [cZ];rw [show dZ i f (s,es)=((dZ i f (s,es)).1,(dZ i f (s,es)).2) from rfl,xa l (i+1),mc,List.any_cons];split
  ·rename_i h;by_cases e:f.text=t
   ·subst e;simp [h]
   ·simp [e]
  ·rw [mB,Bool.or_assoc]
theorem xb:∀ (l:List Tr) (i:Nat) (s:Sc) (es:List (D×Int)) (t:List UInt8),(∀ f,l.find? (fun f=>decide (f.text=t))=some f->cJ es (.str t)=false->cL (cZ i l (s,es)).2 (.str t)=f.ix)/\(cJ es (.str t)=true->cL (cZ i l (s,es)).2 (.str t)=cL es (.str t))
 | [],i,s,es,t=>⟨fun f h=>by simp at h,fun _=>by simp [cZ]⟩
 | f::l,i,s,es,t=>by
  have ih:=xb l (i+1) (dZ i f (s,es)).1 (dZ i f (s,es)).2 t;rw [cZ];rw [mc] at ih;refine ⟨fun g hg he=>?_,fun he=>?_⟩
  ·rw [List.find?_cons] at hg;by_cases e:f.text=t
   ·simp only [e,decide_true] at hg;cases hg;subst e;rw [he] at ih;have:=ih.2 (by simp [mB]);rw [show dZ i f (s,es)=((dZ i f (s,es)).1,(dZ i f (s,es)).2) from rfl,mc,he];rw [this];simp [uZ]
   ·simp only [e,decide_false] at hg;have hh:cJ (if cJ es (.str f.text)=true then es else dd es (.str f.text) f.ix) (.str t)=false:=by
     split
     ·exact he
     ·rw [mB,he];simp [e]
    have:=ih.1 g hg hh;rw [show dZ i f (s,es)=((dZ i f (s,es)).1,(dZ i f (s,es)).2) from rfl,mc];exact this
  ·have hh:cJ (if cJ es (.str f.text)=true then es else dd es (.str f.text) f.ix) (.str t)=true:=by
    split
    ·exact he
    ·rw [mB,he];rfl
   have:=ih.2 hh;rw [show dZ i f (s,es)=((dZ i f (s,es)).1,(dZ i f (s,es)).2) from rfl,mc];rw [this];split
   ·rfl
   ·rename_i hx;rw [uZ,ab];intro e;subst e;exact hx he
theorem B6 (hs:dx ns ts kids) (s:Sc):arM ns (cZ 0 (aX ts) (s,[])).2=aA ts:=by
 funext t
 have hf:=jw hs;unfold arM aA;have h1:=xa (aX ts) 0 s [] t;simp only [cJ,Bool.false_or] at h1;cases hq:(aX ts).find? (fun f=>decide (f.text=t)) with
 | none =>
  have:(aX ts).any (fun f=>decide (f.text=t))=false:=by
   rw [List.find?_eq_none] at hq;rw [List.any_eq_false];exact hq
  rw [this] at h1;rw [h1];rfl
 | some f =>
  have hm:=List.mem_of_find?_eq_some hq;have hp:=List.find?_some hq;have:(aX ts).any (fun f=>decide (f.text=t))=true:=List.any_eq_true.2 ⟨f,hm,hp⟩;rw [this] at h1;rw [h1];have h2:=(xb (aX ts) 0 s [] t).1 f hq rfl;rw [h2];have:=hf f hm;cases f with
  | mk ix kind n text names ks =>
   obtain ⟨_,kids,k0,k1,_⟩:=this;simp only [k1,aS];rfl
def ie (s s':Sc):Prop:=(s.code≠0->s'.code=s.code/\s'.node=s.node)/\(s.code=0->s'.code=0->s'.node=s.node)
theorem ie.same (h1:s'.code=s.code) (h2:s'.node=s.node):ie s s':=⟨fun _=>⟨h1,h2⟩,fun _ _=>h2⟩
theorem ie.refl (s:Sc):ie s s:= .same rfl rfl
theorem ie.trans {s'':Sc} (h:ie s s') (h':ie s' s''):ie s s'':=by
 refine ⟨fun h0=>?_,fun h0 h1=>?_⟩
 ·obtain ⟨h1,h2⟩:=h.1 h0;obtain ⟨h3,h4⟩:=h'.1 (by rw [h1];exact h0);exact ⟨h3.trans h1,h4.trans h2⟩
 ·by_cases h2:s'.code=0
  ·exact (h'.2 h2 h1).trans (h.2 h0 h2)
  ·exact absurd (((h'.1 h2).1).symm.trans h1) h2
theorem gl (c k:Int) (s:Sc) (hc:c≠0):ie s (s.fail c k):=by
 unfold Sc.fail;by_cases h:s.code=0
 ·rw [aj h];exact ⟨fun h'=>absurd h h',fun _ h'=>absurd h' hc⟩
 ·rw [ab h];exact .refl _
theorem nw (t:List UInt8) (k:Int) (s:Sc):ie s (s.cq t k):=by
 unfold Sc.cq;simp only;refine ie.trans (s':={s with names:=s.names++[t],di:=max s.di (s.names.length+1)}) (.same rfl rfl) ?_;split
 ·exact gl 7 k _ (by decide)
 ·exact .refl _
theorem Ad (ar:List UInt8->Option Int) (t:List UInt8) (n:Nat) (k:Int) (s:Sc):ie s (s.call ar t n k):=by
 unfold Sc.call;split
 ·exact gl _ _ _ (by decide)
 ·split
  ·exact gl _ _ _ (by decide)
  ·exact .refl _
theorem zE (ar:List UInt8->Option Int) (kind:Int) (t:List UInt8) (n:Nat) (k:Int) (s:Sc):ie s (s.meet ar kind t n k):=by
 unfold Sc.meet;split
 ·split
  ·exact gl _ _ _ (by decide)
  ·exact .refl _
 ·split
  ·exact Ad _ _ _ _ _
  ·exact .refl _
theorem od (t:List UInt8) (k:Int) (s:Sc):ie s (s.declare t k):=by
 unfold Sc.declare;refine ie.trans ?_ (nw t k _);split
 ·exact gl _ _ _ (by decide)
 ·exact .refl _
mutual
theorem oA (ar:List UInt8->Option Int):∀ (t:Tr) (s:Sc),ie s (t.walk ar s)
 | .mk ix kind n text names kids,s=>by
  unfold Tr.walk;split
  ·exact .refl _
  split
  ·exact uc ar text ix s.names.length kids s
  split
  ·have h:=dX ar kids {s with own:=s.names.length};exact h
  ·have h2:=(zE ar kind text kids.length ix s).trans (dX ar kids _);simp only;split
   ·exact h2.trans (od text ix _)
   ·exact h2
theorem dX (ar:List UInt8->Option Int):∀ (l:List Tr) (s:Sc),ie s (walks ar l s)
 | [],s=> .refl _
 | t::l,s=>by
  unfold walks;exact (oA ar t s).trans (dX ar l _)
theorem uc (ar:List UInt8->Option Int) (text:List UInt8) (ix:Int) (n:Nat):∀ (l:List Tr) (s:Sc),ie s (dT ar text ix n l s)
 | [],s=> .refl _
 | a::l,s=>by
  unfold dT;exact (oA ar a s).trans (mO ar text ix l _)
theorem mO (ar:List UInt8->Option Int) (text:List UInt8) (ix:Int):∀ (l:List Tr) (s:Sc),ie s (dV ar text ix l s)
 | [],s=> .refl _
 | b::l,s=>by
  unfold dV;exact (nw text ix s).trans (oA ar b _)
end
theorem pP (k:Int):∀ (pre l:List (List UInt8)) (s:Sc),ie s (Sc.dj k pre l s)
 | _,[],s=> .refl _
 | pre,w::l,s=>by
  unfold Sc.dj;refine ie.trans ?_ (pP k _ l _);refine ie.trans ?_ (nw w k _);split
  ·exact gl _ _ _ (by decide)
  ·exact .refl _
theorem lP (ar:List UInt8->Option Int) (b:Bool) (k:Int) (names:List (List UInt8)) (kids:List Tr) (s:Sc):ie s (c7 ar b k names kids s):=by
 unfold c7;exact ie.trans (s':=s.kn) (.same rfl rfl) ((pP _ _ _ _).trans (dX _ _ _))
theorem lO (ar:List UInt8->Option Int) (b:Bool) (k:Int) (names:List (List UInt8)) (kids:List Tr) (h1:s.code=0) (h2:s.node=0):c7 ar b k names kids s=c7 ar b k names kids Sc.zero:=by
 unfold c7;rw [show s.kn=Sc.zero.kn by simp [Sc.kn,h1,h2,Sc.zero]]
theorem z6 (i:Nat) (f:Tr) (x:Sc×List (D×Int)):ie x.1 (dZ i f x).1:=by
 unfold dZ;simp only;have h1:ie x.1 (if (db f.text).isSome=true then x.1.fail 12 f.ix else x.1):=by
  split
  ·exact gl _ _ _ (by decide)
  ·exact .refl _
 generalize (if (db f.text).isSome=true then x.1.fail 12 f.ix else x.1)=s1 at h1 ⊢;have h2:ie x.1 (if cJ x.2 (.str f.text)=true then (s1.fail 12 f.ix,x.2) else (s1,dd x.2 (.str f.text) f.ix)).1:=by
  split
  ·exact h1.trans (gl _ _ _ (by decide))
  ·exact h1
 generalize (if cJ x.2 (.str f.text)=true then (s1.fail 12 f.ix,x.2) else (s1,dd x.2 (.str f.text) f.ix)).1=s2 at h2 ⊢;split
 ·exact h2.trans (gl _ _ _ (by decide))
 ·exact h2
theorem nr:∀ (l:List Tr) (i:Nat) (x:Sc×List (D×Int)),ie x.1 (cZ i l x).1
 | [],i,x=> .refl _
 | f::l,i,x=>by
  rw [cZ];exact (z6 i f x).trans (nr l (i+1) _)
theorem gU (ar:List UInt8->Option Int) (root:Int):∀ (l:List Tr) (x:Sc×List (D×Int)),ie x.1 (cG ar root l x).1
 | [],x=> .refl _
 | f::l,x=>by
  rw [cG];exact (lP ar (decide (f.ix=root)) f.ix f.names f.kids x.1).trans (gU ar root l (c7 ar (decide (f.ix=root)) f.ix f.names f.kids x.1,dd x.2 (.int .i64 f.ix) (c7 ar (decide (f.ix=root)) f.ix f.names f.kids x.1).di))
theorem pN:∀ (l:List Tr) (i:Nat) (s:Sc) (es:List (D×Int)) (seen:List (List UInt8)),s.code=0->s.node=0->seen.length=i->i<=8->(∀ t,cJ es (.str t)=decide (t∈seen)) ->
  (match jT l seen with
   | some f=>(cZ i l (s,es)).1.code=f.1/\(cZ i l (s,es)).1.node=f.2/\f.1≠0
   | none=>(cZ i l (s,es)).1.code=0/\(cZ i l (s,es)).1.node=0)
 | [],i,s,es,seen,h1,h2,_,_,_=>⟨h1,h2⟩
 | f::l,i,s,es,seen,h1,h2,h3,h8,h4=>by
  have failed:∀ c:Int,c≠0->(dZ i f (s,es)).1.code=c->(dZ i f (s,es)).1.node=f.ix->(cZ i (f::l) (s,es)).1.code=c/\(cZ i (f::l) (s,es)).1.node=f.ix/\c≠0:=by
   intro c hc e1 e2;rw [cZ];obtain ⟨g1,g2⟩:=(nr l (i+1) (dZ i f (s,es))).1 (by rw [e1];exact hc);exact ⟨g1.trans e1,g2.trans e2,hc⟩
  have hm:=h4 f.text;unfold jT;by_cases a1:f.text∈seen
  ·rw [aj a1];rw [aR a1] at hm;refine failed 12 (by decide) ?_ ?_;all_goals
    unfold dZ;simp only [hm,bo];repeat' split
    all_goals simp [Sc.fail,h1]
  rw [ab a1];rw [aI a1] at hm;by_cases a2:(db f.text).isSome=true
  ·rw [aj a2];refine failed 12 (by decide) ?_ ?_;all_goals
    unfold dZ;simp only [hm,a2,bo];repeat' split
    all_goals simp_all [Sc.fail]
  rw [ab a2];by_cases a3:seen.length=8\/4 < f.names.length
  ·rw [aj a3];have a3':8<=i\/4 < f.names.length:=by omega
   refine failed 6 (by decide) ?_ ?_;all_goals
    unfold dZ;simp only [hm,ab a2,aj a3'];simp [Sc.fail,h1]
  rw [ab a3];have a3':¬ (8<=i\/4 < f.names.length):=by omega
  have e:dZ i f (s,es)=(s,dd es (.str f.text) f.ix):=by
   unfold dZ;simp only [hm,ab a2,ab a3'];simp
  rw [cZ,e];refine pN l (i+1) s _ (seen++[f.text]) h1 h2 (by simp [h3]) (by omega) fun t=>?_
  rw [mB,h4];by_cases b1:t∈seen<;>by_cases b2:f.text=t<;>simp [b1,b2]<;>(intro hh;exact b2 hh.symm)
theorem nM (ar:List UInt8->Option Int) (root:Int):∀ (l:List Tr) (s:Sc) (m:List (D×Int)),s.code=0->s.node=0 ->
  (match jS ar root l with
   | some f=>(cG ar root l (s,m)).1.code=f.1/\(cG ar root l (s,m)).1.node=f.2/\f.1≠0
   | none=>(cG ar root l (s,m)).1.code=0/\(cG ar root l (s,m)).1.node=0)
 | [],s,m,h1,h2=>⟨h1,h2⟩
 | f::l,s,m,h1,h2=>by
  unfold jS;rw [cG];simp only;rw [lO ar _ _ _ _ h1 h2];have h3:=lP ar (decide (f.ix=root)) f.ix f.names f.kids Sc.zero;generalize c7 ar (decide (f.ix=root)) f.ix f.names f.kids Sc.zero=S at h3 ⊢;by_cases hc:S.code=0
  ·rw [ab (by simp [hc])];exact nM ar root l S _ hc (h3.2 rfl hc)
  ·rw [aj hc];obtain ⟨g1,g2⟩:=(gU ar root l (S,dd m (.int .i64 f.ix) S.di)).1 hc;exact ⟨g1,g2,hc⟩
theorem nN (ar:List UInt8->Option Int) (root:Int):∀ (l l':List Tr) (x:Sc×List (D×Int)),cG ar root (l++l') x=cG ar root l' (cG ar root l x)
 | [],l',x=>rfl
 | f::l,l',x=>by
  rw [cN,cG,cG];exact nN ar root l l' _
theorem wg {root:Int} {n:Int} {text:List UInt8} {names:List (List UInt8)} (hs:dx ns ts kids) :
  (gq ns root (.mk root 18 n text names ts)).1.code=(gM root (.mk root 18 n text names ts)).1/\(gq ns root (.mk root 18 n text names ts)).1.node=(gM root (.mk root 18 n text names ts)).2:=by
 unfold gq gM;rw [show (Tr.mk root 18 n text names ts).kids=ts from rfl];simp only;rw [B6 hs];have hd:=pN (aX ts) 0 Sc.zero [] [] rfl rfl rfl (by omega) (fun t=>by simp [cJ]);generalize cZ 0 (aX ts) (Sc.zero,[])=X at hd ⊢;cases hA:jT (aX ts) [] with
 | some f =>
  rw [hA] at hd;obtain ⟨h1,h2,h3⟩:=hd;obtain ⟨g1,g2⟩:=(gU (aA ts) root (aX ts++[.mk root 18 n text names ts]) (X.1,[])).1 (by simp only;rw [h1];exact h3);exact ⟨g1.trans h1,g2.trans h2⟩
 | none =>
  rw [hA] at hd;obtain ⟨h1,h2⟩:=hd;have hB:=nM (aA ts) root (aX ts) X.1 [] h1 h2;rw [nN];generalize cG (aA ts) root (aX ts) (X.1,[])=Y at hB ⊢;simp only;cases hb:jS (aA ts) root (aX ts) with
  | some f =>
   rw [hb] at hB;obtain ⟨e1,e2,e3⟩:=hB;obtain ⟨g1,g2⟩:=(gU (aA ts) root [.mk root 18 n text names ts] Y).1 (by rw [e1];exact e3);exact ⟨g1.trans e1,g2.trans e2⟩
  | none =>
   rw [hb] at hB;obtain ⟨e1,e2⟩:=hB;simp only [cG];rw [lO _ _ _ _ _ e1 e2];simp only [Tr.ix,decide_true,Tr.kids,Tr.names]
   first | exact ⟨trivial,trivial⟩ | exact ⟨rfl,trivial⟩ | exact ⟨rfl,rfl⟩ | skip
structure Ins where
 op:Int
 a:Int
 b:Int
 text:List UInt8
 val:Val
def Ins.enc (x:Ins):List D:=[.int .i64 x.op,.int .i64 x.a,.int .i64 x.b,.str x.text]++x.val.enc
def iOp (op a b:Int) (t:List UInt8):Ins:=⟨op,a,b,t,bO⟩
def fN (v:Val):Ins:=⟨1,0,0,[],v⟩
structure Gs where
 names:List (List UInt8)
 code:List Ins
def Gs.put (i:Ins) (g:Gs):Gs:={names:=g.names,code:=g.code++[i]}
def Gs.here (p:Nat) (g:Gs):Gs:={names:=g.names,code:=g.code.modify p fun i=>⟨i.op,g.code.length,i.b,i.text,i.val⟩}
def Gs.store (t:List UInt8) (g:Gs):Gs:={names:=g.names++[t],code:=g.code++[iOp 3 g.names.length 0 []]}
def Gs.cut (n:Nat) (g:Gs):Gs:={names:=g.names.take n,code:=g.code}
def Gs.emit (sl:List (List UInt8)->List UInt8->Int) (cl:List UInt8->Int) (kind n:Int) (text:List UInt8) (nk:Nat) (g:Gs):Gs :=
 if kind=1 then g.put (fN (iH n))
 else if kind=2 then g.put (fN (dH text))
 else if kind=3 then g.put (fN (iW (decide (n=1))))
 else if kind=4 then g.put (fN bO)
 else if kind=5 then g.put (iOp 2 (sl g.names text) 0 [])
 else if kind=6 then g.put (iOp 4 0 0 text)
 else if kind=7 then g.put (iOp 5 0 0 text)
 else if kind=10 then g.put (if 0<=cl text then iOp 10 (cl text+1) nk [] else iOp 11 nk 0 text)
 else if kind=11 then g.store text
 else if kind=12 then g.put (iOp 3 (sl g.names text) 0 [])
 else if kind=15 then g.put (iOp 12 0 0 [])
 else if kind=16 then g.put (iOp 13 0 0 [])
 else if kind=19 then g.put (iOp 16 0 0 [])
 else g
section
variable (sl:List (List UInt8)->List UInt8->Int) (cl:List UInt8->Int)
mutual
def Tr.gen:Tr->Gs->Gs
 | .mk ix kind n text names kids,g =>
  if kind=20 then g
  else if kind=8\/kind=9 then fE kind kids g
  else if kind=13 then hZ kids g
  else if kind=14 then fD g.code.length kids g
  else if kind=17 then gK text g.names.length kids g
  else if kind=18 then (cX kids g).cut g.names.length
  else (cX kids g).emit sl cl kind n text kids.length
def cX:List Tr->Gs->Gs
 | [],g=>g
 | t::l,g=>cX l (t.gen g)
def fE (kind:Int):List Tr->Gs->Gs
 | [],g=>g
 | a::l,g=>let g1:=a.gen g;fI g1.code.length l (g1.put (iOp kind 0 0 []))
def fI (p:Nat):List Tr->Gs->Gs
 | [],g=>g
 | b::_,g=>(b.gen g).here p
def hZ:List Tr->Gs->Gs
 | [],g=>g
 | a::l,g=>let g1:=a.gen g;iy g1.code.length l (g1.put (iOp 7 0 0 []))
def iy (p:Nat):List Tr->Gs->Gs
 | [],g=>g
 | b::l,g=>iw p l (b.gen g)
def iw (p:Nat):List Tr->Gs->Gs
 | [],g=>g.here p
 | c::_,g=>(c.gen ((g.put (iOp 6 0 0 [])).here p)).here g.code.length
def fD (start:Nat):List Tr->Gs->Gs
 | [],g=>g
 | a::l,g=>let g1:=a.gen g;fR start g1.code.length l (g1.put (iOp 7 0 0 []))
def fR (start p:Nat):List Tr->Gs->Gs
 | [],g=>g
 | b::_,g=>((b.gen g).put (iOp 6 start 0 [])).here p
def gK (text:List UInt8) (n:Nat):List Tr->Gs->Gs
 | [],g=>g
 | a::l,g=>let g1:=(a.gen (g.put (iOp 14 0 0 []))).put (iOp 15 0 0 []);iR text n g1.code.length l ((g1.put (iOp 6 0 0 [])).here g.code.length)
def iR (text:List UInt8) (n q:Nat):List Tr->Gs->Gs
 | [],g=>g
 | b::_,g=>((b.gen (g.store text)).here q).cut n
end
end
section
variable {C:Ctx} (hP:C.P=Tryz.prog)
include hP
def Gs.enc (fn:List (List UInt8)) (g:Gs):O:= .st [.ptr 1 0 0,.d (strs fn),.own false 1 (bd g.names),.own false 7 (g.code.map Ins.enc)]
def Gs.Gn (fn:List (List UInt8)) (g:Gs):O:= .st [.ptr 1 0 0,.d (strs fn),.arr 2 0 g.names.length,.own false 7 (g.code.map Ins.enc)]
def Ins.v (x:Ins):V:= .agg (x.enc.map .d)
theorem lG (fn:List (List UInt8)) (g:Gs) (ns:List Nd) (root:Int) (i:Ins) (hl:g.code.length<=1073741000):Fn C 147 [.ptr 0 0 0,i.v] [g.enc fn,bz ns root] (.d (.int .i64 g.code.length)) [some ((g.put i).enc fn),some (bz ns root)]:=by
 have hcl:(g.code.map Ins.enc).length=g.code.length:=by simp
 have hsh:(Sh.ds [[D.int .i64 i.op,.int .i64 i.a,.int .i64 i.b,.str i.text,.int .i64 i.val.kind,.int .i64 i.val.n,.str i.val.t]] [[D.int .i64 i.op,.int .i64 i.a,.int .i64 i.b,.str i.text,.int .i64 i.val.kind,.int .i64 i.val.n,.str i.val.t]].length).len=1:=rfl;have hrows:List.take (g.code.map Ins.enc).length (List.drop 0 (g.code.map Ins.enc))++[[D.int .i64 i.op,.int .i64 i.a,.int .i64 i.b,.str i.text,.int .i64 i.val.kind,.int .i64 i.val.n,.str i.val.t]]=(g.code++[i]).map Ins.enc:=by rw [aq,b8];simp;rfl
 refine eN hP GG ⟨gN ?_ ⟨?_⟩⟩
 ·show (g.code.map Ins.enc).length+1<=_;omega
 repeat' (refine gN ?_ ⟨?_⟩;simp [ew])
 rw [show IntKind.i64.wrap ((((g.code.map Ins.enc).length+(Sh.ds [[D.int .i64 i.op,.int .i64 i.a,.int .i64 i.b,.str i.text,.int .i64 i.val.kind,.int .i64 i.val.n,.str i.val.t]] [[D.int .i64 i.op,.int .i64 i.a,.int .i64 i.b,.str i.text,.int .i64 i.val.kind,.int .i64 i.val.n,.str i.val.t]].length).len:Nat):Int) - 1)=(g.code.length:Int) by
  rw [hsh,hcl,wrap_i64 ⟨by omega,by omega⟩];omega]
 refine lW ⟨⟨?_,rfl,trivial⟩,rfl⟩;(conv=>lhs;whnf);rw [hrows,hsh,hcl,aq,ae (by simp)];rfl
theorem FY (fn:List (List UInt8)) (g:Gs) (ns:List Nd) (root:Int) (i:Ins) (hl:g.code.length<=1073741000):Fn C 147 [.ptr 0 0 0,i.v] [g.Gn fn,bz ns root,.da 1 (bd g.names)] (.d (.int .i64 g.code.length)) [some ((g.put i).Gn fn),some (bz ns root),some (.da 1 (bd g.names))]:=by
 have hcl:(g.code.map Ins.enc).length=g.code.length:=by simp
 have hsh:(Sh.ds [[D.int .i64 i.op,.int .i64 i.a,.int .i64 i.b,.str i.text,.int .i64 i.val.kind,.int .i64 i.val.n,.str i.val.t]] [[D.int .i64 i.op,.int .i64 i.a,.int .i64 i.b,.str i.text,.int .i64 i.val.kind,.int .i64 i.val.n,.str i.val.t]].length).len=1:=rfl;have hrows:List.take (g.code.map Ins.enc).length (List.drop 0 (g.code.map Ins.enc))++[[D.int .i64 i.op,.int .i64 i.a,.int .i64 i.b,.str i.text,.int .i64 i.val.kind,.int .i64 i.val.n,.str i.val.t]]=(g.code++[i]).map Ins.enc:=by rw [aq,b8];simp;rfl
 refine eN hP GG ⟨gN ?_ ⟨?_⟩⟩
 ·show (g.code.map Ins.enc).length+1<=_;omega
 repeat' (refine gN ?_ ⟨?_⟩;simp [ew])
 rw [show IntKind.i64.wrap ((((g.code.map Ins.enc).length+(Sh.ds [[D.int .i64 i.op,.int .i64 i.a,.int .i64 i.b,.str i.text,.int .i64 i.val.kind,.int .i64 i.val.n,.str i.val.t]] [[D.int .i64 i.op,.int .i64 i.a,.int .i64 i.b,.str i.text,.int .i64 i.val.kind,.int .i64 i.val.n,.str i.val.t]].length).len:Nat):Int) - 1)=(g.code.length:Int) by
  rw [hsh,hcl,wrap_i64 ⟨by omega,by omega⟩];omega]
 refine lW ⟨⟨?_,rfl,rfl,trivial⟩,rfl⟩;(conv=>lhs;whnf);rw [hrows,hsh,hcl,aq,ae (by simp)];rfl
theorem FP (k:Int):Fn C 210 [.d (.int .i64 k)] [] (.d (.bool (decide (1<=k/\k<=10)))) []:=by
 refine eN hP c210 ⟨?_⟩
 (repeat' (first | refine gP (fun _=>⟨?_⟩) fun _=>⟨?_⟩ | (refine gN ?_ ⟨?_⟩;rotate_left) | (refine ah.call [] (k47 hP _ _ _) rfl rfl rfl ?_;refine gG ⟨?_⟩) | exact lW ⟨trivial,rfl⟩ | refine lW ⟨trivial,?_⟩ | fail))
theorem xN (fn:List (List UInt8)) (g:Gs) (ns:List Nd) (root:Int) (p:Nat) (hp:p < g.code.length) (hl:g.code.length<=1073741824):Fn C 245 [.ptr 0 0 0,.d (.int .i64 p)] [g.enc fn,bz ns root] (.tup []) [some ((g.here p).enc fn),some (bz ns root)]:=by
 have hcl:(g.code.map Ins.enc).length=g.code.length:=by simp
 have hrow:(g.code.map Ins.enc)[0+((p:Nat):Int).toNat]?=some (g.code[p].enc):=by simp [aa hp]
 have hset:(g.code.modify p fun i=>⟨i.op,g.code.length,i.b,i.text,i.val⟩)=g.code.set p ⟨g.code[p].op,g.code.length,g.code[p].b,g.code[p].text,g.code[p].val⟩:=by
  apply List.ext_getElem?;intro q;rw [List.getElem?_modify,List.getElem?_set];by_cases hq:p=q
  ·subst hq;simp [aa hp,hp]
  ·simp [hq]
 generalize hx:g.code[p]=x at hrow hset;refine eN hP Iv ⟨gN ?_ ⟨?_⟩⟩
 ·omega
 refine gD hrow ⟨?_⟩;repeat' (refine gN ?_ ⟨?_⟩;simp [ew])
 refine lW ⟨⟨?_,rfl,trivial⟩,rfl⟩;(conv=>lhs;whnf);rw [aq,ae (by simp),Gs.enc,Gs.here,hset,List.map_set,hcl,show 0+((p:Nat):Int).toNat=p by omega];rfl
theorem FO (fn:List (List UInt8)) (g:Gs) (ns:List Nd) (root:Int) (t:List UInt8) (hl:g.code.length<=1073741000) (hn:g.names.length<=1073741000):Fn C 213 [.ptr 0 0 0,.d (.str t)] [g.enc fn,bz ns root] (.tup []) [some ((g.store t).enc fn),some (bz ns root)]:=by
 refine eN hP c213 ⟨?_⟩;rw [eI];refine gC [0,1,2] (FY hP fn g ns root (iOp 3 g.names.length 0 []) hl) ⟨gN ?_ ⟨?_⟩⟩
 ·show g.names.length+1<=_;omega
 refine lW ⟨⟨?_,rfl,trivial⟩,rfl⟩;(conv=>lhs;whnf);rw [show (Gs.put (iOp 3 g.names.length 0 []) g).names=g.names from rfl,show List.take g.names.length (List.drop 0 (bd g.names))++[[D.str t]]=bd (g.names++[t]) by rw [aq,ae (by simp [bd])];simp [bd]];rw [aq,ae (by simp [bd,Sh.len])];rfl
end
def GK (a b:Nat) (g g':Gs):Prop:=(∃ l,g'.names=g.names++l/\l.length<=a)/\g.code.length<=g'.code.length/\g'.code.length<=g.code.length+b
theorem GK.refl (a b:Nat) (g:Gs):GK a b g g:=⟨⟨[],by simp,by simp⟩,al _,by omega⟩
theorem GK.trans {a' b':Nat} {g g' g'':Gs} (h:GK a b g g') (h':GK a' b' g' g'') (hA:a+a'<=A) (hB:b+b'<=B):GK A B g g'':=by
 obtain ⟨⟨l,h1,h2⟩,h3,h4⟩:=h;obtain ⟨⟨l',h1',h2'⟩,h3',h4'⟩:=h';exact ⟨⟨l++l',by rw [h1',h1,e8],by simp;omega⟩,by omega,by omega⟩
theorem GK.names {g g':Gs} (h:GK a b g g'):g.names.length<=g'.names.length/\g'.names.length<=g.names.length+a:=by
 obtain ⟨⟨l,h1,h2⟩,_⟩:=h;rw [h1];simp;omega
theorem GK.up {g g':Gs} (h:GK a b g g') (hA:a<=A) (hB:b<=B):GK A B g g':=h.trans (.refl 0 0 g') (by omega) (by omega)
theorem fj (i:Ins) (g:Gs):GK 0 1 g (g.put i):=⟨⟨[],by simp [Gs.put],by simp⟩,by simp [Gs.put],by simp [Gs.put]⟩
theorem lf (p:Nat) (g:Gs):GK 0 0 g (g.here p):=⟨⟨[],by simp [Gs.here],by simp⟩,by simp [Gs.here],by simp [Gs.here]⟩
theorem vL (t:List UInt8) (g:Gs):GK 1 1 g (g.store t):=⟨⟨[t],by simp [Gs.store],by simp⟩,by simp [Gs.store],by simp [Gs.store]⟩
theorem ya {g g':Gs} (h:GK a b g g'):GK 0 b g (g'.cut g.names.length):=by
 obtain ⟨⟨l,h1,h2⟩,h3,h4⟩:=h;exact ⟨⟨[],by simp [Gs.cut,h1],by simp⟩,h3,h4⟩
theorem Ds (sl:List (List UInt8)->List UInt8->Int) (cl:List UInt8->Int) (kind n:Int) (text:List UInt8) (nk:Nat) (g:Gs):GK 1 1 g (g.emit sl cl kind n text nk):=by
 unfold Gs.emit;by_cases h1:kind=1
 ·rw [aj h1];exact (fj _ _).up (by omega) (by omega)
 rw [ab h1];by_cases h2:kind=2
 ·rw [aj h2];exact (fj _ _).up (by omega) (by omega)
 rw [ab h2];by_cases h3:kind=3
 ·rw [aj h3];exact (fj _ _).up (by omega) (by omega)
 rw [ab h3];by_cases h4:kind=4
 ·rw [aj h4];exact (fj _ _).up (by omega) (by omega)
 rw [ab h4];by_cases h5:kind=5
 ·rw [aj h5];exact (fj _ _).up (by omega) (by omega)
 rw [ab h5];by_cases h6:kind=6
 ·rw [aj h6];exact (fj _ _).up (by omega) (by omega)
 rw [ab h6];by_cases h7:kind=7
 ·rw [aj h7];exact (fj _ _).up (by omega) (by omega)
 rw [ab h7];by_cases h10:kind=10
 ·rw [aj h10];exact (fj _ _).up (by omega) (by omega)
 rw [ab h10];by_cases h11:kind=11
 ·rw [aj h11];exact vL _ _
 rw [ab h11];by_cases h12:kind=12
 ·rw [aj h12];exact (fj _ _).up (by omega) (by omega)
 rw [ab h12];by_cases h15:kind=15
 ·rw [aj h15];exact (fj _ _).up (by omega) (by omega)
 rw [ab h15];by_cases h16:kind=16
 ·rw [aj h16];exact (fj _ _).up (by omega) (by omega)
 rw [ab h16];by_cases h19:kind=19
 ·rw [aj h19];exact (fj _ _).up (by omega) (by omega)
 rw [ab h19];exact .refl _ _ _
section
variable (sl:List (List UInt8)->List UInt8->Int) (cl:List UInt8->Int)
mutual
theorem dP:∀ (t:Tr) (g:Gs),GK t.sz (4 * t.sz) g (t.gen sl cl g)
 | .mk ix kind n text names kids,g=>by
  unfold Tr.gen;simp only [Tr.sz];split
  ·exact .refl _ _ _
  split
  ·exact (xX kind kids g).up (by omega) (by omega)
  split
  ·exact (BI kids g).up (by omega) (by omega)
  split
  ·exact (xV g.code.length kids g).up (by omega) (by omega)
  split
  ·exact (zQ text kids g).up (by omega) (by omega)
  split
  ·exact (ya (eu kids g)).up (by omega) (by omega)
  ·exact (eu kids g).trans (Ds sl cl kind n text kids.length _) (by omega) (by omega)
theorem eu:∀ (l:List Tr) (g:Gs),GK (szs l) (4 * szs l) g (cX sl cl l g)
 | [],g=> .refl _ _ _
 | t::l,g=>by
  unfold cX;exact (dP t g).trans (eu l _) (by simp [szs]) (by simp [szs];omega)
theorem xX (kind:Int):∀ (l:List Tr) (g:Gs),GK (szs l) (4 * szs l+1) g (fE sl cl kind l g)
 | [],g=> .refl _ _ _
 | a::l,g=>by
  unfold fE;exact ((dP a g).trans (fj _ _) (al _) (al _)).trans (wN _ l _) (by simp [szs]) (by simp [szs];omega)
theorem wN (p:Nat):∀ (l:List Tr) (g:Gs),GK (szs l) (4 * szs l) g (fI sl cl p l g)
 | [],g=> .refl _ _ _
 | b::l,g=>by
  unfold fI;exact (dP b g).trans (lf _ _) (by simp [szs]) (by simp [szs];omega)
theorem BI:∀ (l:List Tr) (g:Gs),GK (szs l) (4 * szs l+2) g (hZ sl cl l g)
 | [],g=> .refl _ _ _
 | a::l,g=>by
  unfold hZ;exact ((dP a g).trans (fj _ _) (al _) (al _)).trans (zU _ l _) (by simp [szs]) (by simp [szs];omega)
theorem zU (p:Nat):∀ (l:List Tr) (g:Gs),GK (szs l) (4 * szs l+1) g (iy sl cl p l g)
 | [],g=> .refl _ _ _
 | b::l,g=>by
  unfold iy;exact (dP b g).trans (zS p l _) (by simp [szs]) (by simp [szs];omega)
theorem zS (p:Nat):∀ (l:List Tr) (g:Gs),GK (szs l) (4 * szs l+1) g (iw sl cl p l g)
 | [],g=>(lf p g).up (by omega) (by omega)
 | c::l,g=>by
  unfold iw;exact ((((fj _ _).trans (lf _ _) (al _) (al _)).trans (dP c _) (al _) (al _)).trans (lf _ _) (al _) (al _)).up (by simp [szs]) (by simp [szs];omega)
theorem xV (start:Nat):∀ (l:List Tr) (g:Gs),GK (szs l) (4 * szs l+2) g (fD sl cl start l g)
 | [],g=> .refl _ _ _
 | a::l,g=>by
  unfold fD;exact ((dP a g).trans (fj _ _) (al _) (al _)).trans (wK start _ l _) (by simp [szs]) (by simp [szs];omega)
theorem wK (start p:Nat):∀ (l:List Tr) (g:Gs),GK (szs l) (4 * szs l+1) g (fR sl cl start p l g)
 | [],g=> .refl _ _ _
 | b::l,g=>by
  unfold fR;exact (((dP b g).trans (fj _ _) (al _) (al _)).trans (lf _ _) (al _) (al _)).up (by simp [szs]) (by simp [szs];omega)
theorem zQ (text:List UInt8):∀ (l:List Tr) (g:Gs),GK (szs l) (4 * szs l+4) g (gK sl cl text g.names.length l g)
 | [],g=> .refl _ _ _
 | a::l,g=>by
  unfold gK;have h1:=((((fj (iOp 14 0 0 []) g).trans (dP a _) (al _) (al _)).trans (fj (iOp 15 0 0 []) _) (al _) (al _)).trans (fj (iOp 6 0 0 []) _) (al _) (al _)).trans (lf g.code.length _) (al _) (al _);simp only;cases l with
  | nil=>exact h1.up (by simp [szs]) (by simp [szs];omega)
  | cons b l =>
   unfold iR;have h2:=((h1.trans (vL text _) (al _) (al _)).trans (dP b _) (al _) (al _)).trans (lf ((Tr.gen sl cl a (g.put (iOp 14 0 0 []))).put (iOp 15 0 0 [])).code.length _) (al _) (al _);exact (ya h2).up (by omega) (by simp [szs];omega)
end
end
end Go.Proofs.YtggoiofammbchaaGreatDoor.Loc
