/- Part 9 of a chain that ends in the statement named in GOCLAIM.json; no condition. -/
import Derived.Test.YtggoiofammbchaaGreatDoorK8
set_option maxRecDepth 100000
set_option maxHeartbeats 2000000
set_option linter.all false
namespace Go.Proofs.YtggoiofammbchaaGreatDoor.Loc
open Go
variable {α:Type} {C:Ctx} {Q:V->List (Option O)->Prop} {anc cA:List Nat} {args xs:List V} {b:Bool} {c y:Cfg} {caps:List (Nat×Nat×Nat)} {dst:Option Nat} {e:Eff} {f:FuncId} {fd m n nx t:Nat} {fn:Func} {fr fr':Fr} {k:List It} {l:L} {os:List O} {os':List (Option O)} {p:Prop} {rest:List Ir} {row:List D} {rows:List (List D)} {tr:Trc} {ts:List RS} {v:V} {x:Ex} {σ σ':Ob}
def Fn (C:Ctx) (f:FuncId) (args:List V) (os:List O) (v:V) (os':List (Option O)):Prop :=
 Ok C os.length f args (fun i=>os[i]?) v (fun i=>(os'[i]?).join)
def obs:Nat->List O->Ob
 | _,[]=>[]
 | k,x::l=>(k,x)::obs (k+1) l
theorem lX:∀ (l:List O) (k i:Nat),look (obs k l) i=if k<=i then l[i - k]? else none
 | [],k,i=>by simp [obs,look]
 | x::l,k,i=>by
  simp only [obs,look,jk,lX l (k+1) i]
  grind
def outs (σ:Ob):Nat->List (Option O)->Prop
 | _,[]=>True
 | k,none::l=>outs σ (k+1) l
 | k,some y::l=>look σ k=some y/\outs σ (k+1) l
theorem nS {σ:Ob}:∀ {l:List (Option O)} {k:Nat},outs σ k l->∀ i y,(l[i]?).join=some y->look σ (k+i)=some y
 | [],k,h,i,y,hy=>by simp at hy
 | none::l,k,h,0,y,hy=>by simp at hy
 | none::l,k,h,i+1,y,hy=>by
  have:=nS (k:=k+1) h i y (by simpa using hy)
  rwa [show k+1+i=k+(i+1) by omega] at this
 | some x::l,k,h,0,y,hy=>by
  simp_all [az,Option.join_some,aw,h.1]
 | some x::l,k,h,i+1,y,hy=>by
  have:=nS (k:=k+1) h.2 i y (by simpa using hy)
  rwa [show k+1+i=k+(i+1) by omega] at this
theorem Fn.run (ts:List RS) (hf:C.P.funcs[f]?=some fn) (hok:okF C.P fn l args.length ts=true)
  (h:Goal C os.length (Fin os.length ts v (fun i=>(os'[i]?).join)) (.st [.code l] (eW 0 args) (obs 0 os) os.length)):Fn C f args os v os':=by
 have:=Ok.intro ts hf hok h.h;unfold Fn;have e:look (obs 0 os)=fun i=>os[i]?:=by
  grind [lX]
 rwa [e] at this
theorem Goal.leave {v0:V} (l:List Nat) (hx:(match x with | .exit _=>False | _=>True)) (hc:fU m l (eB fr (ts.map (·.1))) σ=some (fr',σ',n)) (hv:qO σ' fr' ts=some v0) (he:v0=v)
  (hg:outs σ' 0 os'):Goal C m (Fin m ts v (fun i=>(os'[i]?).join)) (.fin x fr σ nx) :=
 Goal.fin l hx hc hv he fun i y hy=>by have:=nS hg i y hy;rwa [aW] at this
def lk (π:List Nat) (args:List V) (os:List O) (v:V) (os':List (Option O)):Bool :=
 decide (os.length=π.length)&&decide (π.length<=os'.length)&&distinct π&&(j9 π.length args&&oo π.length os&&v.vj os'.length&&mR os'.length os')
theorem Goal.Gy {K:Kt} {f:Nat} (π:List Nat)
  (hc:Fn C f args os v os') (hk:lk π args os v os'=true) (hx:xs=j2 π π.length nx args) (hσ:gE σ π=some (gp π π.length nx os))
  (h:Goal C m K (.st (.ops rest (jf tr anc σ (dQ π π.length nx 0 os') (π.zip (gp π π.length nx os)))::k) (fq fr dst (v.nO π π.length nx)) (patch σ (dQ π π.length nx 0 os')) (nx+(os'.length - π.length)))):Goal C m K (.call f xs dst anc rest tr k fr σ nx):=by
 simp only [lk,ag,ak] at hk;obtain ⟨⟨⟨h1,h2⟩,h3⟩,h4⟩:=hk;unfold Fn at hc;rw [h1] at hc;exact Goal.call π hc ⟨h1,h2,h3⟩ hx hσ (by simp only [ag];exact h4) h
theorem wrap_i64 {n:Int} (h : -9223372036854775808<=n/\n < 9223372036854775808):IntKind.i64.wrap n=n:=by
 simp only [IntKind.wrap,IntKind.bits,IntKind.signed]
 grind
theorem aC (h:n < 4611686018427387904):IntKind.i64.wrap ((n:Int)+1)=((n+1:Nat):Int):=by
 rw [wrap_i64 (by omega)];omega
theorem pz:∀ (l:List UInt8),il (l.map fun b=>[D.int .u8 b.toNat])=some l
 | []=>rfl
 | b::l=>by
  simp only [cT,il,pz l,aS];congr 2;simp
def L.loops:L->List It->List (List Nat×L×List It)
 | .seq a b,k=>a.loops (.code b::k)++b.loops k
 | .ite _ x y,k=>x.loops k++y.loops k
 | .blk id b,k=>b.loops (.blk id::k)
 | .loop cA b,k=>(cA,b,k)::b.loops (.lpe cA b::k)
 | _,_=>[]
def L.x8:L->List It->List (List It)
 | .seq a b,k=>a.x8 (.code b::k)++b.x8 k
 | .ite _ x y,k=>x.x8 k++y.x8 k
 | .blk id b,k=>b.x8 (.blk id::k)
 | .loop cA b,k=>b.x8 (.lpe cA b::k)
 | .cut _,k=>[k]
 | _,_=>[]
def Cfg.dy (l:L) (n:Nat) (fr:Fr) (σ:Ob) (nx:Nat):Cfg:=match (l.x8 [])[n]? with
 | some k=> .cut k fr σ nx
 | none=> .bad
def Cfg.eF (l:L) (n:Nat) (fr:Fr) (σ:Ob) (nx:Nat):Cfg:=match (l.loops [])[n]? with
 | some (cA,b,k)=> .lp cA b k fr σ nx
 | none=> .bad
theorem xG (m:Nat):∀ (n:Nat) (k:List It) (fr:Fr) (σ:Ob) (nx:Nat),∃ c,∀ G:Cfg->Prop,run m G n k fr σ nx=G c
 | 0,k,fr,σ,nx=>⟨.st k fr σ nx,fun G=>rfl⟩
 | n+1,[],fr,σ,nx=>⟨.fin .normal fr σ nx,fun G=>rfl⟩
 | n+1,i::k,fr,σ,nx=>by
  have ih:=xG m n;cases i with
  | blk id=>exact ih k fr σ nx
  | lpe cA b =>
   simp only [run,mE];cases canon m cA fr σ nx with
   | some p=>obtain ⟨fr,σ,nx⟩:=p;simp only [gi,gj,iz];exact ⟨_,fun G=>rfl⟩
   | none=>exact ⟨_,fun G=>rfl⟩
  | ops l tr =>
   cases l with
   | nil =>
    simp only [run];cases tr with
    | off=>exact ih k fr σ nx
    | on l =>
     dsimp only;cases pO l with
     | nil=>exact ih k fr σ nx
     | cons p ps=>exact ⟨_,fun G=>rfl⟩
    | bad=>exact ⟨_,fun G=>rfl⟩
   | cons o rest =>
    obtain ⟨dst,g,op,anc⟩:=o;simp only [run];cases gd fr g with
    | yes =>
     dsimp only;cases sem op fr σ nx with
     | ok e=>obtain ⟨v,pt,c,rd⟩:=e;simp only [iS,qu,qo,my,qi];exact ih _ _ _ _
     | dR p e=>obtain ⟨v,pt,c,rd⟩:=e;simp only [iS,qu,qo,my,qi];exact ⟨_,fun G=>rfl⟩
     | split b x y=>simp only [iS];exact ⟨_,fun G=>rfl⟩
     | call f xs=>simp only [n7];exact ⟨_,fun G=>rfl⟩
     | _=>exact ⟨_,fun G=>rfl⟩
    | no=>simp only [my];exact ih _ _ _ _
    | ask s b w=>cases w<;>exact ⟨_,fun G=>rfl⟩
    | bad=>exact ⟨_,fun G=>rfl⟩
  | code c =>
   cases c with
   | skip=>exact ih k fr σ nx
   | reg ops=>exact ih _ fr σ nx
   | wZ ops=>exact ih _ fr σ nx
   | gop dst op=>exact ih _ fr σ nx
   | seq a b=>exact ih _ fr σ nx
   | ite c x y =>
    simp only [run];cases gdc fr (match c with | .t s=>some (s,true) | .k _=>none) with
    | yes=>exact ih _ fr σ nx
    | no=>exact ih _ fr σ nx
    | ask s b w=>exact ⟨_,fun G=>rfl⟩
    | bad=>exact ⟨_,fun G=>rfl⟩
   | blk id b=>exact ih _ fr σ nx
   | loop cA b=>exact ih _ fr σ nx
   | exit id =>
    simp only [run];cases leave (.exit id) k fr σ nx with
    | st k fr σ nx=>exact ih _ _ _ _
    | _=>exact ⟨_,fun G=>rfl⟩
   | ret=>exact ⟨_,fun G=>rfl⟩
   | cut cA =>
    simp only [run,mE];cases canon m cA fr σ nx with
    | some p=>obtain ⟨fr,σ,nx⟩:=p;simp only [gi,gj,iz];exact ⟨_,fun G=>rfl⟩
    | none=>exact ⟨_,fun G=>rfl⟩
   | gh g =>
    simp only [run];cases ghost g fr σ nx with
    | some p=>obtain ⟨fr,σ,nx⟩:=p;simp only [gi,gj,iz];exact ih _ _ _ _
    | none=>exact ⟨_,fun G=>rfl⟩
structure ah (C:Ctx) (m:Nat) (K:V->List (Option O)->Kt) (Q:V->List (Option O)->Prop) (c:Cfg):Prop where
 ex:∃ v os',Goal C m (K v os') c/\Q v os'
abbrev b4 (C:Ctx) (m:Nat) (ts:List RS) (Q:V->List (Option O)->Prop) (c:Cfg):Prop :=
 ah C m (fun v os'=>Fin m ts v (fun i=>(os'[i]?).join)) Q c
def FnE (C:Ctx) (f:FuncId) (args:List V) (os:List O) (Q:V->List (Option O)->Prop):Prop:=∃ v os',Fn C f args os v os'/\Q v os'
theorem FnE.run (ts:List RS) (hf:C.P.funcs[f]?=some fn) (hok:okF C.P fn l args.length ts=true)
  (h:b4 C os.length ts Q (.st [.code l] (eW 0 args) (obs 0 os) os.length)):FnE C f args os Q :=
 let ⟨v,os',h1,h2⟩:=h;⟨v,os',Fn.run ts hf hok h1,h2⟩
section
variable {C:Ctx} {m:Nat} {K:V->List (Option O)->Kt} {Q:V->List (Option O)->Prop}
theorem ah.start (n:Nat) (h:rJ fr fun fr=>rK σ fun σ=>wQ nx fun nx=>Loc.run m (ah C m K Q) n k fr σ nx):ah C m K Q (.st k fr σ nx):=by
 simp only [gi,gj,iz] at h;obtain ⟨c,hc⟩:=xG m n k fr σ nx;rw [hc] at h;obtain ⟨v,os',h1,h2⟩:=h;refine ⟨v,os',⟨oL C m _ n k fr σ nx ?_⟩,h2⟩;simp_all
theorem ah.dR (hp:p) (h:ah C m K Q c):ah C m K Q (.dR p c) :=
 let ⟨v,os',h1,h2⟩:=h;⟨v,os',h1.dR hp,h2⟩
theorem ah.split {x:Cfg} (h1:b=true->ah C m K Q x) (h2:b=false->ah C m K Q y):ah C m K Q (.split b x y):=by
 cases b with
 | true=>obtain ⟨v,os',h3,h4⟩:=h1 rfl;exact ⟨v,os',.split (fun _=>h3) nofun,h4⟩
 | false=>obtain ⟨v,os',h3,h4⟩:=h2 rfl;exact ⟨v,os',.split nofun (fun _=>h3),h4⟩
theorem ah.yes {x:Cfg} (hb:b=true) (h:ah C m K Q x):ah C m K Q (.split b x y):=ah.split (fun _=>h) (fun h'=>by rw [hb] at h';cases h')
theorem ah.no {x:Cfg} (hb:b=false) (h:ah C m K Q y):ah C m K Q (.split b x y):=ah.split (fun h'=>by rw [hb] at h';cases h') (fun _=>h)
theorem ah.exD {f:List D->Option Eff} 
  (hr:rows[n]?=some row) (hp:p) (he:f row=some e) (h:ah C m K Q (.st (.ops rest (jf tr anc σ e.pt e.rd)::k) (fq fr dst e.v) (patch σ e.pt) (nx+e.n))):ah C m K Q (.exD p rows n f dst anc rest tr k fr σ nx) :=
 let ⟨v,os',h1,h2⟩:=h;⟨v,os',.exD hr hp he h1,h2⟩
theorem ah.exV {rows:List (List V)} {f:List V->Option Eff} {row:List V} 
  (hr:rows[n]?=some row) (hp:p) (he:f row=some e) (h:ah C m K Q (.st (.ops rest (jf tr anc σ e.pt e.rd)::k) (fq fr dst e.v) (patch σ e.pt) (nx+e.n))):ah C m K Q (.exV p rows n f dst anc rest tr k fr σ nx) :=
 let ⟨v,os',h1,h2⟩:=h;⟨v,os',.exV hr hp he h1,h2⟩
theorem ah.exB {s:List UInt8} {i:Int} {b:UInt8}
  (hr:s[i.toNat]?=some b) (hp:0<=i) (h:ah C m K Q (.st (.ops rest tr::k) (fq fr dst (.d (.int .u8 b.toNat))) σ nx)):ah C m K Q (.exB s i dst anc rest tr k fr σ nx) :=
 let ⟨v,os',h1,h2⟩:=h;⟨v,os',.exB hr hp h1,h2⟩
theorem ah.call {f:Nat} (π:List Nat)
  (hc:Fn C f args os v os') (hk:lk π args os v os'=true) (hx:xs=j2 π π.length nx args) (hσ:gE σ π=some (gp π π.length nx os))
  (h:ah C m K Q (.st (.ops rest (jf tr anc σ (dQ π π.length nx 0 os') (π.zip (gp π π.length nx os)))::k) (fq fr dst (v.nO π π.length nx)) (patch σ (dQ π π.length nx 0 os')) (nx+(os'.length - π.length)))):ah C m K Q (.call f xs dst anc rest tr k fr σ nx) :=
 let ⟨v,os',h1,h2⟩:=h;⟨v,os',.Gy π hc hk hx hσ h1,h2⟩
theorem ah.loop {b:L} (μ:α->Nat) (I:α->Prop) (A:α->Fr) (B:α->Ob) (N:Nat)
  (h:∀ x,I x->(∀ y,I y->μ y < μ x->ah C m K Q (.lp cA b k (A y) (B y) N))->ah C m K Q (.st (.code b:: .lpe cA b::k) (A x) (B x) N)):∀ x,I x->ah C m K Q (.lp cA b k (A x) (B x) N):=by
 have key:∀ n x,μ x=n->I x->ah C m K Q (.lp cA b k (A x) (B x) N):=by
  intro n;induction n using Nat.strongRecOn with
  | _ n ih =>
   intro x hx hi;obtain ⟨v,os',h1,h2⟩:=h x hi (fun y hy hlt=>ih (μ y) (hx▸hlt) y rfl hy);exact ⟨v,os',⟨h1.h⟩,h2⟩
 simp_all
theorem ah.lp {b:L} (h:ah C m K Q (.st (.code b:: .lpe cA b::k) fr σ nx)):ah C m K Q (.lp cA b k fr σ nx) :=
 let ⟨v,os',h1,h2⟩:=h;⟨v,os',⟨h1.h⟩,h2⟩
theorem ah.to {b:L} (h:ah C m K Q (.lp cA b k fr σ nx)) (e1:fr'=fr) (e2:σ'=σ):ah C m K Q (.lp cA b k fr' σ' nx):=by
 subst e1;subst e2;exact h
theorem ah.cut (h:ah C m K Q (.st k fr σ nx)):ah C m K Q (.cut k fr σ nx):=let ⟨v,os',h1,h2⟩:=h;⟨v,os',⟨h1.h⟩,h2⟩
theorem ah.toC (h:ah C m K Q (.cut k fr σ nx)) (e1:fr'=fr) (e2:σ'=σ):ah C m K Q (.cut k fr' σ' nx):=by
 subst e1;subst e2;exact h
end
section
variable {C:Ctx} {m:Nat} {ts:List RS} {Q:V->List (Option O)->Prop}
theorem ah.leave (l:List Nat) (hx:(match x with | .exit _=>False | _=>True)) (hc:fU m l (eB fr (ts.map (·.1))) σ=some (fr',σ',n)) (hv:qO σ' fr' ts=some v)
  (hg:outs σ' 0 os') (hq:Q v os'):b4 C m ts Q (.fin x fr σ nx):=⟨v,os',Goal.leave l hx hc hv rfl hg,hq⟩
theorem ah.aD (l:List Nat) (hx:(match x with | .exit _=>False | _=>True)) (hc:fU m l (eB fr (ts.map (·.1))) σ=some (fr',σ',n)) (hv:qO σ' fr' ts=some v)
  (hg:outs σ' 0 os') (hq:sJ v fun v=>Q v os'):b4 C m ts Q (.fin x fr σ nx):=by
 grind [iS,ah.leave]
theorem ah.mono {Q':V->List (Option O)->Prop} (h:∀ v os',Q v os'->Q' v os') (hc:b4 C m ts Q c):b4 C m ts Q' c:=let ⟨v,os',h1,h2⟩:=hc;⟨v,os',h1,h _ _ h2⟩
end
theorem FnE.of_eq (h:FnE C f args os (fun v1 os1=>v1=v/\os1=os')):Fn C f args os v os':=by
 obtain ⟨v1,os1,h1,rfl,rfl⟩:=h;exact h1
def FnD (C:Ctx) (f:FuncId) (args:List V) (os:List O) (os':List (Option O)):Prop :=
 OkD C os.length f args (fun i=>os[i]?) (fun i=>(os'[i]?).join)
theorem FnD.FA (ts:List RS) (hf:C.P.funcs[f]?=some fn) (hok:okF C.P fn l args.length ts=true)
  (h:Goal C os.length (Fin os.length ts v (fun i=>(os'[i]?).join)) (.st [.code l] (eW 0 args) (obs 0 os) os.length)):FnD C f args os os':=by
 have:=OkD.intro ts hf hok h.h;unfold FnD;have e:look (obs 0 os)=fun i=>os[i]?:=by
  grind [lX]
 rwa [e] at this
def Ff (C:Ctx) (m:Nat) (ts:List RS) (t:Nat) (l:L) (v:V) (os':List (Option O)):Kt:=fun x fr σ nx =>
 x= .normal/\∃ fd caps,cP fr t= .fn fd caps/\(caps.all fun p=>Nat.blt p.1 nx)=true/\wpL C nx l fr σ nx (Ce C m ts fd caps v (fun i=>(os'[i]?).join))
theorem FnE.G8 {l0:L} {is:List Ir} (ts:List RS) (hf:C.P.funcs[f]?=some fn)
  (hok:A1 C.P fn l0 is t l args.length ts=true) (h:ah C os.length (Ff C os.length ts t l) Q (.st [.code l0,.ops is .off] (eW 0 args) (obs 0 os) os.length)):FnE C f args os Q:=by
 obtain ⟨v,os',h1,h2⟩:=h;refine ⟨v,os',?_,h2⟩;have h1:=h1.h;have e:look (obs 0 os)=fun i=>os[i]?:=by
  grind [lX]
 unfold Fn;rw [<- e];refine Ok.EK (σ:=obs 0 os) ts hf hok ?_;refine fh l0 ?_ _ _ _ h1;intro x fr σ nx hx;cases x with
 | normal =>
  refine ⟨rfl,iU ?_ is .off fr σ nx hx⟩;intro fr σ nx hk;obtain ⟨_,fd,caps,q1,q2,q3⟩:=hk
  grind
 | exit id=>exact absurd hx.1 (by simp)
 | ret=>exact absurd hx.1 (by simp)
theorem ah.laid (h1:cP fr t= .fn fd caps) (h2:(caps.all fun p=>Nat.blt p.1 nx)=true)
  (h:ah C nx (fun v os'=>Ce C m ts fd caps v (fun i=>(os'[i]?).join)) Q (.st [.code l] fr σ nx)):ah C m (Ff C m ts t l) Q (.fin .normal fr σ nx):=by
 obtain ⟨v,os',h3,h4⟩:=h;exact ⟨v,os',⟨⟨rfl,fd,caps,h1,h2,h3.h⟩⟩,h4⟩
theorem ah.fo {m':Nat} {os0:List O} {os1:List (Option O)} (π l:List Nat)
  (hx:(match x with | .exit _=>False | _=>True)) (hc:FnD C fd args os0 os1) (hk:lk π args os0 .iM os1=true) (hxs:(caps.map fun p=>V.ptr p.1 p.2.1 p.2.2)=j2 π π.length nx args) (hσ:gE σ π=some (gp π π.length nx os0))
  (hcan:fU m l (eB fr (ts.map (·.1))) (patch σ (dQ π π.length nx 0 os1))=some (fr',σ',n)) (hv:qO σ' fr' ts=some v) (hg:outs σ' 0 os') (hq:sJ v fun v=>Q v os') :
  ah C m' (fun v os'=>Ce C m ts fd caps v (fun i=>(os'[i]?).join)) Q (.fin x fr σ nx):=by
 rw [iS] at hq;simp only [lk,ag,ak] at hk;obtain ⟨⟨⟨h1,h2⟩,h3⟩,h4⟩:=hk;unfold FnD at hc;rw [h1] at hc;refine ⟨v,os',⟨⟨hx,⟨.un,dQ π π.length nx 0 os1,os1.length - π.length,[]⟩,⟨args,π,os0,os1,hc,h1,h2,h3,hxs,hσ,?_,rfl,rfl⟩,?_⟩⟩,hq⟩
 ·simp_all
 ·exact ⟨trivial,l,fr',σ',n,hcan,hv,fun i y hy=>by have:=nS hg i y hy;rwa [aW] at this⟩
def wpG (C:Ctx):List (Option Nat×I)->Fr->Ob->Nat->(Fr->Ob->Nat->Prop)->Prop
 | [],fr,σ,nx,K=>K fr σ nx
 | g::gs,fr,σ,nx,K=>dt C [⟨g.1,none,g.2,[]⟩] .off fr σ nx fun fr σ nx=>wpG C gs fr σ nx K
theorem Sat.Gk {C:Ctx} {m nt:Nat} {ds e0 F0 g0 w0} {K:Fr->Ob->Nat->Prop}:∀ (gs:List (Option Nat×I)) {fr σ nx a w},Sat C m nt ds e0 F0 g0 w0 fr σ nx a w->gs.all (fun p=>tN p.1 p.2)=true->wpG C gs fr σ nx K->∃ fr' σ' nx',K fr' σ' nx'/\Sat C m nt ds e0 F0 g0 w0 fr' σ' nx' a w
 | [],fr,σ,nx,a,w,h,_,hk=>⟨fr,σ,nx,hk,h⟩
 | g::gs,fr,σ,nx,a,w,h,hg,hk=>by
  simp only [List.all_cons,ag] at hg;obtain ⟨fr1,σ1,nx1,h1,h2⟩:=h.gop hg.1 hk;exact Sat.Gk gs h2 hg.2 h1
theorem rq {σ:Ob}:∀ {π:List Nat} {l:List O},gE σ π=some l->∀ p∈π.zip l,look σ p.1=some p.2
 | [],l,h,p,hp=>by simp at hp
 | i::π,l,h,p,hp=>by
  simp only [gE] at h;split at h
  ·rename_i x xs h1 h2;cases h;rw [List.zip_cons_cons] at hp;rcases aQ.1 hp with rfl | hp
   ·exact h1
   ·exact rq h2 p hp
  ·cases h
theorem Fn.pre (ps:List Nat) (hps:∀ i∈ps,∃ x,os[i]?=some x) (gs:List (Option Nat×I)) (hgs:gs.all (fun p=>tN p.1 p.2)=true) (hcall:km C.P f)
  (h:wpG C gs (eW 0 (ps.map fun i=>V.ptr i 0 0)) (obs 0 os) os.length fun fr σ nx=>∃ eff,oy C f args σ nx eff/\eff.v=v/\∀ i y,(os'[i]?).join=some y->look (patch σ eff.pt) i=some y):Fn C f args os v os':=by
 refine ⟨hcall,fun e F w xs hr he ha=>?_⟩;have hlook:look (obs 0 os)=fun i=>os[i]?:=by
  funext i
  rw [lX];simp
 rw [<- hlook] at hr ⊢;obtain ⟨vs,hvs⟩:∃ vs:List Value,cK (b6 e F) (ps.map fun i=>V.ptr i 0 0) vs:=by
  clear h;induction ps with
  | nil=>exact ⟨[],.nil⟩
  | cons i ps ih =>
   obtain ⟨vs,h1⟩:=ih fun j hj=>hps j (aM _ hj)
   obtain ⟨x,hx⟩:=hps i (by simp);obtain ⟨W,hW,_⟩:=hr.dom i x (by rw [hlook];exact hx);exact ⟨_::vs,.cons ⟨W,hW,rfl⟩ h1⟩
 have hsat:Sat C os.length vs.length [] e F (look (obs 0 os)) w (eW 0 (ps.map fun i=>V.ptr i 0 0)) (obs 0 os) os.length {tmps:=vs.toArray,defers:=[]} w:=by
  refine ⟨e,F,fun t=>?_,hr,he,by simp,rfl,Ext.refl _ _ _ _ _,al _⟩;rw [lh];simp only [Nat.zero_le,bo,Nat.sub_zero];cases hx:(ps.map fun i=>V.ptr i 0 0)[t]? with
  | none=>trivial
  | some x =>
   obtain ⟨u,hu,hxu⟩:=hvs.get t x hx;have:vs.toArray.getD t undef=u:=by
    rw [cD];simp [hu]
   show b6 e F x (vs.toArray.getD t undef);rw [this];exact hxu
 obtain ⟨fr1,σ1,nx1,⟨eff,hc,hv,hg⟩,hs⟩:=hsat.Gk gs hgs h;obtain ⟨e1,F1,q1,q2,q3,_,_,q6,q7⟩:=hs;obtain ⟨args1,π,os1,v1,os1',hok,hl,hl',hd,hx,hlk,hb,hv1,hpt,hn,hrd⟩:=hc;simp only [ag] at hb;obtain ⟨⟨⟨hb1,hb2⟩,hb3⟩,hb4⟩:=hb;obtain ⟨e2,F2,hf0,hr0,h0,h1,hfin⟩:=pg q2 hl hl' hd (rq hlk) (fun i hi _=>q3 i hi) hb2 hb4;have hle:Emb.le e e1:=fun i W hi=>by
  refine q6.ee i W ?_ hi;apply Classical.byContradiction;intro hlt;rw [he i (by omega)] at hi;cases hi
 have ha1:cK (b6 e1 F1) args xs:=e6 (fun _ _=>b6.mono hle q6.ff) ha;have hargs:cK (b6 e2 F1) args1 xs:=by
  rw [hx] at ha1;exact (qz h1 hb1).2 ha1
 refine (hok.2 e2 F2 w xs hr0 h0 (e6 (fun _ _=>b6.mono (fun _ _ y=>y) (fun b o u hu=>by rw [<- hf0] at hu;exact hu)) hargs)).mono ?_;intro en w' hh;obtain ⟨e3,F3,x,rfl,hv3,hr3,hx3⟩:=hh;obtain ⟨e4,F4,r1,r2,r3,r4,r5,r6,r7,r8⟩:=hfin e3 F3 w' v1 x hb3 hv3 hr3 hx3;rw [<- hv1,hv] at r4;rw [<- hpt,<- fB] at r5 r7;have hext:=q6.trans (⟨fun i W _ hi=>r1 i W hi,r3,r6,r7,r8⟩:Ext os.length e1 F1 (look σ1) w e4 F4 _ w');refine ⟨e4,F4,x,rfl,r4,r5.less (fun i y hy=>hg i y hy),hext.ee,hext.ff,hext.up,fun b o ho=>hext.own b o ?_,hext.fz⟩;obtain ⟨i,y,W,h6,h7⟩:=ho;exact ⟨i,y,W,hg i y h6,h7⟩
inductive TyI where
 | i (k:IntKind)
 | s
 | b
 | l (e:Nat)
 | p
 | st (n:Nat) (z:List V) (fs:List (Nat×Nat×Option Nat)) (ks:List Nat)
 | m (kd:Option IntKind)
 | f
 | x
def kg {α:Type}:List α->Nat->(α->Prop)->Prop
 | [],_,_=>False
 | x::_,0,K=>K x
 | _::l,n+1,K=>kg l n K
section
variable (τ:List TyI)
def szK (t:Nat) (K:Nat->Prop):Prop:=kg τ t fun t=>match t with
 | .st n _ _ _=>K n
 | _=>K 1
def nK (t:Nat) (K:Option Nat->Prop):Prop:=kg τ t fun t=>match t with
 | .st n _ _ _=>K (some n)
 | _=>K none
def zK (t:Nat) (K:List V->Prop):Prop:=kg τ t fun t=>match t with
 | .i k=>K [.d (.int k 0)]
 | .s=>K [.d (.str [])]
 | .b=>K [.ff]
 | .l _=>K [.d .nil]
 | .p=>K [.iM]
 | .st _ z _ _=>K z
 | .m _=>K [.nmp]
 | _=>K [.un]
def cpK {α:Type}:List α->(List α->Prop)->Prop
 | [],K=>K []
 | x::l,K=>cpK l fun l=>K (x::l)
def vK:Value->(V->Prop)->Prop
 | .int k n,K=>K (.d (.int k n))
 | .bool true,K=>K .tt
 | .bool false,K=>K .ff
 | .string s,K=>cpK s.data.toList fun l=>K (.d (.str l))
 | .slice _ _ _,K=>K (.d .nil)
 | .pointer _,K=>K .iM
 | .map _,K=>K .nmp
 | .nilFunc,K=>K .un
 | .func (.func f) _ _,K=>K (.fn f [])
 | _,K=>K .un
def vsK:List Value->(List V->Prop)->Prop
 | [],K=>K []
 | x::l,K=>vK x fun x=>vsK l fun l=>K (x::l)
def aK:Operand->(A->Prop)->Prop
 | .tmp t,K=>K (.t t)
 | .const (.agg vs),K=>vsK vs.toList fun l=>K (.k (.agg l))
 | .const v,K=>vK v fun v=>K (.k v)
 | .func f,K=>K (.k (.fn f []))
 | _,K=>K (.k .un)
def asK:List Operand->(List A->Prop)->Prop
 | [],K=>K []
 | x::l,K=>aK x fun x=>asK l fun l=>K (x::l)
def oK:Option Operand->(Option A->Prop)->Prop
 | none,K=>K none
 | some x,K=>aK x fun x=>K (some x)
def psK:List (Nat×Operand)->(List A->Prop)->Prop
 | [],K=>K []
 | (_,x)::l,K=>aK x fun x=>psK l fun l=>K (x::l)
def qK (fs:List (Nat×Nat×Option Nat)):List (Nat×Operand)->(List (Nat×Nat×A)->Prop)->Prop
 | [],K=>K []
 | (i,x)::l,K=>kg fs i fun f=>aK x fun x=>qK fs l fun l=>match f with
  | (o,n,_)=>K ((o,n,x)::l)
inductive Mk where
 | n
 | y
 | ws (l:List (Option (Bool×Nat)))
def iK (mk:Mk):Op->(I->Prop)->Prop
 | .move x,K=>aK x fun x=>K (.mv x)
 | .assign x,K=>aK x fun x=>K (.mv x)
 | .pick c x y,K=>aK c fun c=>aK x fun x=>aK y fun y=>K (.pick c x y)
 | .alloc t,K=>zK τ t fun z=>K (.new z)
 | .box _ x,K=>aK x fun x=>K (.box x)
 | .build t ps,K=>kg τ t fun t=>match t with
  | .st _ z fs _=>qK fs ps.toList fun q=>K (.build z q)
  | _=>False
 | .buildSlice t _ ps,K=>kg τ t fun t=>match t with
  | .l e=>szK τ e fun w=>psK ps.toList fun l=>match mk with
   | .n=>K (.lit w l false)
   | _=>K (.lit w l true)
  | _=>False
 | .load t x,K=>nK τ t fun n=>aK x fun x=>K (.ld n x)
 | .store t x y,K=>szK τ t fun n=>aK x fun x=>aK y fun y=>K (.sto n x y)
 | .nilCheck x,K=>aK x fun x=>K (.zC x)
 | .binOp b t x y _,K=>kg τ t fun t=>aK x fun x=>aK y fun y=>match t,b with
  | .st _ _ _ ks,.eql=>K (.aeq false ks x y)
  | .st _ _ _ ks,.neq=>K (.aeq true ks x y)
  | .b,.eql=>K (.beq false x y)
  | .b,.neq=>K (.beq true x y)
  | .p,.eql=>K (.peq false x y)
  | .p,.neq=>K (.peq true x y)
  | _,b=>K (.bin b x y)
 | .unOp o _ x,K=>aK x fun x=>match o with
  | .not=>K (.not x)
  | _=>K (.neg x)
 | .convert _ t x,K=>kg τ t fun t=>aK x fun x=>match t with
  | .i k=>K (.sV k x)
  | .s=>K (.qB x)
  | _=>K (.nF x)
 | .extract x i,K=>aK x fun x=>K (.ext x i)
 | .fieldAddr t x f,K=>kg τ t fun t=>aK x fun x=>match t with
  | .st _ _ fs _=>kg fs f fun f=>match f with
   | (o,_,_)=>K (.fad o x)
  | _=>False
 | .field t x f,K=>kg τ t fun t=>aK x fun x=>match t with
  | .st _ _ fs _=>kg fs f fun f=>match f with
   | (o,_,n)=>K (.fld o n x)
  | _=>False
 | .indexAddr t x y,K=>kg τ t fun t=>match t with
  | .l e=>szK τ e fun w=>aK x fun x=>aK y fun y=>K (.iad w x y)
  | _=>False
 | .index _ x y,K=>aK x fun x=>aK y fun y=>K (.idx x y)
 | .slice t x lo hi _,K=>kg τ t fun t=>aK x fun x=>oK lo fun lo=>oK hi fun hi=>match t with
  | .l e=>szK τ e fun w=>K (.slc w x lo hi)
  | _=>K (.xB x lo hi)
 | .makeSlice t x _,K=>kg τ t fun t=>match t with
  | .l e=>szK τ e fun w=>zK τ e fun z=>aK x fun x=>K (.mks w z x)
  | _=>False
 | .lookup t x y ok,K=>kg τ t fun t=>aK x fun x=>aK y fun y=>match t with
  | .m kd=>K (.lkp ok kd x y)
  | _=>False
 | .mapUpdate t x y z,K=>kg τ t fun t=>aK x fun x=>aK y fun y=>aK z fun z=>match t with
  | .m kd=>K (.wh kd x y z)
  | _=>False
 | .makeMap _ _,K=>K .mkm
 | .makeFunc (.func f) _ l,K=>asK l.toList fun l=>K (.mkf f l)
 | .call ⟨.builtin b,xs,ts⟩,K=>match ts.toList with
  | t::_=>kg τ t fun t=>asK xs.toList fun l=>match b,t,l with
   | .len,.s,x::_=>K (.zm x)
   | .len,_,x::_=>K (.len x)
   | .append,.l e,x::y::_=>szK τ e fun w=>match mk with
    | .n=>K (.app w x y false)
    | .y=>K (.app w x y true)
    | .ws ws=>K (.yj w x y ws)
   | .copy,.l e,x::y::_=>szK τ e fun w=>K (.cpy w x y)
   | .max,_,x::y::_=>K (.mx x y)
   | .min,_,x::y::_=>K (.mn x y)
   | _,_,_=>False
  | []=>False
 | .call ⟨.value (.func f),xs,_⟩,K=>asK xs.toList fun l=>K (.call f l)
 | .call ⟨.value f,xs,_⟩,K=>aK f fun f=>asK xs.toList fun l=>K (.r0 f l)
 | _,K=>False
def H9:Op->Bool
 | .load _ _=>true
 | .store _ _ _=>true
 | .box _ _=>true
 | .alloc _=>true
 | .buildSlice _ _ _=>true
 | .makeSlice _ _ _=>true
 | .slice _ _ _ _ _=>true
 | .indexAddr _ _ _=>true
 | .convert _ _ _=>true
 | .lookup _ _ _ _=>true
 | .mapUpdate _ _ _ _=>true
 | .makeMap _ _=>true
 | .makeFunc _ _ _=>true
 | .call ⟨.builtin .max,_,_⟩=>false
 | .call ⟨.builtin .min,_,_⟩=>false
 | .call _=>true
 | _=>false
def EL (x:Nat):List Nat->(List Nat->Prop)->Prop
 | [],K=>K [x]
 | y::l,K=>match Nat.beq x y with
  | true=>K (y::l)
  | false=>match Nat.ble x y with
   | true=>K (x::y::l)
   | false=>EL x l fun l=>K (y::l)
def DX:List Nat->List Nat->(List Nat->Prop)->Prop
 | [],l,K=>K l
 | x::m,l,K=>EL x l fun l=>DX m l K
def B9 (done:List (Bool×List Nat)):List Edge->List Nat->(List Nat->Prop)->Prop
 | [],l,K=>K l
 | ⟨j,g⟩::es,l,K=>match g with
  | .textOnly _=>B9 done es l K
  | .gcOnly _=>B9 done es l K
  | _=>kg done j fun d=>match d with
   | (true,a)=>DX a l fun l=>EL j l fun l=>B9 done es l K
   | (false,a)=>DX a l fun l=>B9 done es l K
def snK {α:Type} (x:α):List α->(List α->Prop)->Prop
 | [],K=>K [x]
 | y::l,K=>snK x l fun l=>K (y::l)
def guK (ops:List Oper):Option (Nat×Bool)->(Option (Nat×Bool)->Prop)->Prop
 | none,K=>K none
 | some (j,w),K=>kg ops j fun o=>match o with
  | ⟨some d,_,_,_,_,_⟩=>K (some (d,w))
  | _=>False
def mkK (i:Nat):List (Nat×Mk)->(Mk->Prop)->Prop
 | [],K=>K .n
 | (j,m)::l,K=>match Nat.beq j i with
  | true=>K m
  | false=>mkK i l K
def D8:List Nat:=[0,1,2,3,4,5,6,7,8,9,10,11,12,13,14,15,16,17,18,19,20,21,22,23,24,25,26,27,28,29,30,31,32,33,34,35,36,37,38,39,40,41,42,43,44,45,46,47,48,49,50,51,52,53,54,55,56,57,58,59,60,61,62,63,64,65,66,67,68,69,70,71,72,73,74,75,76,77,78,79,80,81,82,83,84,85,86,87,88,89,90,91,92,93,94,95,96,97,98,99]
def D5 (ms:List (Nat×Mk)) (all:List Oper):List Nat->List Oper->(List Ir->Prop)->Prop
 | i::is,⟨d,op,_,_,_,g⟩::l,K=>guK all g fun g=>mkK i ms fun m=>iK τ m op fun op=>D5 ms all is l fun l=>K (⟨d,g,op,[]⟩::l)
 | [],_::_,K=>False
 | _,[],K=>K []
def yZ (ms:List (Nat×Mk)) (all:List Oper) (done:List (Bool×List Nat)):List Nat->List Oper->(List Ir->Prop)->Prop
 | i::is,⟨d,op,_,_,es,g⟩::l,K=>guK all g fun g=>mkK i ms fun m=>iK τ m op fun op'=>B9 done es.toList [] fun a=>match H9 op,a with
  | true,a=>snK (true,a) done fun done=>yZ ms all done is l fun l=>K (⟨d,g,op',i::a⟩::l)
  | false,[]=>snK (false,[]) done fun done=>yZ ms all done is l fun l=>K (⟨d,g,op',[]⟩::l)
  | false,a=>snK (false,a) done fun done=>yZ ms all done is l fun l=>K (⟨d,g,op',i::a⟩::l)
 | [],_::_,K=>False
 | _,[],K=>K []
inductive Gh where
 | ra (id:Nat) (l:List L)
 | rb (id:Nat) (l:List L)
 | ba (id:Nat) (l:List L)
 | bb (id:Nat) (l:List L)
 | rm (id:Nat) (m:List (Nat×Mk))
abbrev L.op (t c:Nat):L:= .gop none (.opn (.t t) c)
abbrev L.cl (t c w:Nat) (dp:Bool):L:= .gop none (.cls (.t t) c w dp)
abbrev L.ou (t n:Nat):L:= .gop (some t) (.out (.t t) n)
abbrev L.it (t:Nat):L:= .gop (some t) (.inn (.t t))
def ghK {α:Type} (f:Gh->Option (Nat×List α)) (id:Nat):List Gh->(List α->Prop)->Prop
 | [],K=>K []
 | g::l,K=>match f g with
  | some (i,x)=>match Nat.beq i id with
   | true=>K x
   | false=>ghK f id l K
  | none=>ghK f id l K
def vp:List L->L->(L->Prop)->Prop
 | [],c,K=>K c
 | x::l,c,K=>vp l c fun c=>K (.seq x c)
def DC:List L->L->(L->Prop)->Prop
 | [],c,K=>K c
 | x::l,c,K=>DC l (.seq c x) K
variable (gs:List Gh)
def og:Code->List (List Nat)->(L->List (List Nat)->Prop)->Prop
 | .skip,ks,K=>K .skip ks
 | .region id ops draw,ks,K=>ghK (fun | .ra i l=>some (i,l) | _=>none) id gs fun a=>ghK (fun | .rb i l=>some (i,l) | _=>none) id gs fun b=>ghK (fun | .rm i l=>some (i,l) | _=>none) id gs fun m=>match draw with
  | true=>yZ τ m ops.toList [] D8 ops.toList fun l=>DC b (.wZ l) fun c=>vp a c fun c=>K c ks
  | false=>D5 τ m ops.toList D8 ops.toList fun l=>DC b (.reg l) fun c=>vp a c fun c=>K c ks
 | .seq x y,ks,K=>og x ks fun x ks=>og y ks fun y ks=>K (.seq x y) ks
 | .cond c x y,ks,K=>aK c fun c=>og x ks fun x ks=>og y ks fun y ks=>K (.ite c x y) ks
 | .block id x,ks,K=>ghK (fun | .ba i l=>some (i,l) | _=>none) id gs fun a=>ghK (fun | .bb i l=>some (i,l) | _=>none) id gs fun b=>og x ks fun x ks=>DC b (.blk id x) fun c=>vp a c fun c=>K c ks
 | .loop x,ks,K=>match ks with
  | k::ks=>og x ks fun x ks=>K (.loop k x) ks
  | []=>False
 | .exit id,ks,K=>K (.exit id) ks
 | .ret,ks,K=>K .ret ks
 | _,_,_=>False
def CP:List ResultVar->(List RS->Prop)->Prop
 | [],K=>K []
 | .tmp t::l,K=>CP l fun l=>K ((t,none)::l)
 | .cell t ty::l,K=>nK τ ty fun n=>CP l fun l=>K ((t,some n)::l)
def H8 (f:Func) (ks:List (List Nat)) (K:L->List RS->Prop):Prop :=
 match f with
 | ⟨_,_,_,_,_,_,_,rs,some c,_,_,_,_,_,_,_⟩=>og τ gs c ks fun l _=>CP τ rs.toList fun ts=>K l ts
 | _=>False
def initK {α:Type}:List α->(List α->α->Prop)->Prop
 | [],_=>False
 | [x],K=>K [] x
 | x::l,K=>initK l fun l y=>K (x::l) y
def Gm (f:Func) (ks:List (List Nat)) (K:L->List Ir->Nat->L->List RS->Prop):Prop :=
 match f with
 | ⟨_,_,_,_,_,_,_,rs,some (.seq c0 (.seq (.region _ ops _) c1)),_,_,_,_,_,_,_⟩=>og τ gs c0 ks fun l0 ks=>initK ops.toList fun os d=>match d with
  | ⟨_,.defer ⟨.value (.tmp t),_,_⟩,_,_,_,_⟩=>D5 τ [] os D8 os fun is=>og τ gs c1 ks fun l _=>CP τ rs.toList fun ts=>K l0 is t l ts
  | _=>False
 | _=>False
end
structure Bx (p:Prop):Prop where
 b:p
section
variable (C:Ctx) (m:Nat) (K:V->List (Option O)->Kt) (Q:V->List (Option O)->Prop)
def Rn (k:List It) (fr:Fr) (σ:Ob) (nx:Nat):Prop:=rJ fr fun fr=>rK σ fun σ=>wQ nx fun nx=>Loc.run m (fun c=>Bx (ah C m K Q c)) 1000 k fr σ nx
def Rc (c:Cfg):Prop:=match c with
 | .st k fr σ nx=>Rn C m K Q k fr σ nx
 | c=>Bx (ah C m K Q c)
end
section
variable {C:Ctx} {m:Nat} {K:V->List (Option O)->Kt} {Q:V->List (Option O)->Prop}
theorem gG (h:Rn C m K Q k fr σ nx):ah C m K Q (.st k fr σ nx):=by
 unfold Rn at h;simp only [gi,gj,iz] at h;obtain ⟨c,hc⟩:=xG m 1000 k fr σ nx;rw [hc] at h;refine ah.start 1000 ?_;simp [gi,gj,iz,hc,h.b]
theorem Rn.go (h:Rn C m K Q k fr σ nx):ah C m K Q (.st k fr σ nx):=gG h
theorem Rc.go (h:Rc C m K Q c):ah C m K Q c:=by
 unfold Rc at h;split at h
 ·exact gG h
 ·exact h.b
theorem gP {x:Cfg} (h1:b=true->Rc C m K Q x) (h2:b=false->Rc C m K Q y):ah C m K Q (.split b x y):= .split (fun h=>(h1 h).go) fun h=>(h2 h).go
theorem gY {x:Cfg} (h:Rc C m K Q x) (hb:b=true:=by first | rfl | assumption):ah C m K Q (.split b x y):= .yes hb h.go
theorem gX {x:Cfg} (h:Rc C m K Q y) (hb:b=false:=by first | rfl | assumption):ah C m K Q (.split b x y):= .no hb h.go
theorem gN (hp:p) (h:Rc C m K Q c):ah C m K Q (.dR p c):= .dR hp h.go
def efK (f:Option Eff) (K:Eff->Prop):Prop:=match f with
 | some e=>K e
 | none=>False
theorem gD {f:List D->Option Eff} 
  (hr:rows[n]?=some row) (h:efK (f row) fun e=>Rn C m K Q (.ops rest (jf tr anc σ e.pt e.rd)::k) (fq fr dst e.v) (patch σ e.pt) (nx+e.n)) (hp:p:=by first | trivial | omega):ah C m K Q (.exD p rows n f dst anc rest tr k fr σ nx):=by
 unfold efK at h;split at h
 ·rename_i e he;exact .exD hr hp he h.go
 ·exact h.elim
theorem gC {f:Nat} (π:List Nat)
  (hc:Fn C f args os v os') (h:Rn C m K Q (.ops rest (jf tr anc σ (dQ π π.length nx 0 os') (π.zip (gp π π.length nx os)))::k) (fq fr dst (v.nO π π.length nx)) (patch σ (dQ π π.length nx 0 os')) (nx+(os'.length - π.length)))
  (hk:lk π args os v os'=true:=by rfl) (hx:xs=j2 π π.length nx args:=by rfl) (hσ:gE σ π=some (gp π π.length nx os):=by rfl):ah C m K Q (.call f xs dst anc rest tr k fr σ nx):= .call π hc hk hx hσ h.go
theorem gO {f:Nat} 
  (hc:Fn C f args [] v os') (h:Rn C m K Q (.ops rest (jf tr anc σ (dQ [] 0 nx 0 os') [])::k) (fq fr dst (v.nO [] 0 nx)) (patch σ (dQ [] 0 nx 0 os')) (nx+os'.length))
  (hk:lk [] args [] v os'=true:=by rfl) (hx:xs=j2 [] 0 nx args:=by rfl):ah C m K Q (.call f xs dst anc rest tr k fr σ nx):= .call [] hc hk hx rfl h.go
theorem gL {b:L} (h:Rn C m K Q (.code b:: .lpe cA b::k) fr σ nx):ah C m K Q (.lp cA b k fr σ nx):= .lp h.go
theorem gT (h:Rn C m K Q k fr σ nx):ah C m K Q (.cut k fr σ nx):= .cut h.go
theorem gW {b:L} (μ:α->Nat) (I:α->Prop) (A:α->Fr) (B:α->Ob) (N:Nat)
  (h:∀ x,I x->(∀ y,I y->μ y < μ x->ah C m K Q (.lp cA b k (A y) (B y) N))->Rn C m K Q (.code b:: .lpe cA b::k) (A x) (B x) N):∀ x,I x->ah C m K Q (.lp cA b k (A x) (B x) N):= .loop μ I A B N fun x i ih=>(h x i ih).go
end
section
variable {C:Ctx} {m:Nat} {ts:List RS}
def LvK (m:Nat) (ts:List RS) (x:Ex) (fr:Fr) (σ:Ob) (P:V->Ob->Prop):Prop:=match x with
 | .exit _=>False
 | _=>rJ (eB fr (ts.map (·.1))) fun fr=>pL (upto m++Dj fr) fun td=>mX σ 1000 td [] fun l=>match fU m l fr σ with
  | some (fr',σ',_)=>match qO σ' fr' ts with
   | some v=>sJ v fun v=>rK σ' fun σ'=>P v σ'
   | none=>False
  | none=>False
theorem LvK.ex {P:V->Ob->Prop} (h:LvK m ts x fr σ P):(∀ id,x≠ .exit id)/\∃ l fr' σ' n v,fU m l (eB fr (ts.map (·.1))) σ=some (fr',σ',n)/\qO σ' fr' ts=some v/\P v σ':=by
 unfold LvK at h;split at h
 ·exact h.elim
 ·rename_i hx;simp only [gi,l7,kx] at h;split at h
  ·rename_i fr' σ' n hc;split at h
   ·rename_i v hv;simp only [iS,gj] at h
    grind
   ·exact h.elim
  ·exact h.elim
theorem lE (h:LvK m ts x fr σ fun v σ'=>outs σ' 0 os'/\Q v os'):b4 C m ts Q (.fin x fr σ nx):=by
 obtain ⟨hx,l,fr',σ',n,v,hc,hv,hg,hq⟩:=h.ex;exact ah.leave l (by cases x<;>first | trivial | exact (hx _ rfl).elim) hc hv hg hq
theorem lW (h:LvK m ts x fr σ fun v1 σ'=>outs σ' 0 os'/\v1=v):b4 C m ts (fun v1 os1=>v1=v/\os1=os') (.fin x fr σ nx):=by
 obtain ⟨hx,l,fr',σ',n,v1,hc,hv,hg,hq⟩:=h.ex;exact ah.leave l (by cases x<;>first | trivial | exact (hx _ rfl).elim) hc hv hg ⟨hq,rfl⟩
end
structure Cd (P:Program) (n:Nat) where
 f:Func
 l:L
 ts:List RS
 hf:P.funcs[n]?=some f
 ok:okF P f l (f.params.size+f.nfree) ts=true
def Cd.of {P:Program} (τ:List TyI) {n:Nat} {f:Func} (hf:P.funcs[n]?=some f) (ks:List (List Nat)) (gs:List Gh) {l:L} {ts:List RS} (h:H8 τ gs f ks fun l' ts'=>l'=l/\ts'=ts:=by (conv=>whnf);exact ⟨rfl,rfl⟩) (ok:okF P f l (f.params.size+f.nfree) ts=true:=by kernel_rfl):Cd P n:=⟨f,l,ts,hf,ok⟩
structure CdD (P:Program) (n:Nat) where
 f:Func
 l0:L
 is:List Ir
 t:Nat
 l:L
 ts:List RS
 hf:P.funcs[n]?=some f
 ok:A1 P f l0 is t l (f.params.size+f.nfree) ts=true
def CdD.of {P:Program} (τ:List TyI) {n:Nat} {f:Func} (hf:P.funcs[n]?=some f) (ks:List (List Nat)) (gs:List Gh) {l0:L} {is:List Ir} {t:Nat} {l:L} {ts:List RS} (h:Gm τ gs f ks fun a b c d e=>l0=a/\is=b/\t=c/\l=d/\ts=e:=by (conv=>whnf);exact ⟨rfl,rfl,rfl,rfl,rfl⟩) (ok:A1 P f l0 is t l (f.params.size+f.nfree) ts=true:=by kernel_rfl):CdD P n:=⟨f,l0,is,t,l,ts,hf,ok⟩
section
variable {C:Ctx} {P:Program} (hP:C.P=P) {n:Nat} (c:Cd P n) {args:List V} {os:List O}
include hP
theorem eE (h:cpK c.ts fun ts=>Rn C os.length (fun v os'=>Fin os.length ts v (fun i=>(os'[i]?).join)) Q [.code c.l] (eW 0 args) (obs 0 os) os.length) (hn:args.length=c.f.params.size+c.f.nfree:=by rfl):FnE C n args os Q:=by
 subst hP;have e:∀ (l:List RS) (K:List RS->Prop),cpK l K=K l:=by
  intro l;induction l with
  | nil=>intro K;rfl
  | cons x l ih=>intro K;simp only [cpK,ih]
 rw [e] at h;exact FnE.run c.ts c.hf (hn▸c.ok) h.go
theorem eN (h:cpK c.ts fun ts=>Rn C os.length (fun v os'=>Fin os.length ts v (fun i=>(os'[i]?).join)) (fun v1 os1=>v1=v/\os1=os') [.code c.l] (eW 0 args) (obs 0 os) os.length) (hn:args.length=c.f.params.size+c.f.nfree:=by rfl):Fn C n args os v os' :=
 (eE hP c h hn).of_eq
theorem eG (h:b4 C os.length c.ts Q (.st [.code c.l] (eW 0 args) (obs 0 os) os.length)) (hn:args.length=c.f.params.size+c.f.nfree:=by rfl):FnE C n args os Q:=by
 subst hP;exact FnE.run c.ts c.hf (hn▸c.ok) h
theorem eH (h:b4 C os.length c.ts (fun v1 os1=>v1=v/\os1=os') (.st [.code c.l] (eW 0 args) (obs 0 os) os.length)) (hn:args.length=c.f.params.size+c.f.nfree:=by rfl):Fn C n args os v os' :=
 (eG hP c h hn).of_eq
theorem eK (h:Goal C os.length (Fin os.length c.ts v (fun i=>(os'[i]?).join)) (.st [.code c.l] (eW 0 args) (obs 0 os) os.length)) (hn:args.length=c.f.params.size+c.f.nfree:=by rfl):FnD C n args os os':=by
 subst hP;exact FnD.FA c.ts c.hf (hn▸c.ok) h
omit c in
theorem eD (c:CdD P n) (h:ah C os.length (Ff C os.length c.ts c.t c.l) Q (.st [.code c.l0,.ops c.is .off] (eW 0 args) (obs 0 os) os.length)) (hn:args.length=c.f.params.size+c.f.nfree:=by rfl):FnE C n args os Q:=by
 subst hP;exact FnE.G8 c.ts c.hf (hn▸c.ok) h
end
end Go.Proofs.YtggoiofammbchaaGreatDoor.Loc
