/- Part 12 of a chain that ends in the statement named in GOCLAIM.json; no condition. -/
import Derived.Test.YtggoiofammbchaaGreatDoorK11
set_option maxRecDepth 100000
set_option maxHeartbeats 2000000
set_option linter.all false
namespace Go.Proofs.YtggoiofammbchaaGreatDoor.Loc
open Go
variable {α β:Type} {d k p:Nat} {kd nd:D} {kids:List Int} {l:List Tok} {name t:List UInt8} {ns:List Nd}
inductive jg where
 | expr (d p:Nat) (ns:List Nd)
 | op (d k p:Nat) (ns:List Nd)
 | opL (d k:Nat) (a:Int) (p:Nat) (ns:List Nd)
 | un (d p:Nat) (ns:List Nd)
 | jJ (d p:Nat) (ns:List Nd)
 | args (d:Nat) (name:List UInt8) (first:Bool) (kids:List Int) (p:Nat) (ns:List Nd)
 | block (d p:Nat) (ns:List Nd)
 | stmts (d:Nat) (kids:List Int) (p:Nat) (ns:List Nd)
 | stmt (d p:Nat) (ns:List Nd)
 | cd (name:List UInt8) (names:List (List UInt8)) (p:Nat) (ns:List Nd)
 | top (kids:List Int) (p:Nat) (ns:List Nd)
abbrev cV:=Except (Int×Int) (Int×Nat×List Nd)
def bnd {α β:Type} (x:Option (Except (Int×Int) α)) (f:α->Option (Except (Int×Int) β)):Option (Except (Int×Int) β):=match x with
 | none=>none
 | some (.error e)=>some (.error e)
 | some (.ok a)=>f a
def isS (l:List Tok) (p:Nat) (k:Int) (t:List UInt8):Bool:=match l[p]? with
 | some x=>decide (x.kind=k)&&decide (x.text=t)
 | none=>false
def dc (l:List Tok) (p:Nat):Int:=match l[p]? with | some x=>x.kind | none=>0
def cF (l:List Tok) (p:Nat):List UInt8:=match l[p]? with | some x=>x.text | none=>[]
def uJ:List (Int×List (List UInt8)):=[(9,[[124,124]]),(8,[[38,38]]),(7,[[60],[61,61]]),(7,[[43],[45]]),(7,[[42],[47],[37]])]
def nh (k:Nat):List (List UInt8):=(uJ[k]?.getD (0,[])).2
def ju (k:Nat):Int:=(uJ[k]?.getD (0,[])).1
def cv (l:List Tok) (p:Nat) (ns:List Nd) (x:Nd):Option cV:=if ns.length=200 then some (.error (6,cY l p)) else some (.ok (ns.length,p,ns++[x]))
def a8 (l:List Tok) (p:Nat) (t:List UInt8):Option (Except (Int×Int) Nat):=if isS l p 5 t=true then some (.ok (p+1)) else some (.error (3,cY l p))
def cU (l:List Tok) (p:Nat) (k:Int):Option (Except (Int×Int) (List UInt8×Nat)):=if dc l p=k then some (.ok (cF l p,p+1)) else some (.error (3,cY l p))
def AB:List UInt8:=[108,101,116]
def tIf:List UInt8:=[105,102]
def kr:List UInt8:=[101,108,115,101]
def qG:List UInt8:=[119,104,105,108,101]
def nH:List UInt8:=[114,101,116,117,114,110]
def qH:List UInt8:=[116,104,114,111,119]
def AA:List UInt8:=[116,114,121]
def lK:List UInt8:=[99,97,116,99,104]
def oE:List UInt8:=[102,117,110,99,116,105,111,110]
def yr:List UInt8:=[116,114,117,101]
def uh:List UInt8:=[102,97,108,115,101]
def yu:List UInt8:=[110,117,108,108]
def mm (l:List Tok):Nat->jg->Option cV
 | 0,_=>none
 | n+1,c =>
  let ended:=fun (d:Nat) (kind:Int) (name:List UInt8) (p:Nat) (ns:List Nd) =>
   bnd (mm l n (.expr d p ns)) fun (a,p,ns)=>bnd (a8 l p [59]) fun p=>cv l p ns ⟨kind,0,name,[],[a]⟩
  let inBr:=fun (d p:Nat) (ns:List Nd) =>
   bnd (a8 l p [40]) fun p=>bnd (mm l n (.expr d p ns)) fun (a,p,ns)=>bnd (a8 l p [41]) fun p=>some (.ok (a,p,ns))
  match c with
  | .expr d p ns=>if d=20 then some (.error (9,cY l p)) else mm l n (.op (d+1) 0 p ns)
  | .op d k p ns=>if k=5 then mm l n (.un d p ns) else bnd (mm l n (.op d (k+1) p ns)) fun (a,p,ns)=>mm l n (.opL d k a p ns)
  | .opL d k a p ns=>if dc l p=5/\cF l p∈nh k then
    bnd (mm l n (.op d (k+1) (p+1) ns)) fun (b,p',ns)=>bnd (cv l p' ns ⟨ju k,0,if ju k=7 then cF l p else [],[],[a,b]⟩) fun (c,p',ns)=>mm l n (.opL d k c p' ns)
   else some (.ok (a,p,ns))
  | .un d p ns=>if isS l p 5 [33]=true\/isS l p 5 [45]=true then
    (if d=20 then some (.error (9,cY l (p+1))) else bnd (mm l n (.un (d+1) (p+1) ns)) fun (a,p',ns)=>cv l p' ns ⟨6,0,cF l p,[],[a]⟩)
   else mm l n (.jJ d p ns)
  | .jJ d p ns =>
   if dc l p=3 then cv l (p+1) ns ⟨1,jt (cF l p),[],[],[]⟩
   else if dc l p=4 then cv l (p+1) ns ⟨2,0,cF l p,[],[]⟩
   else if dc l p=1 then (if isS l (p+1) 5 [40]=true then mm l n (.args d (cF l p) true [] (p+2) ns) else cv l (p+1) ns ⟨5,0,cF l p,[],[]⟩)
   else if isS l p 2 yr=true then cv l (p+1) ns ⟨3,1,[],[],[]⟩
   else if isS l p 2 uh=true then cv l (p+1) ns ⟨3,0,[],[],[]⟩
   else if isS l p 2 yu=true then cv l (p+1) ns ⟨4,0,[],[],[]⟩
   else if isS l p 5 [40]=true then bnd (mm l n (.expr d (p+1) ns)) fun (a,p,ns)=>bnd (a8 l p [41]) fun p=>some (.ok (a,p,ns))
   else some (.error (3,cY l p))
  | .args d name first kids p ns=>if isS l p 5 [41]=true then cv l (p+1) ns ⟨10,0,name,[],kids⟩ else
    bnd (if first=true then some (.ok p) else a8 l p [44]) fun p=>bnd (mm l n (.expr d p ns)) fun (a,p,ns)=>mm l n (.args d name false (kids++[a]) p ns)
  | .block d p ns=>bnd (a8 l p [123]) fun p=>mm l n (.stmts d [] p ns)
  | .stmts d kids p ns=>if isS l p 5 [125]=true then cv l (p+1) ns ⟨18,0,[],[],kids⟩ else bnd (mm l n (.stmt d p ns)) fun (a,p,ns)=>mm l n (.stmts d (kids++[a]) p ns)
  | .stmt d p ns=>if d=20 then some (.error (9,cY l p)) else
   if isS l p 2 AB=true then bnd (cU l (p+1) 1) fun (t,p)=>bnd (a8 l p [61]) fun p=>ended (d+1) 11 t p ns
   else if isS l p 2 nH=true then ended (d+1) 15 [] (p+1) ns
   else if isS l p 2 qH=true then ended (d+1) 16 [] (p+1) ns
   else if isS l p 2 qG=true then bnd (inBr (d+1) (p+1) ns) fun (a,p,ns)=>bnd (mm l n (.block (d+1) p ns)) fun (b,p,ns)=>cv l p ns ⟨14,0,[],[],[a,b]⟩
   else if isS l p 2 tIf=true then bnd (inBr (d+1) (p+1) ns) fun (a,p,ns)=>bnd (mm l n (.block (d+1) p ns)) fun (b,p,ns) =>
    if isS l p 2 kr=true then bnd (mm l n (.block (d+1) (p+1) ns)) fun (c,p,ns)=>cv l p ns ⟨13,0,[],[],[a,b,c]⟩ else cv l p ns ⟨13,0,[],[],[a,b]⟩
   else if isS l p 2 AA=true then bnd (mm l n (.block (d+1) (p+1) ns)) fun (a,p,ns)=>bnd (if isS l p 2 lK=true then some (.ok (p+1)) else some (.error (3,cY l p))) fun p =>
    bnd (a8 l p [40]) fun p=>bnd (cU l p 1) fun (t,p)=>bnd (a8 l p [41]) fun p=>bnd (mm l n (.block (d+1) p ns)) fun (b,p,ns)=>cv l p ns ⟨17,0,t,[],[a,b]⟩
   else if isS l p 5 [123]=true then mm l n (.block (d+1) p ns)
   else if dc l p=1/\isS l (p+1) 5 [61]=true then ended (d+1) 12 (cF l p) (p+2) ns
   else ended (d+1) 19 [] p ns
  | .cd name names p ns=>if isS l p 5 [41]=true then bnd (mm l n (.block 0 (p+1) ns)) fun (a,p,ns)=>cv l p ns ⟨20,0,name,names,[a]⟩ else
    bnd (if names=[] then some (.ok p) else a8 l p [44]) fun p=>bnd (cU l p 1) fun (t,p)=>mm l n (.cd name (names++[t]) p ns)
  | .top kids p ns=>if p < l.length then
    (if isS l p 2 oE=true then bnd (cU l (p+1) 1) fun (t,p)=>bnd (a8 l p [40]) fun p=>bnd (mm l n (.cd t [] p ns)) fun (a,p,ns)=>mm l n (.top (kids++[a]) p ns)
    else bnd (mm l n (.stmt 0 p ns)) fun (a,p,ns)=>mm l n (.top (kids++[a]) p ns))
   else cv l p ns ⟨18,0,[],[],kids⟩
section
variable {C:Ctx} (hP:C.P=Tryz.prog)
include hP
def PI.deep (l:List Tok) (s:PI):PI:={(if s.opn=20 then s.fail l 9 else s) with opn:=IntKind.i64.wrap (s.opn+1)}
theorem Eo (hl:dr l) (s:PI) (hs:s.code=0->s.place=0) :
  Fn C 198 [.ptr 0 0 0] [s.enc l 1,aB s.nodes] (.fn 238 [(2,0,0)]) [some ((s.deep l).enc l 1),some (aB s.nodes),some (.st [.ptr 0 0 0])]:=by
 have hfo:(s.fail l 9).opn=s.opn:=by unfold PI.fail;split<;>rfl
 have hfn:(s.fail l 9).nodes=s.nodes:=by unfold PI.fail;split<;>rfl
 refine eN hP c198 ⟨?_⟩;refine gP (fun h1=>⟨?_⟩) fun h1=>⟨?_⟩
 ·have h1:s.opn=20:=ai h1;refine gC [0,1] (zH hP hl s hs 9) ⟨?_⟩;refine lW ⟨⟨?_,rfl,rfl,trivial⟩,rfl⟩;(conv=>lhs;whnf);simp [PI.enc,PI.deep,h1,hfn,<- hfo];rw [hfo,h1];rfl
 ·have h1:¬ s.opn=20:=ao h1;refine lW ⟨⟨?_,rfl,rfl,trivial⟩,rfl⟩;(conv=>lhs;whnf);simp [PI.enc,PI.deep,h1]
def PI.shut (s:PI):PI:={s with opn:=IntKind.i64.wrap (s.opn - 1)}
theorem Ek (l:List Tok) (s:PI):Fn C 238 [.ptr 0 0 0] [.st [.ptr 1 0 0],s.enc l 2,aB s.nodes] (.tup []) [some (.st [.ptr 1 0 0]),some (s.shut.enc l 2),some (aB s.nodes)]:=by
 refine eN hP E0 ⟨?_⟩;exact lW ⟨⟨rfl,rfl,rfl,trivial⟩,rfl⟩
def Hc:D:= .imm 2 (uJ.map fun p=>[.int .i64 p.1,strs p.2])
theorem Bj:Fn C 277 [] [] (.d Hc) []:=by
 refine eN hP Ik ⟨?_⟩
 (repeat' (first | refine gP (fun _=>⟨?_⟩) fun _=>⟨?_⟩ | exact lW ⟨trivial,rfl⟩ | refine lW ⟨trivial,?_⟩))
end
abbrev IS (opn:Int) (r:cV) (x:Int) (s:PI):Prop:=match r with
 | .ok (y,p,ns)=>x=y/\s=⟨p,opn,ns,0,0⟩
 | .error (c,pl)=>s.code=c/\s.place=pl/\s.nodes.length<=200
def IQ (l:List Tok) (opn:Int) (r:cV) (v:V) (os':List (Option O)):Prop :=
 ∃ (x:Int) (s:PI),v= .d (.int .i64 x)/\os'=[some (s.enc l 2),none,some (aB s.nodes)]/\IS opn r x s
theorem yL (h:k < 5):(uJ.map fun p=>[D.int .i64 p.1,strs p.2])[((k:Nat):Int).toNat]?=some [.int .i64 (ju k),strs (nh k)]:=by
 have:k=0\/k=1\/k=2\/k=3\/k=4:=by omega
 rcases this with rfl | rfl | rfl | rfl | rfl<;>rfl
section
variable {C:Ctx} (hP:C.P=Tryz.prog)
include hP
section
variable {l:List Tok} (hl:dr l) (s:PI) (hc:s.code≠0) (hn:s.nodes.length<=200)
include hl hc
theorem Gu (c:Int):Fn C 205 [.ptr 0 0 0,.d (.int .i64 c)] [s.enc l 1,aB s.nodes] (.tup []) [some (s.enc l 1),some (aB s.nodes)]:=by
 have:=zH hP hl s (fun h=>absurd h hc) c
 rwa [PI.fail,ab hc] at this
theorem BO:Fn C 204 [.ptr 0 0 0] [s.enc l 1,aB s.nodes] (.d (.int .i64 0)) [some (s.enc l 1),some (aB s.nodes)]:=by
 have:=Em hP (l:=l) s (fun h=>absurd h hc)
 rwa [gJ,ab hc] at this
theorem nY (k:Int) (t:List UInt8):jZ l s k t=false:=by simp [jZ,hc]
theorem pY (t:List UInt8):Fn C 138 [.ptr 0 0 0,.d (.str t)] [s.enc l 1,aB s.nodes] (.d (.bool false)) [some (s.enc l 1),some (aB s.nodes)]:=by
 have:=ED hP hl s t
 rwa [nY hP hl s hc] at this
theorem EV (t:List UInt8):Fn C 196 [.ptr 0 0 0,.d (.str t)] [s.enc l 1,aB s.nodes] (.d (.bool false)) [some (s.enc l 1),some (aB s.nodes)]:=by
 have:=C7 hP hl s t
 rwa [nY hP hl s hc] at this
theorem Ig (k:Int) (t:List UInt8):Fn C 203 [.ptr 0 0 0,.d (.int .i64 k),.d (.str t)] [s.enc l 1,aB s.nodes] (.d (.bool false)) [some (s.enc l 1),some (aB s.nodes)]:=by
 have:=En hP l s k t
 rwa [nY hP hl s hc] at this
theorem pX (t:List UInt8):Fn C 195 [.ptr 0 0 0,.d (strs [t])] [s.enc l 1,aB s.nodes] (.tup []) [some (s.enc l 1),some (aB s.nodes)]:=by
 have:=Ep hP hl s (fun h=>absurd h hc) t
 rwa [PI.tF,nY hP hl s hc,ab (by simp),PI.fail,ab hc] at this
theorem EW (k:Int) (hk:k≠0):Fn C 194 [.ptr 0 0 0,.d (.int .i64 k)] [s.enc l 1,aB s.nodes] (.d (.str [])) [some (s.enc l 1),some (aB s.nodes)]:=by
 have:=Er hP hl s (fun h=>absurd h hc) (fun h=>absurd h hc) k hk;have hk0:¬ gJ l s=k:=by rw [gJ,ab hc];exact fun h=>hk h.symm
 rwa [oD,ab hk0,PI.text,ab hk0,PI.fail,ab hc] at this
theorem Ih:Fn C 198 [.ptr 0 0 0] [s.enc l 1,aB s.nodes] (.fn 238 [(2,0,0)]) [some (PI.enc l {s with opn:=IntKind.i64.wrap (s.opn+1)} 1),some (aB s.nodes),some (.st [.ptr 0 0 0])]:=by
 have:=Eo hP hl s (fun h=>absurd h hc);have e:s.deep l={s with opn:=IntKind.i64.wrap (s.opn+1)}:=by
  unfold PI.deep PI.fail;rw [ab hc];split<;>rfl
 rwa [e] at this
include hn
theorem kD (x:Nd) (hnd:lsD (strs x.names) nd) (hkd:lsD (bJ x.kids) kd):Fn C 141 [.ptr 0 0 0,ndV x nd kd] [s.enc l 1,aB s.nodes] (.d (.int .i64 0)) [some (s.enc l 2),none,some (aB s.nodes)]:=by
 have:=F5 hP hl s (fun h=>absurd h hc) x hn hnd hkd
 rwa [PI.rf,ab hc,PI.node,ab hc] at this
theorem Ie:FnE C 286 [.ptr 0 0 0] [s.enc l 1,aB s.nodes] (IQ l s.opn (.error (s.code,s.place))):=by
 refine eE hP GA ⟨gC [0,1] (BO hP hl s hc) ⟨gX ⟨gX ⟨gX ⟨gC [0,1] (pY hP hl s hc _) ⟨gX ⟨gC [0,1] (pY hP hl s hc _) ⟨gX ⟨gC [0,1] (pY hP hl s hc _) ⟨gX ⟨gC [0,1] (EV hP hl s hc _) ⟨gX ⟨gC [0,2] (Gu hP hl s hc _) ⟨lE (os':=[some (s.enc l 2),none,some (aB s.nodes)]) ⟨⟨rfl,rfl,trivial⟩,?_⟩⟩⟩⟩⟩⟩⟩⟩⟩⟩⟩⟩⟩⟩⟩;(conv=>whnf);exact ⟨_,s,rfl,rfl,rfl,rfl,hn⟩
theorem Gt:FnE C 278 [.ptr 0 0 0] [s.enc l 1,aB s.nodes] (IQ l s.opn (.error (s.code,s.place))):=by
 refine eE hP EZ ⟨gL ⟨gY ⟨gD rfl ⟨gC [0,1] (EV hP hl s hc _) ⟨gX ⟨gL ⟨gY ⟨?_⟩⟩⟩⟩⟩ (by decide)⟩⟩⟩;refine ah.exD (row:=[.str [45]]) rfl (by decide) rfl ?_;refine gG ⟨gC [0,1] (EV hP hl s hc _) ⟨gX ⟨gL ⟨gX ⟨?_⟩⟩⟩⟩⟩;obtain ⟨v,os',h1,x,s',rfl,rfl,h2,h3,h4⟩:=Ie hP hl s hc hn;refine gC [0,1] h1 ⟨lE (os':=[some (s'.enc l 2),none,some (aB s'.nodes)]) ⟨⟨rfl,rfl,trivial⟩,?_⟩⟩;(conv=>whnf);exact ⟨_,s',rfl,rfl,h2,h3,h4⟩
omit s hc hn in
omit hc hn in
theorem ES:∀ (n k:Nat),k+n=5->∀ (s:PI),s.code≠0->s.nodes.length<=200->FnE C 260 [.ptr 0 0 0,.d (.int .i64 k)] [s.enc l 1,aB s.nodes] (IQ l s.opn (.error (s.code,s.place)))
 | 0,k,hk,s,hc,hn=>by
  refine eE hP ye ⟨gO (Bj hP) ⟨gY ⟨?_⟩ (aR (show (k:Int)=5 by omega))⟩⟩;obtain ⟨v,os',h1,x,s',rfl,rfl,h2,h3,h4⟩:=Gt hP hl s hc hn;refine gC [0,1] h1 ⟨lE (os':=[some (s'.enc l 2),none,some (aB s'.nodes)]) ⟨⟨rfl,rfl,trivial⟩,?_⟩⟩;(conv=>whnf);exact ⟨_,s',rfl,rfl,h2,h3,h4⟩
 | n+1,k,hk,s,hc,hn=>by
  refine eE hP ye ⟨gO (Bj hP) ⟨gX ⟨gO (Bj hP) ⟨gD (yL (by omega)) ⟨?_⟩⟩⟩ (aI (show ¬ (k:Int)=5 by omega))⟩⟩;rw [aC (by omega)];obtain ⟨v,os',h1,x,s',rfl,rfl,h2,h3,h4⟩:=ES n (k+1) (by omega) s hc hn;refine gC [0,1] h1 ⟨?_⟩;have hc':s'.code≠0:=by rw [h2];exact hc
  refine gL ⟨gC [0,3] (BO hP hl s' hc') ⟨gX ⟨gT ⟨?_⟩⟩⟩⟩;refine ah.aD (os':=[some (PI.enc _ s' 2),none,some (aB (PI.nodes s'))]) [0,1,2] trivial rfl rfl ⟨rfl,rfl,trivial⟩ ?_;(conv=>whnf);exact ⟨_,s',rfl,rfl,h2,h3,h4⟩
omit hl hc hn s in
theorem hU (l:List Tok) (s:PI):FnD C 238 [.ptr 0 0 0] [.st [.ptr 1 0 0],s.enc l 2,aB s.nodes] [some (.st [.ptr 1 0 0]),some (s.shut.enc l 2),some (aB s.nodes)]:=by
 have key:b4 C 3 [] (fun v1 os1=>v1= .tup []/\os1=[some (.st [.ptr 1 0 0]),some (s.shut.enc l 2),some (aB s.nodes)]) (.st [.code E0.l] (eW 0 [.ptr 0 0 0]) (obs 0 [.st [.ptr 1 0 0],s.enc l 2,aB s.nodes]) 3):=by
  refine gG ⟨lE (os':=[some (.st [.ptr 1 0 0]),some (s.shut.enc l 2),some (aB s.nodes)]) ⟨⟨rfl,rfl,rfl,trivial⟩,?_⟩⟩;(conv=>whnf);exact ⟨rfl,rfl⟩
 obtain ⟨v,os',h1,rfl,rfl⟩:=key;exact eK hP E0 h1
theorem ET:FnE C 239 [.ptr 0 0 0] [s.enc l 1,aB s.nodes] (IQ l s.opn (.error (s.code,s.place))):=by
 refine eD hP GC ?_;refine gG ⟨gC [0,1] (Ih hP hl s hc) ⟨?_⟩⟩;refine ah.laid (fd:=238) (caps:=[(2,0,0)]) rfl rfl ?_;refine gG ⟨?_⟩;obtain ⟨v,os',h1,x,s',rfl,rfl,h2,h3,h4⟩:=ES hP hl 5 0 rfl {s with opn:=IntKind.i64.wrap (s.opn+1)} hc hn;refine gC [0,1] h1 ⟨?_⟩;refine ah.fo (os':=[some (PI.enc _ (PI.shut s') 2),none,some (aB (PI.nodes s'))]) [2,0,3] [0,1,3] trivial (hU hP l s') rfl rfl rfl rfl rfl ⟨rfl,rfl,trivial⟩ ?_;(conv=>whnf);exact ⟨_,s'.shut,rfl,rfl,h2,h3,h4⟩
theorem x4:FnE C 197 [.ptr 0 0 0] [s.enc l 1,aB s.nodes] (IQ l s.opn (.error (s.code,s.place))):=by
 refine eE hP Aj ⟨gC [0,1] (pX hP hl s hc [123]) ⟨gL ⟨gX ⟨gT ⟨gC [0,3] (kD hP hl s hc hn ⟨18,0,[],[],[]⟩ (.inr ⟨rfl,rfl⟩) (.inl rfl)) ⟨?_⟩⟩⟩ (aI hc)⟩⟩⟩;refine ah.aD (os':=[some (PI.enc _ s 2),none,some (aB (PI.nodes s))]) [0,1,4] trivial rfl rfl ⟨rfl,rfl,trivial⟩ ?_;(conv=>whnf);exact ⟨_,s,rfl,rfl,rfl,rfl,hn⟩
theorem EU (x:Nd) (hx:x.names=[]) (kd:D):FnE C 199 [.ptr 0 0 0,ndV x .nil kd] [s.enc l 1,aB s.nodes] (IQ l s.opn (.error (s.code,s.place))):=by
 refine eE hP GF ⟨?_⟩;obtain ⟨v,os',h1,a,s',rfl,rfl,h2,h3,h4⟩:=ET hP hl s hc hn;refine gC [0,1] h1 ⟨?_⟩;have hc':s'.code≠0:=by rw [h2];exact hc
 refine gC [0,3] (pX hP hl s' hc' [59]) ⟨gC [0,3] (kD hP hl s' hc' h4 ⟨x.kind,x.n,x.text,[],[a]⟩ (nd:= .nil) (kd:=bJ [a]) (.inr ⟨rfl,rfl⟩) (.inl rfl)) ⟨?_⟩⟩;refine ah.aD (os':=[some (PI.enc _ s' 2),none,some (aB (PI.nodes s'))]) [0,1,4] trivial rfl rfl ⟨rfl,rfl,trivial⟩ ?_;(conv=>whnf);exact ⟨_,s',rfl,rfl,h2,h3,h4⟩
end
end
def dS {α:Type} (A:α->Prop) (x:Option (Except (Int×Int) α)):Prop:=match x with
 | none=>True
 | some (.error e)=>e.1≠0
 | some (.ok a)=>A a
theorem dS.bnd {A:α->Prop} {B:β->Prop} {x:Option (Except (Int×Int) α)} {f:α->Option (Except (Int×Int) β)} (h:dS A x) (hf:∀ a,A a->dS B (f a)):dS B (Loc.bnd x f):=by
 match x,h with
 | none,h=>trivial
 | some (.error e),h=>exact h
 | some (.ok a),h=>exact hf a h
theorem cM {x:Option (Except (Int×Int) α)} {f:α->Option (Except (Int×Int) β)} {r:Except (Int×Int) β} (h:Loc.bnd x f=some r):(∃ e,x=some (.error e)/\r= .error e)\/∃ a,x=some (.ok a)/\f a=some r:=by
 match x,h with
 | some (.error e),h=>cases h;exact .inl ⟨e,rfl,rfl⟩
 | some (.ok a),h=>exact .inr ⟨a,rfl,h⟩
def RA (l:List Tok) (a:Int×Nat×List Nd):Prop:=a.2.1<=l.length/\a.2.2.length<=200
theorem bg {k:Int} (h:isS l p k t=true):p < l.length:=by
 unfold isS at h;cases hx:l[p]? with
 | none=>rw [hx] at h;cases h
 | some x=>exact (af.1 hx).1
theorem eZ (h:dc l p≠0):p < l.length:=by
 unfold dc at h;cases hx:l[p]? with
 | none=>rw [hx] at h;exact absurd rfl h
 | some x=>exact (af.1 hx).1
theorem dS.mono {A B:α->Prop} {x:Option (Except (Int×Int) α)} (h:dS A x) (hab:∀ a,A a->B a):dS B x:=by
 match x,h with
 | none,h=>trivial
 | some (.error e),h=>exact h
 | some (.ok a),h=>exact hab a h
def RB (l:List Tok) (k:Nat) (a:Int×Nat×List Nd):Prop:=k<=a.2.1/\RA l a
theorem dS.up {k':Nat} {x:Option cV} (h:dS (RB l k) x) (hk:k'<=k):dS (RB l k') x:=h.mono fun a ha=>⟨bG hk ha.1,ha.2⟩
theorem dO (x:Nd) (h1:p<=l.length) (h2:ns.length<=200):dS (RB l p) (cv l p ns x):=by
 unfold cv;split
 ·show (6:Int)≠0;decide
 ·refine ⟨al _,h1,?_⟩;simp;omega
theorem oU (x:Nd) (h1:p<=l.length) (h2:ns.length<=200):dS (RA l) (cv l p ns x):=(dO x h1 h2).mono fun _ h=>h.2
theorem bV (l:List Tok) (p:Nat) (t:List UInt8):dS (fun q=>q=p+1/\q<=l.length) (a8 l p t):=by
 unfold a8;split
 ·rename_i h;exact ⟨rfl,bg h⟩
 ·show (3:Int)≠0;decide
theorem eQ (l:List Tok) (p:Nat) {k:Int} (hk:k≠0):dS (fun q=>q.2=p+1/\q.2<=l.length) (cU l p k):=by
 unfold cU;split
 ·rename_i h;exact ⟨rfl,eZ (by rw [h];exact hk)⟩
 ·show (3:Int)≠0;decide
def dK (l:List Tok):jg->Prop
 | .expr d p ns=>p<=l.length/\ns.length<=200/\d<=20
 | .op d k p ns=>p<=l.length/\ns.length<=200/\d<=20/\k<=5
 | .opL d k a p ns=>p<=l.length/\ns.length<=200/\d<=20/\k < 5
 | .un d p ns=>p<=l.length/\ns.length<=200/\d<=20
 | .jJ d p ns=>p<=l.length/\ns.length<=200/\d<=20
 | .args d name first kids p ns=>p<=l.length/\ns.length<=200/\d<=20/\kids.length<=p
 | .block d p ns=>p<=l.length/\ns.length<=200/\d<=20
 | .stmts d kids p ns=>p<=l.length/\ns.length<=200/\d<=20/\kids.length<=p
 | .stmt d p ns=>p<=l.length/\ns.length<=200/\d<=20
 | .cd name names p ns=>p<=l.length/\ns.length<=200/\names.length<=p
 | .top kids p ns=>p<=l.length/\ns.length<=200/\kids.length<=p
def lo:jg->Nat
 | .expr d p ns=>p+1
 | .op d k p ns=>p+1
 | .opL d k a p ns=>p
 | .un d p ns=>p+1
 | .jJ d p ns=>p+1
 | .args d name first kids p ns=>p+1
 | .block d p ns=>p+1
 | .stmts d kids p ns=>p+1
 | .stmt d p ns=>p+1
 | .cd name names p ns=>p+1
 | .top kids p ns=>p
theorem jN (l:List Tok):∀ (n:Nat) (c:jg),dK l c->dS (RB l (lo c)) (mm l n c)
 | 0,c,_=>trivial
 | n+1,c,hc=>by
  have ih:=jN l n;have hend:∀ (d:Nat) (kind:Int) (name:List UInt8) (p:Nat) (ns:List Nd),p<=l.length->ns.length<=200->d<=20->dS (RB l (p+1)) (bnd (mm l n (.expr d p ns)) fun (a,p,ns)=>bnd (a8 l p [59]) fun p=>cv l p ns ⟨kind,0,name,[],[a]⟩):=fun d kind name p ns h1 h2 h3 =>
   dS.bnd (ih (.expr d p ns) ⟨h1,h2,h3⟩) fun ⟨a,ap,an⟩ ha=>(bV l ap [59]).bnd fun q hq=>(dO _ hq.2 ha.2.2).up (by have:=ha.1;have:=hq.1;dsimp only [lo] at *;omega)
  have hbr:∀ (d p:Nat) (ns:List Nd),ns.length<=200->d<=20->dS (RB l (p+1)) (bnd (a8 l p [40]) fun p=>bnd (mm l n (.expr d p ns)) fun (a,p,ns)=>bnd (a8 l p [41]) fun p=>some (.ok (a,p,ns))):=fun d p ns h2 h3 =>
   (bV l p [40]).bnd fun q hq=>dS.bnd (ih (.expr d q ns) ⟨hq.2,h2,h3⟩) fun ⟨a,ap,an⟩ ha=>(bV l ap [41]).bnd fun q' hq'=>⟨by have:=ha.1;have:=hq.1;have:=hq'.1;dsimp only [lo] at *;omega,hq'.2,ha.2.2⟩
  have err:∀ (k:Nat) (c pl:Int),c≠0->dS (RB l k) (some (.error (c,pl))):=fun k c pl h=>h
  cases c with
  | expr d p ns =>
   obtain ⟨h1,h2,h3⟩:=hc;simp only [mm];split
   ·exact err _ _ _ (by decide)
   ·exact ih _ ⟨h1,h2,by omega,by omega⟩
  | op d k p ns =>
   obtain ⟨h1,h2,h3,h4⟩:=hc;simp only [mm];split
   ·exact ih _ ⟨h1,h2,h3⟩
   ·exact dS.bnd (ih _ ⟨h1,h2,h3,by omega⟩) fun ⟨a,ap,an⟩ ha=>dS.up (ih _ ⟨ha.2.1,ha.2.2,h3,by omega⟩) ha.1
  | opL d k a p ns =>
   obtain ⟨h1,h2,h3,h4⟩:=hc;simp only [mm];split
   ·rename_i h;have hlt:=eZ (l:=l) (p:=p) (by rw [h.1];decide);exact dS.bnd (ih _ ⟨hlt,h2,h3,by omega⟩) fun ⟨a,ap,an⟩ ha=>(dO _ ha.2.1 ha.2.2).bnd fun ⟨b,bp,bn⟩ hb=>dS.up (ih _ ⟨hb.2.1,hb.2.2,h3,h4⟩) (by have:=ha.1;have:=hb.1;dsimp only [lo] at *;omega)
   ·exact ⟨al _,h1,h2⟩
  | un d p ns =>
   obtain ⟨h1,h2,h3⟩:=hc;simp only [mm];split
   ·rename_i h;have hlt:p < l.length:=h.elim bg bg;split
    ·exact err _ _ _ (by decide)
    ·exact dS.bnd (ih _ ⟨hlt,h2,by omega⟩) fun ⟨a,ap,an⟩ ha=>(dO _ ha.2.1 ha.2.2).up (by have:=ha.1;dsimp only [lo] at *;omega)
   ·exact ih _ ⟨h1,h2,h3⟩
  | jJ d p ns =>
   obtain ⟨h1,h2,h3⟩:=hc;simp only [mm];split
   ·rename_i h;exact dO _ (eZ (by rw [h];decide)) h2
   split
   ·rename_i h;exact dO _ (eZ (by rw [h];decide)) h2
   split
   ·rename_i h;split
    ·rename_i h';exact dS.up (ih _ ⟨bg h',h2,h3,by simp⟩) (by simp only [lo];omega)
    ·exact dO _ (eZ (by rw [h];decide)) h2
   split
   ·rename_i h;exact dO _ (bg h) h2
   split
   ·rename_i h;exact dO _ (bg h) h2
   split
   ·rename_i h;exact dO _ (bg h) h2
   split
   ·rename_i h;exact dS.bnd (ih _ ⟨bg h,h2,h3⟩) fun ⟨a,ap,an⟩ ha=>(bV l ap [41]).bnd fun q hq=>⟨by have:=ha.1;have:=hq.1;dsimp only [lo] at *;omega,hq.2,ha.2.2⟩
   ·exact err _ _ _ (by decide)
  | args d name first kids p ns =>
   obtain ⟨h1,h2,h3,h4⟩:=hc;simp only [mm];split
   ·rename_i h;exact dO _ (bg h) h2
   ·refine dS.bnd (A:=fun q=>p<=q/\q<=l.length) ?_ fun q hq=>dS.bnd (ih _ ⟨hq.2,h2,h3⟩) fun ⟨a,ap,an⟩ ha=>dS.up (ih _ ⟨ha.2.1,ha.2.2,h3,by have:=ha.1;have:=hq.1;dsimp only [lo] at *;simp;omega⟩) (by have:=ha.1;have:=hq.1;dsimp only [lo] at *;omega)
    split
    ·exact ⟨al _,h1⟩
    ·exact (bV l p _).mono fun q hq=>⟨by omega,hq.2⟩
  | block d p ns =>
   obtain ⟨h1,h2,h3⟩:=hc;simp only [mm];exact (bV l p _).bnd fun q hq=>dS.up (ih _ ⟨hq.2,h2,h3,by simp⟩) (by have:=hq.1;simp only [lo];omega)
  | stmts d kids p ns =>
   obtain ⟨h1,h2,h3,h4⟩:=hc;simp only [mm];split
   ·rename_i h;exact dO _ (bg h) h2
   ·exact dS.bnd (ih _ ⟨h1,h2,h3⟩) fun ⟨a,ap,an⟩ ha=>dS.up (ih _ ⟨ha.2.1,ha.2.2,h3,by have:=ha.1;dsimp only [lo] at *;simp;omega⟩) (by have:=ha.1;dsimp only [lo] at *;omega)
  | stmt d p ns =>
   obtain ⟨h1,h2,h3⟩:=hc;show dS (RB l (p+1)) (if d=20 then _ else _);split
   ·exact err _ _ _ (by decide)
   have h3':d+1<=20:=by omega
   split
   ·exact (eQ l _ (by decide)).bnd fun ⟨a,ap⟩ ha=>(bV l _ _).bnd fun q hq=>(hend _ _ _ _ _ hq.2 h2 h3').up (by have:=ha.1;have:=hq.1;dsimp only at *;omega)
   split
   ·rename_i h;exact (hend _ _ _ _ _ (bg h) h2 h3').up (by omega)
   split
   ·rename_i h;exact (hend _ _ _ _ _ (bg h) h2 h3').up (by omega)
   split
   ·exact (hbr _ _ _ h2 h3').bnd fun ⟨a,ap,an⟩ ha=>dS.bnd (ih _ ⟨ha.2.1,ha.2.2,h3'⟩) fun ⟨b,bp,bn⟩ hb=>(dO _ hb.2.1 hb.2.2).up (by have:=ha.1;have:=hb.1;dsimp only [lo] at *;omega)
   split
   ·refine (hbr _ _ _ h2 h3').bnd fun ⟨a,ap,an⟩ ha=>dS.bnd (ih _ ⟨ha.2.1,ha.2.2,h3'⟩) fun ⟨b,bp,bn⟩ hb=>?_
    dsimp only;split
    ·rename_i h;exact dS.bnd (ih _ ⟨bg h,hb.2.2,h3'⟩) fun ⟨c,cp,cn⟩ hc=>(dO _ hc.2.1 hc.2.2).up (by have:=ha.1;have:=hb.1;have:=hc.1;dsimp only [lo] at *;omega)
    ·exact (dO _ hb.2.1 hb.2.2).up (by have:=ha.1;have:=hb.1;dsimp only [lo] at *;omega)
   split
   ·rename_i h;refine dS.bnd (ih _ ⟨bg h,h2,h3'⟩) fun ⟨a,ap,an⟩ ha=>dS.bnd (A:=fun q=>ap<=q/\q<=l.length) ?_ fun q hq=>(bV l _ _).bnd fun q2 hq2=>(eQ l _ (by decide)).bnd fun ⟨t,tp⟩ ht=>(bV l _ _).bnd fun q3 hq3=>dS.bnd (ih _ ⟨hq3.2,ha.2.2,h3'⟩) fun ⟨b,bp,bn⟩ hb=>(dO _ hb.2.1 hb.2.2).up (by have:=ha.1;have:=hq.1;have:=hq2.1;have:=ht.1;have:=hq3.1;have:=hb.1;dsimp only [lo] at *;omega)
    split
    ·rename_i h;exact ⟨by omega,bg h⟩
    ·show (3:Int)≠0;decide
   split
   ·exact ih _ ⟨h1,h2,h3'⟩
   split
   ·rename_i h;exact (hend _ _ _ _ _ (bg h.2) h2 h3').up (by omega)
   ·exact hend _ _ _ _ _ h1 h2 h3'
  | cd name names p ns =>
   obtain ⟨h1,h2,h4⟩:=hc;simp only [mm];split
   ·rename_i h;exact dS.bnd (ih _ ⟨bg h,h2,by omega⟩) fun ⟨a,ap,an⟩ ha=>(dO _ ha.2.1 ha.2.2).up (by have:=ha.1;dsimp only [lo] at *;omega)
   ·refine dS.bnd (A:=fun q=>p<=q/\q<=l.length) ?_ fun q hq=>(eQ l _ (by decide)).bnd fun ⟨t,tp⟩ ht=>dS.up (ih _ ⟨ht.2,h2,by have:=ht.1;have:=hq.1;simp;omega⟩) (by have:=ht.1;have:=hq.1;simp only [lo];omega)
    split
    ·exact ⟨al _,h1⟩
    ·exact (bV l p _).mono fun q hq=>⟨by omega,hq.2⟩
  | top kids p ns =>
   obtain ⟨h1,h2,h4⟩:=hc;simp only [mm];split
   ·split
    ·exact (eQ l _ (by decide)).bnd fun ⟨t,tp⟩ ht=>(bV l _ _).bnd fun q hq=>dS.bnd (ih _ ⟨hq.2,h2,by simp⟩) fun ⟨a,ap,an⟩ ha=>dS.up (ih _ ⟨ha.2.1,ha.2.2,by have:=ha.1;have:=ht.1;have:=hq.1;dsimp only [lo] at *;simp;omega⟩) (by have:=ha.1;have:=ht.1;have:=hq.1;dsimp only [lo] at *;omega)
    ·exact dS.bnd (ih _ ⟨h1,h2,by omega⟩) fun ⟨a,ap,an⟩ ha=>dS.up (ih _ ⟨ha.2.1,ha.2.2,by have:=ha.1;dsimp only [lo] at *;simp;omega⟩) (by have:=ha.1;dsimp only [lo] at *;omega)
   ·exact dO _ h1 h2
theorem dN (l:List Tok) (n:Nat) (c:jg) (hc:dK l c):dS (RA l) (mm l n c):=(jN l n c hc).mono fun _ h=>h.2
def s0 (p d:Nat) (ns:List Nd):PI:=⟨p,(d:Int),ns,0,0⟩
section
variable {C:Ctx} (hP:C.P=Tryz.prog)
include hP
section
variable {l:List Tok} (hl:dr l) (p d:Nat) (ns:List Nd)
omit hP in
theorem kZ (k:Int) (t:List UInt8):jZ l (s0 p d ns) k t=isS l p k t:=by simp [jZ,isS,s0];rfl
include hl
theorem vu (h:isS l p 5 t=true):Fn C 196 [.ptr 0 0 0,.d (.str t)] [(s0 p d ns).enc l 1,aB ns] (.d (.bool true)) [some ((s0 (p+1) d ns).enc l 1),some (aB ns)]:=by
 have:=C7 hP hl (s0 p d ns) t
 rwa [kZ,h] at this
theorem n196 (h:isS l p 5 t=false):Fn C 196 [.ptr 0 0 0,.d (.str t)] [(s0 p d ns).enc l 1,aB ns] (.d (.bool false)) [some ((s0 p d ns).enc l 1),some (aB ns)]:=by
 have:=C7 hP hl (s0 p d ns) t
 rwa [kZ,h] at this
theorem pT (h:isS l p 2 t=true):Fn C 138 [.ptr 0 0 0,.d (.str t)] [(s0 p d ns).enc l 1,aB ns] (.d (.bool true)) [some ((s0 (p+1) d ns).enc l 1),some (aB ns)]:=by
 have:=ED hP hl (s0 p d ns) t
 rwa [kZ,h] at this
theorem n138 (h:isS l p 2 t=false):Fn C 138 [.ptr 0 0 0,.d (.str t)] [(s0 p d ns).enc l 1,aB ns] (.d (.bool false)) [some ((s0 p d ns).enc l 1),some (aB ns)]:=by
 have:=ED hP hl (s0 p d ns) t
 rwa [kZ,h] at this
theorem G9 (k:Int) (t:List UInt8):Fn C 203 [.ptr 0 0 0,.d (.int .i64 k),.d (.str t)] [(s0 p d ns).enc l 1,aB ns] (.d (.bool (isS l p k t))) [some ((s0 p d ns).enc l 1),some (aB ns)]:=by
 have:=En hP l (s0 p d ns) k t
 rwa [kZ] at this
theorem pS (h:isS l p 5 t=true):Fn C 195 [.ptr 0 0 0,.d (strs [t])] [(s0 p d ns).enc l 1,aB ns] (.tup []) [some ((s0 (p+1) d ns).enc l 1),some (aB ns)]:=by
 have:=Ep hP hl (s0 p d ns) (fun _=>rfl) t
 rwa [PI.tF,kZ,aj h] at this
def sF (l:List Tok) (p d:Nat) (ns:List Nd) (c:Int):PI:=⟨p,(d:Int),ns,c,cY l p⟩
theorem n195 (h:isS l p 5 t=false):Fn C 195 [.ptr 0 0 0,.d (strs [t])] [(s0 p d ns).enc l 1,aB ns] (.tup []) [some ((sF l p d ns 3).enc l 1),some (aB ns)]:=by
 have:=Ep hP hl (s0 p d ns) (fun _=>rfl) t
 rwa [PI.tF,kZ,ab (by rw [h];decide)] at this
theorem FC (c:Int):Fn C 205 [.ptr 0 0 0,.d (.int .i64 c)] [(s0 p d ns).enc l 1,aB ns] (.tup []) [some ((sF l p d ns c).enc l 1),some (aB ns)]:=zH hP hl (s0 p d ns) (fun _=>rfl) c
theorem D6 (hp:p<=l.length):Fn C 204 [.ptr 0 0 0] [(s0 p d ns).enc l 1,aB ns] (.d (.int .i64 (dc l p))) [some ((s0 p d ns).enc l 1),some (aB ns)]:=Em hP (s0 p d ns) (fun _=>hp)
theorem vv (hp:p<=l.length) {k:Int} (hk:k≠0) (h:dc l p=k):Fn C 194 [.ptr 0 0 0,.d (.int .i64 k)] [(s0 p d ns).enc l 1,aB ns] (.d (.str (cF l p))) [some ((s0 (p+1) d ns).enc l 1),some (aB ns)]:=by
 have:=Er hP hl (s0 p d ns) (fun _=>rfl) (fun _=>hp) k hk;have e:gJ l (s0 p d ns)=k:=h
 rwa [oD,aj e,PI.text,aj e] at this
theorem n194 (hp:p<=l.length) {k:Int} (hk:k≠0) (h:dc l p≠k):Fn C 194 [.ptr 0 0 0,.d (.int .i64 k)] [(s0 p d ns).enc l 1,aB ns] (.d (.str [])) [some ((sF l p d ns 3).enc l 1),some (aB ns)]:=by
 have:=Er hP hl (s0 p d ns) (fun _=>rfl) (fun _=>hp) k hk;have e:¬ gJ l (s0 p d ns)=k:=h
 rwa [oD,ab e,PI.text,ab e] at this
theorem lI (hn:ns.length<=200) {x:Nd} {r:cV} (hr:cv l p ns x=some r) (hnd:lsD (strs x.names) nd) (hkd:lsD (bJ x.kids) kd) :
  ∃ (y:Int) (s:PI),Fn C 141 [.ptr 0 0 0,ndV x nd kd] [(s0 p d ns).enc l 1,aB ns] (.d (.int .i64 y)) [some (s.enc l 2),none,some (aB s.nodes)]/\IS d r y s:=by
 have:=F5 hP hl (s0 p d ns) (fun _=>rfl) x hn hnd hkd;refine ⟨_,_,this,?_⟩;unfold cv at hr;unfold PI.node PI.rf;by_cases h:ns.length=200
 ·rw [aj h] at hr;cases hr;simp only [s0,h,bo];exact ⟨rfl,rfl,by show ns.length<=200;omega⟩
 ·rw [ab h] at hr;cases hr;simp only [s0,h,bo,aV];exact ⟨rfl,rfl⟩
theorem D7 (hd:d < 20):Fn C 198 [.ptr 0 0 0] [(s0 p d ns).enc l 1,aB ns] (.fn 238 [(2,0,0)]) [some ((s0 p (d+1) ns).enc l 1),some (aB ns),some (.st [.ptr 0 0 0])]:=by
 have:=Eo hP hl (s0 p d ns) (fun _=>rfl);have e:(s0 p d ns).deep l=s0 p (d+1) ns:=by
  unfold PI.deep s0;rw [ab (by show ¬ (d:Int)=20;omega)];dsimp only;rw [aC (by omega)]
 rwa [e] at this
theorem f198:Fn C 198 [.ptr 0 0 0] [(s0 p 20 ns).enc l 1,aB ns] (.fn 238 [(2,0,0)]) [some ((sF l p 21 ns 9).enc l 1),some (aB ns),some (.st [.ptr 0 0 0])]:=by
 have:=Eo hP hl (s0 p 20 ns) (fun _=>rfl);have e:(s0 p 20 ns).deep l=sF l p 21 ns 9:=by
  rfl
 rwa [e] at this
end
def IC (C:Ctx) (l:List Tok) (c:jg) (r:cV):Prop:=match c with
 | .expr d p ns=>FnE C 239 [.ptr 0 0 0] [(s0 p d ns).enc l 1,aB ns] (IQ l d r)
 | .op d k p ns=>FnE C 260 [.ptr 0 0 0,.d (.int .i64 k)] [(s0 p d ns).enc l 1,aB ns] (IQ l d r)
 | .opL d k a p ns=>b4 C 2 [(4,none)] (IQ l d r) (Cfg.eF ye.l 0 [(0,.ptr 0 0 0),(1,.d (.int .i64 k)),(4,.d (.int .i64 0)),(5,.ptr 2 0 0),(6,.d (.int .i64 a))] [(0,(s0 p d ns).enc l 3),(2,.st [.d (.int .i64 (ju k)),.d (strs (nh k))]),(3,aB ns)] 4)
 | .un d p ns=>FnE C 278 [.ptr 0 0 0] [(s0 p d ns).enc l 1,aB ns] (IQ l d r)
 | .jJ d p ns=>FnE C 286 [.ptr 0 0 0] [(s0 p d ns).enc l 1,aB ns] (IQ l d r)
 | .args d name first kids p ns=>b4 C 2 [(4,none)] (IQ l d r) (Cfg.eF yd.l 0 [(0,.ptr 0 0 0),(4,.d (.int .i64 0)),(5,.ptr 2 0 0),(6,if first=true then .tt else .ff)] [(0,(s0 p d ns).enc l 3),(2,.st [.d (.int .i64 10),.d (.int .i64 0),.d (.str name),.d .nil,.arr 4 0 kids.length]),(3,aB ns),(4,.da 1 (kids.map fun k=>[.int .i64 k]))] 5)
 | .block d p ns=>FnE C 197 [.ptr 0 0 0] [(s0 p d ns).enc l 1,aB ns] (IQ l d r)
 | .stmts d kids p ns=>b4 C 2 [(2,none)] (IQ l d r) (Cfg.eF Aj.l 0 [(0,.ptr 0 0 0),(2,.d (.int .i64 0)),(3,.ptr 2 0 0)] [(0,(s0 p d ns).enc l 3),(2,.st [.d (.int .i64 18),.d (.int .i64 0),.d (.str []),.d .nil,.arr 4 0 kids.length]),(3,aB ns),(4,.da 1 (kids.map fun k=>[.int .i64 k]))] 5)
 | .stmt d p ns=>FnE C 140 [.ptr 0 0 0] [(s0 p d ns).enc l 1,aB ns] (IQ l d r)
 | .cd name names p ns=>b4 C 2 [(2,none)] (IQ l ((0:Nat):Int) r) (Cfg.eF c139.l 0 [(0,.ptr 0 0 0),(2,.d (.int .i64 0)),(3,.ptr 2 0 0),(4,if names.isEmpty=true then .tt else .ff)] [(0,(s0 p 0 ns).enc l 3),(2,.st [.d (.int .i64 20),.d (.int .i64 0),.d (.str name),.arr 4 0 names.length,.d .nil]),(3,aB ns),(4,.da 1 (names.map fun t=>[.str t]))] 5)
 | .top kids p ns=>True
section
variable {l:List Tok} (hl:dr l) {n:Nat} (ih:∀ c r,dK l c->mm l n c=some r->IC C l c r)
include hl ih
theorem i239 {r:cV} (hc:dK l (.expr d p ns)) (h:mm l (n+1) (.expr d p ns)=some r):IC C l (.expr d p ns) r:=by
 obtain ⟨h1,h2,h3⟩:=hc;simp only [mm] at h;refine eD hP GC ?_;by_cases hd:d=20
 ·rw [aj hd] at h;cases h;subst hd;refine gG ⟨gC [0,1] (f198 hP hl p ns) ⟨?_⟩⟩;refine ah.laid (fd:=238) (caps:=[(2,0,0)]) rfl rfl ?_;refine gG ⟨?_⟩;obtain ⟨v,os',h4,x,s',rfl,rfl,h5,h6,h7⟩:=ES hP hl 5 0 rfl (sF l p 21 ns 9) (by show (9:Int)≠0;decide) h2;refine gC [0,1] h4 ⟨?_⟩;refine ah.fo (os':=[some (PI.enc _ (PI.shut s') 2),none,some (aB (PI.nodes s'))]) [2,0,3] [0,1,3] trivial (hU hP l s') rfl rfl rfl rfl rfl ⟨rfl,rfl,trivial⟩ ?_;(conv=>whnf);exact ⟨_,s'.shut,rfl,rfl,h5,h6,h7⟩
 ·rw [ab hd] at h;refine gG ⟨gC [0,1] (D7 hP hl p d ns (by omega)) ⟨?_⟩⟩;refine ah.laid (fd:=238) (caps:=[(2,0,0)]) rfl rfl ?_;refine gG ⟨?_⟩;obtain ⟨v,os',h4,x,s',rfl,rfl,h5⟩:=ih (.op (d+1) 0 p ns) r ⟨h1,h2,by omega,by omega⟩ h;refine gC [0,1] h4 ⟨?_⟩;refine ah.fo (os':=[some (PI.enc _ (PI.shut s') 2),none,some (aB (PI.nodes s'))]) [2,0,3] [0,1,3] trivial (hU hP l s') rfl rfl rfl rfl rfl ⟨rfl,rfl,trivial⟩ ?_;(conv=>whnf);refine ⟨_,s'.shut,rfl,rfl,?_⟩;cases r with
  | ok a =>
   obtain ⟨y,q,ns'⟩:=a;obtain ⟨rfl,rfl⟩:=h5;refine ⟨rfl,?_⟩;unfold PI.shut;dsimp only;rw [show (((d+1:Nat):Int) - 1)=(d:Int) by omega,wrap_i64 (by omega)]
  | error e=>exact h5
theorem i260 {r:cV} (hc:dK l (.op d k p ns)) (h:mm l (n+1) (.op d k p ns)=some r):IC C l (.op d k p ns) r:=by
 obtain ⟨h1,h2,h3,h4⟩:=hc;simp only [mm] at h;refine eE hP ye ⟨gO (Bj hP) ⟨?_⟩⟩;by_cases hk:k=5
 ·rw [aj hk] at h;refine gY ⟨?_⟩ (aR (show (k:Int)=5 by omega));obtain ⟨v,os',h4,x,s',rfl,rfl,h5⟩:=ih (.un d p ns) r ⟨h1,h2,h3⟩ h;refine gC [0,1] h4 ⟨?_⟩;refine ah.aD (os':=[some (PI.enc _ s' 2),none,some (aB (PI.nodes s'))]) [0,1,2] trivial rfl rfl ⟨rfl,rfl,trivial⟩ ?_;(conv=>whnf);exact ⟨_,s',rfl,rfl,h5⟩
 ·rw [ab hk] at h;refine gX ⟨gO (Bj hP) ⟨gD (yL (by omega)) ⟨?_⟩⟩⟩ (aI (show ¬ (k:Int)=5 by omega));rw [aC (by omega)];rcases cM h with ⟨e,he,rfl⟩ | ⟨⟨a,q,ns'⟩,ha,h⟩
  ·obtain ⟨v,os',h4,x,s',rfl,rfl,h5,h6,h7⟩:=ih (.op d (k+1) p ns) _ ⟨h1,h2,h3,by omega⟩ he;have hc':s'.code≠0:=by
    rw [h5];have:=dN l n (.op d (k+1) p ns) ⟨h1,h2,h3,by omega⟩;rw [he] at this;exact this
   refine gC [0,1] h4 ⟨gL ⟨gC [0,3] (BO hP hl s' hc') ⟨gX ⟨gT ⟨?_⟩⟩⟩⟩⟩;refine ah.aD (os':=[some (PI.enc _ s' 2),none,some (aB (PI.nodes s'))]) [0,1,2] trivial rfl rfl ⟨rfl,rfl,trivial⟩ ?_;(conv=>whnf);exact ⟨_,s',rfl,rfl,h5,h6,h7⟩
  ·have hf:=dN l n (.op d (k+1) p ns) ⟨h1,h2,h3,by omega⟩;rw [ha] at hf;obtain ⟨v,os',h4,x,s',rfl,rfl,rfl,rfl⟩:=ih (.op d (k+1) p ns) _ ⟨h1,h2,h3,by omega⟩ ha;refine gC [0,1] h4 ⟨?_⟩;exact ih (.opL d k x q ns') r ⟨hf.1,hf.2,h3,by omega⟩ h
theorem Gg {a:Int} {r:cV} (hc:dK l (.opL d k a p ns)) (h:mm l (n+1) (.opL d k a p ns)=some r):IC C l (.opL d k a p ns) r:=by
 obtain ⟨h1,h2,h3,h4⟩:=hc;simp only [mm] at h;refine gL ⟨gC [0,3] (D6 hP hl p d ns h1) ⟨?_⟩⟩;have hend:r= .ok (a,p,ns)->b4 C 2 [(4,none)] (IQ l d r) (Cfg.dy ye.l 1 [(6,.d (.int .i64 a))] [(0,(s0 p d ns).enc l 2),(2,aB ns)] 3):=by
  intro hr;refine gT ⟨?_⟩;refine ah.aD (os':=[some (PI.enc _ (s0 p d ns) 2),none,some (aB (PI.nodes (s0 p d ns)))]) [0,1,2] trivial rfl rfl ⟨rfl,rfl,trivial⟩ ?_;(conv=>whnf);exact ⟨_,s0 p d ns,rfl,rfl,by rw [hr];exact ⟨rfl,rfl⟩⟩
 refine gP (fun h5=>⟨?_⟩) fun h5=>⟨?_⟩
 ·have h5:dc l p=5:=ai h5;have hlt:=eZ (l:=l) (p:=p) (by rw [h5];decide);obtain ⟨x,hx⟩:∃ x,l[p]?=some x:=⟨_,aa hlt⟩
  have htx:cF l p=x.text:=by simp [cF,hx]
  rw [h5,htx] at h;refine gD (fH hx) ⟨?_⟩;refine ah.call [] (k49 hP (nh k) x.text (by
   have:k=0\/k=1\/k=2\/k=3\/k=4:=by omega
   rcases this with rfl | rfl | rfl | rfl | rfl<;>decide)) rfl rfl rfl ?_
  refine gG ⟨?_⟩;by_cases h6:x.text∈nh k
  ·rw [aj ⟨rfl,h6⟩] at h;refine gY ⟨?_⟩ (aR h6);have errL:∀ (y:Int) (s':PI),s'.code≠0->IS d r y s'->(∀ e,r= .error e->True)->(∃ e,r= .error e)->b4 C 2 [(4,none)] (IQ l d r) (Cfg.eF ye.l 0 [(0,.ptr 0 0 0),(1,.d (.int .i64 k)),(4,.d (.int .i64 0)),(5,.ptr 2 0 0),(6,.d (.int .i64 y))] [(0,s'.enc l 3),(2,.st [.d (.int .i64 (ju k)),.d (strs (nh k))]),(3,aB s'.nodes)] 4):=by
    intro y s' hc' hs _ hr;obtain ⟨e,rfl⟩:=hr;refine gL ⟨gC [0,3] (BO hP hl s' hc') ⟨gX ⟨gT ⟨?_⟩⟩⟩⟩;refine ah.aD (os':=[some (PI.enc _ s' 2),none,some (aB (PI.nodes s'))]) [0,1,2] trivial rfl rfl ⟨rfl,rfl,trivial⟩ ?_;(conv=>whnf);exact ⟨_,s',rfl,rfl,hs⟩
   have body:b4 C 2 [(4,none)] (IQ l d r) (Cfg.dy ye.l 0 [(0,.ptr 0 0 0),(1,.d (.int .i64 k)),(4,.d (.int .i64 0)),(5,.ptr 2 0 0),(6,.d (.int .i64 a)),(7,.ptr 3 0 0)] [(0,(s0 p d ns).enc l 4),(2,.st [.d (.int .i64 (ju k)),.d (strs (nh k))]),(3,.st [.d (.int .i64 (ju k)),.d (.int .i64 0),.d (.str (if ju k=7 then x.text else [])),.d .nil,.d .nil]),(4,aB ns)] 5):=by
    refine gT ⟨?_⟩;rw [aC (n:=(s0 p d ns).pos) (by have:=hl.len;show p < _;omega),aC (n:=k) (by omega)];rcases cM h with ⟨e,he,rfl⟩ | ⟨⟨b,q,ns'⟩,hb,h⟩
    ·obtain ⟨v,os',h7,y,s',rfl,rfl,h8⟩:=ih (.op d (k+1) (p+1) ns) _ ⟨hlt,h2,h3,by omega⟩ he;have hc':s'.code≠0:=by
      rw [h8.1];have:=dN l n (.op d (k+1) (p+1) ns) ⟨hlt,h2,h3,by omega⟩;rw [he] at this;exact this
     refine gC [0,4] h7 ⟨gC [0,5] (kD hP hl s' hc' h8.2.2 ⟨ju k,0,if ju k=7 then x.text else [],[],[a,y]⟩ (nd:= .nil) (kd:=bJ [a,y]) (.inr ⟨rfl,rfl⟩) (.inl rfl)) ⟨?_⟩⟩;exact errL 0 s' hc' h8 (fun _ _=>trivial) ⟨e,rfl⟩
    ·have hf:=dN l n (.op d (k+1) (p+1) ns) ⟨hlt,h2,h3,by omega⟩;rw [hb] at hf;obtain ⟨v,os',h7,y,s',rfl,rfl,rfl,rfl⟩:=ih (.op d (k+1) (p+1) ns) _ ⟨hlt,h2,h3,by omega⟩ hb;refine gC [0,4] h7 ⟨?_⟩;rcases cM h with ⟨e,he,rfl⟩ | ⟨⟨c,q',ns2⟩,hp,h⟩
     ·obtain ⟨z,s',h8,h9⟩:=lI hP hl q d ns' hf.2 he (nd:= .nil) (kd:=bJ [a,y]) (.inr ⟨rfl,rfl⟩) (.inl rfl);have hc':s'.code≠0:=by
       rw [h9.1];have:=oU (l:=l) (p:=q) (ns:=ns') ⟨ju k,0,if ju k=7 then x.text else [],[],[a,y]⟩ hf.1 hf.2;rw [he] at this;exact this
      refine gC [0,5] h8 ⟨?_⟩;exact errL z s' hc' h9 (fun _ _=>trivial) ⟨e,rfl⟩
     ·obtain ⟨z,s',h8,rfl,rfl⟩:=lI hP hl q d ns' hf.2 hp (nd:= .nil) (kd:=bJ [a,y]) (.inr ⟨rfl,rfl⟩) (.inl rfl);have hf2:=oU (l:=l) (p:=q) (ns:=ns') ⟨ju k,0,if ju k=7 then x.text else [],[],[a,y]⟩ hf.1 hf.2;rw [hp] at hf2;refine gC [0,5] h8 ⟨?_⟩;exact ih (.opL d k z q' ns2) r ⟨hf2.1,hf2.2,h3,h4⟩ h
   refine gP (fun h7=>⟨?_⟩) fun h7=>⟨?_⟩
   ·have h7:ju k=7:=ai h7;refine gD (fH hx) ⟨?_⟩;rw [aj h7] at body;exact body
   ·have h7:¬ ju k=7:=ao h7;rw [ab h7] at body;exact body
  ·rw [ab (fun hh=>h6 hh.2)] at h;cases h;refine gX ⟨?_⟩ (aI h6);exact hend rfl
 ·have h5:¬ dc l p=5:=ao h5;rw [ab (fun hh=>h5 hh.1)] at h;cases h;exact hend rfl
theorem i278 {r:cV} (hc:dK l (.un d p ns)) (h:mm l (n+1) (.un d p ns)=some r):IC C l (.un d p ns) r:=by
 obtain ⟨h1,h2,h3⟩:=hc;simp only [mm] at h;have body:∀ (j:Int) (sg:List UInt8),p < l.length->cF l p=sg->(isS l p 5 [33]=true\/isS l p 5 [45]=true)->b4 C 2 [(2,none)] (IQ l d r) (Cfg.dy EZ.l 0 [(0,.ptr 0 0 0),(2,.d (.int .i64 0)),(4,.d (.str sg)),(7,.d (.imm 1 [[.str [33]],[.str [45]]])),(8,.d (.int .i64 2)),(9,.d (.int .i64 j))] [(0,(s0 (p+1) d ns).enc l 1),(1,aB ns)] 2):=by
  intro j sg hlt hsg hs;rw [aj hs,hsg] at h;refine gT ⟨?_⟩;by_cases hd:d=20
  ·rw [aj hd] at h;cases h;subst hd;refine gC [0,1] (f198 hP hl (p+1) ns) ⟨?_⟩;have hb:(sF l (p+1) 21 ns 9).code≠0:=by show (9:Int)≠0;decide
   obtain ⟨v,os',h4,x,s',rfl,rfl,h5⟩:=Gt hP hl (sF l (p+1) 21 ns 9) hb h2;refine gC [0,1] h4 ⟨gC [2,0,3] (Ek hP l s') ⟨?_⟩⟩;have hc':s'.shut.code≠0:=by show s'.code≠0;rw [h5.1];exact hb
   refine gC [0,3] (kD hP hl s'.shut hc' h5.2.2 ⟨6,0,sg,[],[x]⟩ (nd:= .nil) (kd:=bJ [x]) (.inr ⟨rfl,rfl⟩) (.inl rfl)) ⟨?_⟩;refine ah.aD (os':=[some (PI.enc _ (s'.shut) 2),none,some (aB (PI.nodes (s'.shut)))]) [0,1,4] trivial rfl rfl ⟨rfl,rfl,trivial⟩ ?_;(conv=>whnf);exact ⟨_,s'.shut,rfl,rfl,h5⟩
  ·rw [ab hd] at h;refine gC [0,1] (D7 hP hl (p+1) d ns (by omega)) ⟨?_⟩;rcases cM h with ⟨e,he,rfl⟩ | ⟨⟨a,q,ns'⟩,ha,h⟩
   ·have hci:dK l (.un (d+1) (p+1) ns):=⟨hlt,h2,by omega⟩
    obtain ⟨v,os',h4,x,s',rfl,rfl,h5⟩:=ih (.un (d+1) (p+1) ns) _ hci he;have hc':s'.shut.code≠0:=by
     show s'.code≠0;rw [h5.1];have:=dN l n _ hci;rw [he] at this;exact this
    refine gC [0,1] h4 ⟨gC [2,0,3] (Ek hP l s') ⟨gC [0,3] (kD hP hl s'.shut hc' h5.2.2 ⟨6,0,sg,[],[x]⟩ (nd:= .nil) (kd:=bJ [x]) (.inr ⟨rfl,rfl⟩) (.inl rfl)) ⟨?_⟩⟩⟩;refine ah.aD (os':=[some (PI.enc _ (s'.shut) 2),none,some (aB (PI.nodes (s'.shut)))]) [0,1,4] trivial rfl rfl ⟨rfl,rfl,trivial⟩ ?_;(conv=>whnf);exact ⟨_,s'.shut,rfl,rfl,h5⟩
   ·have hci:dK l (.un (d+1) (p+1) ns):=⟨hlt,h2,by omega⟩
    obtain ⟨v,os',h4,x,s',rfl,rfl,rfl,rfl⟩:=ih (.un (d+1) (p+1) ns) _ hci ha;have hf:=dN l n _ hci;rw [ha] at hf;refine gC [0,1] h4 ⟨?_⟩;refine ah.call [2,0,3] (Ek hP l ⟨q,((d+1:Nat):Int),ns',0,0⟩) rfl rfl rfl ?_;rw [show PI.shut ⟨q,((d+1:Nat):Int),ns',0,0⟩=s0 q d ns' by
     unfold PI.shut s0;dsimp only;rw [show (((d+1:Nat):Int) - 1)=(d:Int) by omega,wrap_i64 (by omega)]]
    refine gG ⟨?_⟩;obtain ⟨z,s',h8,h9⟩:=lI hP hl q d ns' hf.2 h (nd:= .nil) (kd:=bJ [x]) (.inr ⟨rfl,rfl⟩) (.inl rfl);refine gC [0,3] h8 ⟨?_⟩;refine ah.aD (os':=[some (PI.enc _ s' 2),none,some (aB (PI.nodes s'))]) [0,1,4] trivial rfl rfl ⟨rfl,rfl,trivial⟩ ?_;(conv=>whnf);exact ⟨_,s',rfl,rfl,h9⟩
 refine eE hP EZ ⟨gL ⟨gY ⟨gD rfl ⟨?_⟩ (by decide)⟩⟩⟩;cases hs1:isS l p 5 [33] with
 | true =>
  refine gC [0,1] (vu hP hl p d ns hs1) ⟨gY ⟨?_⟩⟩;have hlt:=bg hs1;refine body _ [33] hlt ?_ (.inl hs1);unfold isS at hs1;unfold cF;rw [aa hlt] at hs1 ⊢;simp only [ag,ak] at hs1;exact hs1.2
 | false =>
  refine gC [0,1] (n196 hP hl p d ns hs1) ⟨gX ⟨gL ⟨gY ⟨?_⟩⟩⟩⟩;refine ah.exD (row:=[.str [45]]) rfl (by decide) rfl ?_;refine gG ⟨?_⟩;cases hs2:isS l p 5 [45] with
  | true =>
   refine gC [0,1] (vu hP hl p d ns hs2) ⟨gY ⟨?_⟩⟩;have hlt:=bg hs2;refine body _ [45] hlt ?_ (.inr hs2);unfold isS at hs2;unfold cF;rw [aa hlt] at hs2 ⊢;simp only [ag,ak] at hs2;exact hs2.2
  | false =>
   rw [ab (by rw [hs1,hs2];simp)] at h;refine gC [0,1] (n196 hP hl p d ns hs2) ⟨gX ⟨gL ⟨gX ⟨?_⟩⟩⟩⟩;obtain ⟨v,os',h4,x,s',rfl,rfl,h5⟩:=ih (.jJ d p ns) r ⟨h1,h2,h3⟩ h;refine gC [0,1] h4 ⟨?_⟩;refine ah.aD (os':=[some (PI.enc _ s' 2),none,some (aB (PI.nodes s'))]) [0,1,2] trivial rfl rfl ⟨rfl,rfl,trivial⟩ ?_;(conv=>whnf);exact ⟨_,s',rfl,rfl,h5⟩
omit hl ih hP in
theorem cW (ks:List Int):List.take ks.length (List.drop 0 (ks.map fun k=>[D.int .i64 k]))=ks.map fun k=>[D.int .i64 k]:=by
 rw [aq,ae (by simp)]
theorem GN {q:Nat} {r:cV} (h1:q<=l.length) (h2:ns.length<=200) (h3:d<=20)
  (h:(if isS l q 5 [40]=true then mm l n (.args d name true [] (q+1) ns) else cv l q ns ⟨5,0,name,[],[]⟩)=some r):FnE C 294 [.ptr 0 0 0,.d (.str name)] [(s0 q d ns).enc l 1,aB ns] (IQ l d r):=by
 refine eE hP yd ⟨?_⟩;cases hs:isS l q 5 [40] with
 | true =>
  rw [aj hs] at h;refine gC [0,1] (vu hP hl q d ns hs) ⟨gX ⟨?_⟩⟩;exact ih (.args d name true [] (q+1) ns) r ⟨bg hs,h2,h3,by simp⟩ h
 | false =>
  rw [ab (by rw [hs];decide)] at h;refine gC [0,1] (n196 hP hl q d ns hs) ⟨gY ⟨?_⟩⟩;obtain ⟨z,s',h8,h9⟩:=lI hP hl q d ns h2 h (nd:= .nil) (kd:= .nil) (.inr ⟨rfl,rfl⟩) (.inr ⟨rfl,rfl⟩);refine gC [0,1] h8 ⟨?_⟩;refine ah.aD (os':=[some (PI.enc _ s' 2),none,some (aB (PI.nodes s'))]) [0,1,2] trivial rfl rfl ⟨rfl,rfl,trivial⟩ ?_;(conv=>whnf);exact ⟨_,s',rfl,rfl,h9⟩
theorem i286 (S:Shelf C) {r:cV} (hc:dK l (.jJ d p ns)) (h:mm l (n+1) (.jJ d p ns)=some r):IC C l (.jJ d p ns) r:=by
 obtain ⟨h1,h2,h3⟩:=hc;simp only [mm] at h;refine eE hP GA ⟨gC [0,1] (D6 hP hl p d ns h1) ⟨?_⟩⟩;by_cases k3:dc l p=3
 ·rw [aj k3] at h;refine gY ⟨?_⟩ (aR k3);have hlt:=eZ (l:=l) (p:=p) (by rw [k3];decide);refine gC [0,1] (vv hP hl p d ns h1 (by decide) k3) ⟨?_⟩;have hnum:dD (cF l p)=true:=by
   have hx:l[p]?=some l[p]:=aa hlt;unfold cF dc at *;rw [hx] at k3 ⊢;exact hl.num _ (aZ hlt) k3
  obtain ⟨m,hm,hv⟩:=S.number (cF l p) (by have:=zB _ hnum;omega);refine gO hm ⟨?_⟩;rw [hv hnum];obtain ⟨z,s',h8,h9⟩:=lI hP hl (p+1) d ns h2 h (nd:= .nil) (kd:= .nil) (.inr ⟨rfl,rfl⟩) (.inr ⟨rfl,rfl⟩);refine gC [0,1] h8 ⟨?_⟩;refine ah.aD (os':=[some (PI.enc _ s' 2),none,some (aB (PI.nodes s'))]) [0,1,2] trivial rfl rfl ⟨rfl,rfl,trivial⟩ ?_;(conv=>whnf);exact ⟨_,s',rfl,rfl,h9⟩
 rw [ab k3] at h;refine gX ⟨?_⟩ (aI k3);by_cases k4:dc l p=4
 ·rw [aj k4] at h;refine gY ⟨gC [0,1] (vv hP hl p d ns h1 (by decide) k4) ⟨?_⟩⟩ (aR k4);obtain ⟨z,s',h8,h9⟩:=lI hP hl (p+1) d ns h2 h (nd:= .nil) (kd:= .nil) (.inr ⟨rfl,rfl⟩) (.inr ⟨rfl,rfl⟩);refine gC [0,1] h8 ⟨?_⟩;refine ah.aD (os':=[some (PI.enc _ s' 2),none,some (aB (PI.nodes s'))]) [0,1,2] trivial rfl rfl ⟨rfl,rfl,trivial⟩ ?_;(conv=>whnf);exact ⟨_,s',rfl,rfl,h9⟩
 rw [ab k4] at h;refine gX ⟨?_⟩ (aI k4);by_cases k1:dc l p=1
 ·rw [aj k1] at h;refine gY ⟨?_⟩ (aR k1);have hlt:=eZ (l:=l) (p:=p) (by rw [k1];decide);refine gC [0,1] (vv hP hl p d ns h1 (by decide) k1) ⟨?_⟩;obtain ⟨v,os',h4,x,s',rfl,rfl,h5⟩:=GN hP hl ih (q:=p+1) hlt h2 h3 h;refine gC [0,1] h4 ⟨?_⟩;refine ah.aD (os':=[some (PI.enc _ s' 2),none,some (aB (PI.nodes s'))]) [0,1,2] trivial rfl rfl ⟨rfl,rfl,trivial⟩ ?_;(conv=>whnf);exact ⟨_,s',rfl,rfl,h5⟩
 rw [ab k1] at h;refine gX ⟨?_⟩ (aI k1);cases hs1:isS l p 2 yr with
 | true =>
  rw [aj hs1] at h;refine gC [0,1] (pT hP hl p d ns hs1) ⟨gY ⟨?_⟩⟩;obtain ⟨z,s',h8,h9⟩:=lI hP hl (p+1) d ns h2 h (nd:= .nil) (kd:= .nil) (.inr ⟨rfl,rfl⟩) (.inr ⟨rfl,rfl⟩);refine gC [0,1] h8 ⟨?_⟩;refine ah.aD (os':=[some (PI.enc _ s' 2),none,some (aB (PI.nodes s'))]) [0,1,2] trivial rfl rfl ⟨rfl,rfl,trivial⟩ ?_;(conv=>whnf);exact ⟨_,s',rfl,rfl,h9⟩
 | false =>
 rw [ab (by rw [hs1];decide)] at h;refine gC [0,1] (n138 hP hl p d ns hs1) ⟨gX ⟨?_⟩⟩;cases hs2:isS l p 2 uh with
 | true =>
  rw [aj hs2] at h;refine gC [0,1] (pT hP hl p d ns hs2) ⟨gY ⟨?_⟩⟩;obtain ⟨z,s',h8,h9⟩:=lI hP hl (p+1) d ns h2 h (nd:= .nil) (kd:= .nil) (.inr ⟨rfl,rfl⟩) (.inr ⟨rfl,rfl⟩);refine gC [0,1] h8 ⟨?_⟩;refine ah.aD (os':=[some (PI.enc _ s' 2),none,some (aB (PI.nodes s'))]) [0,1,2] trivial rfl rfl ⟨rfl,rfl,trivial⟩ ?_;(conv=>whnf);exact ⟨_,s',rfl,rfl,h9⟩
 | false =>
 rw [ab (by rw [hs2];decide)] at h;refine gC [0,1] (n138 hP hl p d ns hs2) ⟨gX ⟨?_⟩⟩;cases hs3:isS l p 2 yu with
 | true =>
  rw [aj hs3] at h;refine gC [0,1] (pT hP hl p d ns hs3) ⟨gY ⟨?_⟩⟩;obtain ⟨z,s',h8,h9⟩:=lI hP hl (p+1) d ns h2 h (nd:= .nil) (kd:= .nil) (.inr ⟨rfl,rfl⟩) (.inr ⟨rfl,rfl⟩);refine gC [0,1] h8 ⟨?_⟩;refine ah.aD (os':=[some (PI.enc _ s' 2),none,some (aB (PI.nodes s'))]) [0,1,2] trivial rfl rfl ⟨rfl,rfl,trivial⟩ ?_;(conv=>whnf);exact ⟨_,s',rfl,rfl,h9⟩
 | false =>
 rw [ab (by rw [hs3];decide)] at h;refine gC [0,1] (n138 hP hl p d ns hs3) ⟨gX ⟨?_⟩⟩;cases hs4:isS l p 5 [40] with
 | true =>
  rw [aj hs4] at h;refine gC [0,1] (vu hP hl p d ns hs4) ⟨gY ⟨?_⟩⟩;have hci:dK l (.expr d (p+1) ns):=⟨bg hs4,h2,h3⟩
  rcases cM h with ⟨e,he,rfl⟩ | ⟨⟨a,q,ns'⟩,ha,h⟩
  ·obtain ⟨v,os',h4,x,s',rfl,rfl,h5⟩:=ih _ _ hci he;have hc':s'.code≠0:=by
    rw [h5.1];have:=dN l n _ hci;rw [he] at this;exact this
   refine gC [0,1] h4 ⟨gC [0,2] (pX hP hl s' hc' [41]) ⟨?_⟩⟩;refine ah.aD (os':=[some (PI.enc _ s' 2),none,some (aB (PI.nodes s'))]) [0,1,2] trivial rfl rfl ⟨rfl,rfl,trivial⟩ ?_;(conv=>whnf);exact ⟨_,s',rfl,rfl,h5⟩
  ·obtain ⟨v,os',h4,x,s',rfl,rfl,rfl,rfl⟩:=ih _ _ hci ha;have hf:=dN l n _ hci;rw [ha] at hf;refine gC [0,1] h4 ⟨?_⟩;dsimp only [a8] at h;cases hs5:isS l q 5 [41] with
   | true =>
    rw [hs5] at h;cases h;refine gC [0,2] (pS hP hl q d ns' hs5) ⟨?_⟩;refine ah.aD (os':=[some (PI.enc _ (s0 (q+1) d ns') 2),none,some (aB (PI.nodes (s0 (q+1) d ns')))]) [0,1,2] trivial rfl rfl ⟨rfl,rfl,trivial⟩ ?_;(conv=>whnf);exact ⟨_,s0 (q+1) d ns',rfl,rfl,rfl,rfl⟩
   | false =>
    rw [hs5] at h;cases h;refine gC [0,2] (n195 hP hl q d ns' hs5) ⟨?_⟩;refine ah.aD (os':=[some (PI.enc _ (sF l q d ns' 3) 2),none,some (aB (PI.nodes (sF l q d ns' 3)))]) [0,1,2] trivial rfl rfl ⟨rfl,rfl,trivial⟩ ?_;(conv=>whnf);exact ⟨_,sF l q d ns' 3,rfl,rfl,rfl,rfl,hf.2⟩
 | false =>
 rw [ab (by rw [hs4];decide)] at h;cases h;refine gC [0,1] (n196 hP hl p d ns hs4) ⟨gX ⟨gC [0,2] (FC hP hl p d ns 3) ⟨?_⟩⟩⟩;refine ah.aD (os':=[some (PI.enc _ (sF l p d ns 3) 2),none,some (aB (PI.nodes (sF l p d ns 3)))]) [0,1,2] trivial rfl rfl ⟨rfl,rfl,trivial⟩ ?_;(conv=>whnf);exact ⟨_,sF l p d ns 3,rfl,rfl,rfl,rfl,h2⟩
omit ih in
theorem DJ (s':PI) (hc':s'.code≠0) (hn:s'.nodes.length<=200) (name:List UInt8) (ks:List Int) (fv:V) (hfv:fv= .tt\/fv= .ff) (opn:Int) (r:cV) (hr:∃ e,r= .error e) (hs:IS opn r 0 s') :
  b4 C 2 [(4,none)] (IQ l opn r) (Cfg.eF yd.l 0 [(0,.ptr 0 0 0),(4,.d (.int .i64 0)),(5,.ptr 2 0 0),(6,fv)] [(0,s'.enc l 3),(2,.st [.d (.int .i64 10),.d (.int .i64 0),.d (.str name),.d .nil,.arr 4 0 ks.length]),(3,aB s'.nodes),(4,.da 1 (ks.map fun k=>[.int .i64 k]))] 5):=by
 obtain ⟨e,rfl⟩:=hr;have fin:b4 C 2 [(4,none)] (IQ l opn (.error e)) (Cfg.dy yd.l 1 [(0,.ptr 0 0 0),(5,.ptr 2 0 0)] [(0,s'.enc l 3),(2,.st [.d (.int .i64 10),.d (.int .i64 0),.d (.str name),.d .nil,.d (bJ ks)]),(3,aB s'.nodes)] 4):=by
  refine gT ⟨gC [0,3] (kD hP hl s' hc' hn ⟨10,0,name,[],ks⟩ (nd:= .nil) (kd:=bJ ks) (.inr ⟨rfl,rfl⟩) (.inl rfl)) ⟨?_⟩⟩;refine ah.aD (os':=[some (PI.enc _ s' 2),none,some (aB (PI.nodes s'))]) [0,1,4] trivial rfl rfl ⟨rfl,rfl,trivial⟩ ?_;(conv=>whnf);exact ⟨_,s',rfl,rfl,hs⟩
 rcases hfv with rfl | rfl <;>
 ·refine gL ⟨gX ⟨?_⟩ (aI hc')⟩;rw [cW];exact fin
theorem Gf {first:Bool} {r:cV} (hc:dK l (.args d name first kids p ns)) (h:mm l (n+1) (.args d name first kids p ns)=some r):IC C l (.args d name first kids p ns) r:=by
 obtain ⟨h1,h2,h3,h0⟩:=hc;have hkl:kids.length<=300:=by have:=hl.len;omega
 simp only [mm] at h;show b4 C 2 [(4,none)] (IQ l d r) (Cfg.eF yd.l 0 [(0,.ptr 0 0 0),(4,.d (.int .i64 0)),(5,.ptr 2 0 0),(6,if first=true then .tt else .ff)] [(0,(s0 p d ns).enc l 3),(2,.st [.d (.int .i64 10),.d (.int .i64 0),.d (.str name),.d .nil,.arr 4 0 kids.length]),(3,aB ns),(4,.da 1 (kids.map fun k=>[.int .i64 k]))] 5);have fin:∀ q,cv l q ns ⟨10,0,name,[],kids⟩=some r->b4 C 2 [(4,none)] (IQ l d r) (Cfg.dy yd.l 1 [(0,.ptr 0 0 0),(5,.ptr 2 0 0)] [(0,(s0 q d ns).enc l 3),(2,.st [.d (.int .i64 10),.d (.int .i64 0),.d (.str name),.d .nil,.d (bJ kids)]),(3,aB ns)] 4):=by
  intro q hp;refine gT ⟨?_⟩;obtain ⟨z,s',h8,h9⟩:=lI hP hl q d ns h2 hp (nd:= .nil) (kd:=bJ kids) (.inr ⟨rfl,rfl⟩) (.inl rfl);refine gC [0,3] h8 ⟨?_⟩;refine ah.aD (os':=[some (PI.enc _ s' 2),none,some (aB (PI.nodes s'))]) [0,1,4] trivial rfl rfl ⟨rfl,rfl,trivial⟩ ?_;(conv=>whnf);exact ⟨_,s',rfl,rfl,h9⟩
 have arg:∀ (fv:V),(fv= .tt\/fv= .ff)->∀ q,p<=q->q<=l.length->(bnd (mm l n (.expr d q ns)) fun (a,p,ns)=>mm l n (.args d name false (kids++[a]) p ns))=some r->b4 C 2 [(4,none)] (IQ l d r) (Cfg.dy yd.l 0 [(0,.ptr 0 0 0),(4,.d (.int .i64 0)),(5,.ptr 2 0 0),(6,fv)] [(0,(s0 q d ns).enc l 3),(2,.st [.d (.int .i64 10),.d (.int .i64 0),.d (.str name),.d .nil,.arr 4 0 kids.length]),(3,aB ns),(4,.da 1 (kids.map fun k=>[.int .i64 k]))] 5):=by
  intro fv hfv q hpq hq h;have hci:dK l (.expr d q ns):=⟨hq,h2,h3⟩
  have hf:=dN l n _ hci;rcases hfv with rfl | rfl <;>
  ·refine gT ⟨?_⟩;rcases cM h with ⟨e,he,rfl⟩ | ⟨⟨a,q',ns'⟩,ha,h⟩
   ·obtain ⟨v,os',h4,x,s',rfl,rfl,h5⟩:=ih _ _ hci he;rw [he] at hf;have hc':s'.code≠0:=by rw [h5.1];exact hf
    refine gC [0,3] h4 ⟨?_⟩;rw [cW];refine gN (by simp [Sh.len];omega) ⟨?_⟩;exact (DJ hP hl s' hc' h5.2.2 name (kids++[x]) .ff (.inr rfl) d _ ⟨e,rfl⟩ h5).to (by rfl) (by simp [aB,PI.enc,Sh.len])
   ·obtain ⟨v,os',h4,x,s',rfl,rfl,rfl,rfl⟩:=ih _ _ hci ha;rw [ha] at hf;have hadv:=jN l n _ hci;rw [ha] at hadv;have hadv:=hadv.1;simp only [lo] at hadv;refine gC [0,3] h4 ⟨?_⟩;rw [cW];refine gN (by simp [Sh.len];omega) ⟨?_⟩;exact ah.to (ih (.args d name false (kids++[x]) q' ns') r ⟨hf.1,hf.2,h3,by simp;omega⟩ h) (by rfl) (by simp [aB,PI.enc,Sh.len,s0])
 have hfirst:∀ (b:Bool),(if b=true then V.tt else V.ff)= .tt\/(if b=true then V.tt else V.ff)= .ff:=by intro b;cases b<;>simp
 cases hs:isS l p 5 [41] with
 | true =>
  rw [aj hs] at h;cases first <;>
  ·refine gL ⟨gY ⟨gC [0,3] (vu hP hl p d ns hs) ⟨gX ⟨?_⟩⟩⟩⟩;rw [cW];exact fin (p+1) h
 | false =>
  rw [ab (by rw [hs];decide)] at h;cases first with
  | true =>
   rcases cM h with ⟨e,he,rfl⟩ | ⟨q,hq,h⟩
   ·cases he
   cases hq;refine gL ⟨gY ⟨gC [0,3] (n196 hP hl p d ns hs) ⟨gY ⟨?_⟩⟩⟩⟩;exact arg .tt (.inl rfl) p (al _) h1 h
  | false =>
   refine gL ⟨gY ⟨gC [0,3] (n196 hP hl p d ns hs) ⟨gY ⟨?_⟩⟩⟩⟩;cases hs2:isS l p 5 [44] with
   | true =>
    refine gC [0,3] (pS hP hl p d ns hs2) ⟨?_⟩;rcases cM h with ⟨e,he,rfl⟩ | ⟨q,hq,h⟩
    ·simp [a8,hs2] at he
    simp [a8,hs2] at hq;subst hq;exact arg .ff (.inr rfl) (p+1) (by omega) (bg hs2) h
   | false =>
    refine gC [0,3] (n195 hP hl p d ns hs2) ⟨?_⟩;rcases cM h with ⟨e,he,rfl⟩ | ⟨q,hq,h⟩
    ·simp [a8,hs2] at he;subst he;refine gT ⟨?_⟩;have hb:(sF l p d ns 3).code≠0:=by show (3:Int)≠0;decide
     obtain ⟨v,os',h4,x,s',rfl,rfl,h5⟩:=ET hP hl (sF l p d ns 3) hb h2;have hc':s'.code≠0:=by rw [h5.1];exact hb
     refine gC [0,3] h4 ⟨?_⟩;rw [cW];refine gN (by simp [Sh.len];omega) ⟨?_⟩;exact (DJ hP hl s' hc' h5.2.2 name (kids++[x]) .ff (.inr rfl) d _ ⟨_,rfl⟩ h5).to (by rfl) (by simp [aB,PI.enc,Sh.len])
    ·simp [a8,hs2] at hq
omit ih in
theorem DO (s':PI) (hc':s'.code≠0) (hn:s'.nodes.length<=200) (ks:List Int) (opn:Int) (r:cV) (hr:∃ e,r= .error e) (hs:IS opn r 0 s') :
  b4 C 2 [(2,none)] (IQ l opn r) (Cfg.eF Aj.l 0 [(0,.ptr 0 0 0),(2,.d (.int .i64 0)),(3,.ptr 2 0 0)] [(0,s'.enc l 3),(2,.st [.d (.int .i64 18),.d (.int .i64 0),.d (.str []),.d .nil,.arr 4 0 ks.length]),(3,aB s'.nodes),(4,.da 1 (ks.map fun k=>[.int .i64 k]))] 5):=by
 obtain ⟨e,rfl⟩:=hr;have fin:b4 C 2 [(2,none)] (IQ l opn (.error e)) (Cfg.dy Aj.l 0 [(0,.ptr 0 0 0),(3,.ptr 2 0 0)] [(0,s'.enc l 3),(2,.st [.d (.int .i64 18),.d (.int .i64 0),.d (.str []),.d .nil,.d (bJ ks)]),(3,aB s'.nodes)] 4):=by
  refine gT ⟨gC [0,3] (kD hP hl s' hc' hn ⟨18,0,[],[],ks⟩ (nd:= .nil) (kd:=bJ ks) (.inr ⟨rfl,rfl⟩) (.inl rfl)) ⟨?_⟩⟩;refine ah.aD (os':=[some (PI.enc _ s' 2),none,some (aB (PI.nodes s'))]) [0,1,4] trivial rfl rfl ⟨rfl,rfl,trivial⟩ ?_;(conv=>whnf);exact ⟨_,s',rfl,rfl,hs⟩
 refine gL ⟨gX ⟨?_⟩ (aI hc')⟩;rw [cW];exact fin
theorem Gi {r:cV} (hc:dK l (.stmts d kids p ns)) (h:mm l (n+1) (.stmts d kids p ns)=some r):IC C l (.stmts d kids p ns) r:=by
 obtain ⟨h1,h2,h3,h0⟩:=hc;have hkl:kids.length<=300:=by have:=hl.len;omega
 simp only [mm] at h;have fin:∀ q,cv l q ns ⟨18,0,[],[],kids⟩=some r->b4 C 2 [(2,none)] (IQ l d r) (Cfg.dy Aj.l 0 [(0,.ptr 0 0 0),(3,.ptr 2 0 0)] [(0,(s0 q d ns).enc l 3),(2,.st [.d (.int .i64 18),.d (.int .i64 0),.d (.str []),.d .nil,.d (bJ kids)]),(3,aB ns)] 4):=by
  intro q hp;refine gT ⟨?_⟩;obtain ⟨z,s',h8,h9⟩:=lI hP hl q d ns h2 hp (nd:= .nil) (kd:=bJ kids) (.inr ⟨rfl,rfl⟩) (.inl rfl);refine gC [0,3] h8 ⟨?_⟩;refine ah.aD (os':=[some (PI.enc _ s' 2),none,some (aB (PI.nodes s'))]) [0,1,4] trivial rfl rfl ⟨rfl,rfl,trivial⟩ ?_;(conv=>whnf);exact ⟨_,s',rfl,rfl,h9⟩
 refine gL ⟨gY ⟨?_⟩⟩;cases hs:isS l p 5 [125] with
 | true =>
  rw [aj hs] at h;refine gC [0,3] (vu hP hl p d ns hs) ⟨gX ⟨?_⟩⟩;rw [cW];exact fin (p+1) h
 | false =>
  rw [ab (by rw [hs];decide)] at h;refine gC [0,3] (n196 hP hl p d ns hs) ⟨gY ⟨?_⟩⟩;have hci:dK l (.stmt d p ns):=⟨h1,h2,h3⟩
  have hf:=dN l n _ hci;rcases cM h with ⟨e,he,rfl⟩ | ⟨⟨a,q',ns'⟩,ha,h⟩
  ·obtain ⟨v,os',h4,x,s',rfl,rfl,h5⟩:=ih _ _ hci he;rw [he] at hf;have hc':s'.code≠0:=by rw [h5.1];exact hf
   refine gC [0,3] h4 ⟨?_⟩;rw [cW];refine gN (by simp [Sh.len];omega) ⟨?_⟩;exact (DO hP hl s' hc' h5.2.2 (kids++[x]) d _ ⟨e,rfl⟩ h5).to (by rfl) (by simp [aB,PI.enc,Sh.len])
  ·obtain ⟨v,os',h4,x,s',rfl,rfl,rfl,rfl⟩:=ih _ _ hci ha;rw [ha] at hf;have hadv:=jN l n _ hci;rw [ha] at hadv;have hadv:=hadv.1;simp only [lo] at hadv;refine gC [0,3] h4 ⟨?_⟩;rw [cW];refine gN (by simp [Sh.len];omega) ⟨?_⟩;exact ah.to (ih (.stmts d (kids++[x]) q' ns') r ⟨hf.1,hf.2,h3,by simp;omega⟩ h) (by rfl) (by simp [aB,PI.enc,Sh.len,s0])
theorem i197 {r:cV} (hc:dK l (.block d p ns)) (h:mm l (n+1) (.block d p ns)=some r):IC C l (.block d p ns) r:=by
 obtain ⟨h1,h2,h3⟩:=hc;simp only [mm] at h;refine eE hP Aj ⟨?_⟩;rcases cM h with ⟨e,he,rfl⟩ | ⟨q,hq,h⟩
 ·cases hs:isS l p 5 [123] with
  | true=>simp [a8,hs] at he
  | false =>
   simp [a8,hs] at he;subst he;refine gC [0,1] (n195 hP hl p d ns hs) ⟨?_⟩;exact DO hP hl (sF l p d ns 3) (by show (3:Int)≠0;decide) h2 [] d _ ⟨_,rfl⟩ ⟨rfl,rfl,h2⟩
 ·cases hs:isS l p 5 [123] with
  | false=>simp [a8,hs] at hq
  | true =>
   simp [a8,hs] at hq;subst hq;refine gC [0,1] (pS hP hl p d ns hs) ⟨?_⟩;exact ih (.stmts d [] (p+1) ns) r ⟨bg hs,h2,h3,by simp⟩ h
theorem Cj {r:cV} (h1:p<=l.length) (h2:ns.length<=200) (h3:d<=20)
  (h:(bnd (a8 l p [40]) fun p=>bnd (mm l n (.expr d p ns)) fun (a,p,ns)=>bnd (a8 l p [41]) fun p=>some (.ok (a,p,ns)))=some r):FnE C 200 [.ptr 0 0 0] [(s0 p d ns).enc l 1,aB ns] (IQ l d r):=by
 refine eE hP IJ ⟨?_⟩;cases hs:isS l p 5 [40] with
 | false =>
  simp [a8,hs,bnd] at h;subst h;refine gC [0,1] (n195 hP hl p d ns hs) ⟨?_⟩;have hb:(sF l p d ns 3).code≠0:=by show (3:Int)≠0;decide
  obtain ⟨v,os',h4,x,s',rfl,rfl,h5⟩:=ET hP hl (sF l p d ns 3) hb h2;have hc':s'.code≠0:=by rw [h5.1];exact hb
  refine gC [0,1] h4 ⟨gC [0,2] (pX hP hl s' hc' [41]) ⟨?_⟩⟩;refine ah.aD (os':=[some (PI.enc _ s' 2),none,some (aB (PI.nodes s'))]) [0,1,2] trivial rfl rfl ⟨rfl,rfl,trivial⟩ ?_;(conv=>whnf);exact ⟨_,s',rfl,rfl,h5⟩
 | true =>
  rw [show a8 l p [40]=some (.ok (p+1)) by simp [a8,hs]] at h;replace h:(bnd (mm l n (.expr d (p+1) ns)) fun (a,p,ns)=>bnd (a8 l p [41]) fun p=>some (.ok (a,p,ns)))=some r:=h;refine gC [0,1] (pS hP hl p d ns hs) ⟨?_⟩;have hci:dK l (.expr d (p+1) ns):=⟨bg hs,h2,h3⟩
  have hf:=dN l n _ hci;rcases cM h with ⟨e,he,rfl⟩ | ⟨⟨a,q,ns'⟩,ha,h⟩
  ·obtain ⟨v,os',h4,x,s',rfl,rfl,h5⟩:=ih _ _ hci he;rw [he] at hf;have hc':s'.code≠0:=by rw [h5.1];exact hf
   refine gC [0,1] h4 ⟨gC [0,2] (pX hP hl s' hc' [41]) ⟨?_⟩⟩;refine ah.aD (os':=[some (PI.enc _ s' 2),none,some (aB (PI.nodes s'))]) [0,1,2] trivial rfl rfl ⟨rfl,rfl,trivial⟩ ?_;(conv=>whnf);exact ⟨_,s',rfl,rfl,h5⟩
  ·obtain ⟨v,os',h4,x,s',rfl,rfl,rfl,rfl⟩:=ih _ _ hci ha;rw [ha] at hf;refine gC [0,1] h4 ⟨?_⟩;cases hs5:isS l q 5 [41] with
   | true =>
    simp [a8,hs5,bnd] at h;subst h;refine gC [0,2] (pS hP hl q d ns' hs5) ⟨?_⟩;refine ah.aD (os':=[some (PI.enc _ (s0 (q+1) d ns') 2),none,some (aB (PI.nodes (s0 (q+1) d ns')))]) [0,1,2] trivial rfl rfl ⟨rfl,rfl,trivial⟩ ?_;(conv=>whnf);exact ⟨_,s0 (q+1) d ns',rfl,rfl,rfl,rfl⟩
   | false =>
    simp [a8,hs5,bnd] at h;subst h;refine gC [0,2] (n195 hP hl q d ns' hs5) ⟨?_⟩;refine ah.aD (os':=[some (PI.enc _ (sF l q d ns' 3) 2),none,some (aB (PI.nodes (sF l q d ns' 3)))]) [0,1,2] trivial rfl rfl ⟨rfl,rfl,trivial⟩ ?_;(conv=>whnf);exact ⟨_,sF l q d ns' 3,rfl,rfl,rfl,rfl,hf.2⟩
theorem As {r:cV} {kind:Int} (h1:p<=l.length) (h2:ns.length<=200) (h3:d<=20)
  (h:(bnd (mm l n (.expr d p ns)) fun (a,p,ns)=>bnd (a8 l p [59]) fun p=>cv l p ns ⟨kind,0,name,[],[a]⟩)=some r):FnE C 199 [.ptr 0 0 0,ndV ⟨kind,0,name,[],[]⟩ .nil .nil] [(s0 p d ns).enc l 1,aB ns] (IQ l d r):=by
 refine eE hP GF ⟨?_⟩;have hci:dK l (.expr d p ns):=⟨h1,h2,h3⟩
 have hf:=dN l n _ hci;rcases cM h with ⟨e,he,rfl⟩ | ⟨⟨a,q,ns'⟩,ha,h⟩
 ·obtain ⟨v,os',h4,x,s',rfl,rfl,h5⟩:=ih _ _ hci he;rw [he] at hf;have hc':s'.code≠0:=by rw [h5.1];exact hf
  refine gC [0,1] h4 ⟨gC [0,3] (pX hP hl s' hc' [59]) ⟨gC [0,3] (kD hP hl s' hc' h5.2.2 ⟨kind,0,name,[],[x]⟩ (nd:= .nil) (kd:=bJ [x]) (.inr ⟨rfl,rfl⟩) (.inl rfl)) ⟨?_⟩⟩⟩;refine ah.aD (os':=[some (PI.enc _ s' 2),none,some (aB (PI.nodes s'))]) [0,1,4] trivial rfl rfl ⟨rfl,rfl,trivial⟩ ?_;(conv=>whnf);exact ⟨_,s',rfl,rfl,h5⟩
 ·obtain ⟨v,os',h4,x,s',rfl,rfl,rfl,rfl⟩:=ih _ _ hci ha;rw [ha] at hf;refine gC [0,1] h4 ⟨?_⟩;replace h:(bnd (a8 l q [59]) fun p=>cv l p ns' ⟨kind,0,name,[],[x]⟩)=some r:=h;cases hs5:isS l q 5 [59] with
  | true =>
   rw [show a8 l q [59]=some (.ok (q+1)) by simp [a8,hs5]] at h;refine gC [0,3] (pS hP hl q d ns' hs5) ⟨?_⟩;obtain ⟨z,s',h8,h9⟩:=lI hP hl (q+1) d ns' hf.2 h (nd:= .nil) (kd:=bJ [x]) (.inr ⟨rfl,rfl⟩) (.inl rfl);refine gC [0,3] h8 ⟨?_⟩;refine ah.aD (os':=[some (PI.enc _ s' 2),none,some (aB (PI.nodes s'))]) [0,1,4] trivial rfl rfl ⟨rfl,rfl,trivial⟩ ?_;(conv=>whnf);exact ⟨_,s',rfl,rfl,h9⟩
  | false =>
   simp [a8,hs5,bnd] at h;subst h;have hb:(sF l q d ns' 3).code≠0:=by show (3:Int)≠0;decide
   refine gC [0,3] (n195 hP hl q d ns' hs5) ⟨gC [0,3] (kD hP hl (sF l q d ns' 3) hb hf.2 ⟨kind,0,name,[],[x]⟩ (nd:= .nil) (kd:=bJ [x]) (.inr ⟨rfl,rfl⟩) (.inl rfl)) ⟨?_⟩⟩;refine ah.aD (os':=[some (PI.enc _ (sF l q d ns' 3) 2),none,some (aB (PI.nodes (sF l q d ns' 3)))]) [0,1,4] trivial rfl rfl ⟨rfl,rfl,trivial⟩ ?_;(conv=>whnf);exact ⟨_,sF l q d ns' 3,rfl,rfl,rfl,rfl,hf.2⟩
end
end
end Go.Proofs.YtggoiofammbchaaGreatDoor.Loc
