/- Part 2 of a chain that ends in the statement named in GOCLAIM.json; no condition. -/
import Derived.Test.YtggoiofammbchaaGreatDoorK1
set_option maxRecDepth 100000
set_option maxHeartbeats 2000000
set_option linter.all false
namespace Go.Proofs.YtggoiofammbchaaGreatDoor.Loc
open Go
variable {C:Ctx} {anc:List Nat} {dst:Option Nat} {e:Eff} {fr:Fr} {m n nx:Nat} {p:Prop} {rest:List Ir} {tr:Trc} {σ:Ob}
inductive It where
 | ops (l:List Ir) (tr:Trc)
 | code (c:L)
 | blk (id:Nat)
 | lpe (cA:List Nat) (body:L)
inductive Cfg where
 | st (k:List It) (fr:Fr) (σ:Ob) (nx:Nat)
 | fin (x:Ex) (fr:Fr) (σ:Ob) (nx:Nat)
 | lp (cA:List Nat) (body:L) (k:List It) (fr:Fr) (σ:Ob) (nx:Nat)
 | cut (k:List It) (fr:Fr) (σ:Ob) (nx:Nat)
 | dR (p:Prop) (c:Cfg)
 | split (b:Bool) (x y:Cfg)
 | exD (p:Prop) (rows:List (List D)) (n:Nat) (f:List D->Option Eff) (dst:Option Nat) (anc:List Nat) (rest:List Ir) (tr:Trc) (k:List It) (fr:Fr) (σ:Ob) (nx:Nat)
 | exV (p:Prop) (rows:List (List V)) (n:Nat) (f:List V->Option Eff) (dst:Option Nat) (anc:List Nat) (rest:List Ir) (tr:Trc) (k:List It) (fr:Fr) (σ:Ob) (nx:Nat)
 | exB (s:List UInt8) (i:Int) (dst:Option Nat) (anc:List Nat) (rest:List Ir) (tr:Trc) (k:List It) (fr:Fr) (σ:Ob) (nx:Nat)
 | call (f:Nat) (args:List V) (dst:Option Nat) (anc:List Nat) (rest:List Ir) (tr:Trc) (k:List It) (fr:Fr) (σ:Ob) (nx:Nat)
 | bad
def EO (v:V) (K:V->Prop):Prop :=
 match v with
 | .d x=>K (.d x)
 | .ptr i r o=>K (.ptr i r o)
 | .iM=>K .iM
 | .arr i o n=>K (.arr i o n)
 | .fn f c=>K (.fn f c)
 | .tt=>K .tt
 | .ff=>K .ff
 | .rd r o=>K (.rd r o)
 | .agg l=>K (.agg l)
 | .tup l=>K (.tup l)
 | .un=>K .un
 | .mp i=>K (.mp i)
 | .nmp=>K .nmp
 | .own dp w rows=>K (.own dp w rows)
theorem yT (v:V) (K:V->Prop):EO v K=K v:=by cases v<;>rfl
def zW:List V->(List V->Prop)->Prop
 | [],K=>K []
 | x::l,K=>EO x fun x=>zW l fun l=>K (x::l)
theorem u7:∀ (l:List V) (K:List V->Prop),zW l K=K l
 | [],K=>rfl
 | x::l,K=>by simp only [zW,yT,u7 l]
def Dn (v:V) (K:V->Prop):Prop :=
 match v with
 | .agg l=>zW l fun l=>K (.agg l)
 | v=>EO v K
theorem yS (v:V) (K:V->Prop):Dn v K=K v:=by
 cases v<;>simp only [Dn,yT,u7]
def wP:List V->(List V->Prop)->Prop
 | [],K=>K []
 | x::l,K=>Dn x fun x=>wP l fun l=>K (x::l)
theorem n7:∀ (l:List V) (K:List V->Prop),wP l K=K l
 | [],K=>rfl
 | x::l,K=>by simp only [wP,yS,n7 l]
def sJ (v:V) (K:V->Prop):Prop :=
 match v with
 | .tup l=>wP l fun l=>K (.tup l)
 | v=>Dn v K
theorem iS (v:V) (K:V->Prop):sJ v K=K v:=by
 cases v<;>simp only [sJ,yS,n7]
def EN (x:O) (K:O->Prop):Prop :=
 match x with
 | .st cs=>zW cs fun cs=>K (.st cs)
 | .da w rows=>K (.da w rows)
 | .va w rows=>K (.va w rows)
 | .mp es=>K (.mp es)
 | .oa w rows=>K (.oa w rows)
 | .rest w rows r o n k=>K (.rest w rows r o n k)
 | .rst cs o n k=>zW cs fun cs=>K (.rst cs o n k)
theorem Dq (x:O) (K:O->Prop):EN x K=K x:=by cases x<;>simp only [EN,u7]
def rK:Ob->(Ob->Prop)->Prop
 | [],K=>K []
 | (i,x)::l,K=>EN x fun x=>rK l fun l=>K ((i,x)::l)
theorem gj:∀ (l:Ob) (K:Ob->Prop),rK l K=K l
 | [],K=>rfl
 | (i,x)::l,K=>by simp only [rK,Dq,gj l]
def rJ:Fr->(Fr->Prop)->Prop
 | [],K=>K []
 | (i,x)::l,K=>sJ x fun x=>rJ l fun l=>K ((i,x)::l)
theorem gi:∀ (l:Fr) (K:Fr->Prop),rJ l K=K l
 | [],K=>rfl
 | (i,x)::l,K=>by simp only [rJ,iS,gi l]
def Dp (σ:Ob) (pt:Pt) (K:Ob->Prop):Prop :=
 match pt with
 | []=>K σ
 | p::l=>rK (patch σ (p::l)) K
theorem qo (σ:Ob) (pt:Pt) (K:Ob->Prop):Dp σ pt K=K (patch σ pt):=by
 cases pt<;>simp only [Dp,gj,patch]
def wQ (n:Nat) (K:Nat->Prop):Prop:=match n with | 0=>K 0 | n+1=>K (n+1)
theorem iz (n:Nat) (K:Nat->Prop):wQ n K=K n:=by cases n<;>rfl
def CQ (fr:Fr) (dst:Option Nat) (v:V) (K:Fr->Prop):Prop :=
 match dst with
 | some d=>K ((d,v)::fr)
 | none=>K fr
theorem my (fr:Fr) (dst:Option Nat) (v:V) (K:Fr->Prop):CQ fr dst v K=K (fq fr dst v):=by cases dst<;>rfl
def leave (x:Ex):List It->Fr->Ob->Nat->Cfg
 | [],fr,σ,nx=> .fin x fr σ nx
 | .blk id::k,fr,σ,nx=>match x with
  | .exit j=>bif Nat.beq j id then .st k fr σ nx else leave x k fr σ nx
  | _=>leave x k fr σ nx
 | _::k,fr,σ,nx=>leave x k fr σ nx
def D9 (nx n:Nat) (K:Nat->Prop):Prop:=match n with | 0=>K nx | n+1=>K (nx+(n+1))
theorem qi (nx n:Nat) (K:Nat->Prop):D9 nx n K=K (nx+n):=by cases n<;>rfl
def u9:List (Nat×O)->(List Nat->Prop)->Prop
 | [],K=>K []
 | p::l,K=>u9 l fun l=>K (p.1::l)
theorem tP:∀ (l:List (Nat×O)) (K:List Nat->Prop),u9 l K=K (pW l)
 | [],K=>rfl
 | p::l,K=>by simp only [u9,pW,tP l]
def qn (σ:Ob):Pt->(List (Nat×Prop)->Prop)->Prop
 | [],K=>K []
 | (i,x)::l,K=>qn σ l fun l=>match look σ i with
  | some y=>K ((i,some y=x)::l)
  | none=>K ((i,none=x)::l)
theorem rI (σ:Ob):∀ (l:Pt) (K:List (Nat×Prop)->Prop),qn σ l K=K (mP σ l)
 | [],K=>rfl
 | (i,x)::l,K=>by
  simp only [qn,mP,rI σ l]
  grind
def DE (tr:Trc) (anc:List Nat) (σ:Ob) (pt:Pt) (rd:List (Nat×O)) (K:Trc->Prop):Prop :=
 match tr with
 | .off=>K .off
 | .bad=>K .bad
 | .on l=>match rd,pt with
  | [],[]=>K (.on l)
  | rd,pt=>match anc with
   | i::as=>u9 rd fun rd=>qn σ pt fun pt=>K (.on (⟨i,as,rd,pt⟩::l))
   | []=>K .bad
theorem qu (tr:Trc) (anc:List Nat) (σ:Ob) (pt:Pt) (rd:List (Nat×O)) (K:Trc->Prop):DE tr anc σ pt rd K=K (jf tr anc σ pt rd):=by
 cases tr with
 | off=>rfl
 | bad=>rfl
 | on l=>cases rd<;>cases pt<;>cases anc<;>simp only [DE,jf,tP,rI]
def pL:List Nat->(List Nat->Prop)->Prop
 | [],K=>K []
 | x::l,K=>wQ x fun x=>pL l fun l=>K (x::l)
theorem l7:∀ (l:List Nat) (K:List Nat->Prop),pL l K=K l
 | [],K=>rfl
 | x::l,K=>by simp only [pL,iz,l7 l]
def mX (σ:Ob):Nat->List Nat->List Nat->(List Nat->Prop)->Prop
 | 0,_,acc,K=>K acc
 | _+1,[],acc,K=>K acc
 | n+1,i::todo,acc,K=>match kh i acc with
  | true=>mX σ n todo acc K
  | false=>match look σ i with
   | some x=>pL (todo++x.ids) fun td=>pL (acc++[i]) fun acc=>mX σ n td acc K
   | none=>pL (acc++[i]) fun acc=>mX σ n todo acc K
theorem kx (σ:Ob):∀ (n:Nat) (todo acc:List Nat) (K:List Nat->Prop),mX σ n todo acc K=K (reach σ n todo acc)
 | 0,_,_,_=>rfl
 | n+1,[],_,_=>rfl
 | n+1,i::todo,acc,K=>by
  simp only [mX,reach];cases kh i acc with
  | true=>simp only [cond_true,kx σ n]
  | false =>
   simp only [cond_false];cases look σ i with
   | none=>simp only [l7,kx σ n,List.append_nil]
   | some x=>simp only [l7,kx σ n]
def vg (m:Nat) (cA:List Nat) (fr:Fr) (σ:Ob) (nx:Nat) (K:Option (Fr×Ob×Nat)->Prop):Prop :=
 match BF σ with
 | true=>K (some (eB fr cA,σ,nx))
 | false=>rJ (eB fr cA) fun fr=>pL (upto m++Dj fr) fun td=>mX σ 1000 td [] fun l=>K (fU m l fr σ)
theorem mE (m:Nat) (cA:List Nat) (fr:Fr) (σ:Ob) (nx:Nat) (K:Option (Fr×Ob×Nat)->Prop):vg m cA fr σ nx K=K (canon m cA fr σ nx):=by
 unfold vg canon
 grind [gi,l7,kx]
def run (m:Nat) (G:Cfg->Prop):Nat->List It->Fr->Ob->Nat->Prop
 | 0,k,fr,σ,nx=>G (.st k fr σ nx)
 | _+1,[],fr,σ,nx=>G (.fin .normal fr σ nx)
 | n+1,.blk _::k,fr,σ,nx=>run m G n k fr σ nx
 | n+1,.lpe cA b::k,fr,σ,nx=>vg m cA fr σ nx fun r=>match r with
  | some (fr,σ,nx)=>rJ fr fun fr=>rK σ fun σ=>wQ nx fun nx=>G (.lp cA b k fr σ nx)
  | none=>G .bad
 | n+1,.ops [] tr::k,fr,σ,nx=>match tr with
  | .off=>run m G n k fr σ nx
  | .on l=>match pO l with
   | []=>run m G n k fr σ nx
   | p::ps=>G (.dR (ew (p::ps)) (.st k fr σ nx))
  | .bad=>G .bad
 | n+1,.ops (⟨dst,g,op,anc⟩::rest) tr::k,fr,σ,nx =>
  match gd fr g with
  | .yes=>match sem op fr σ nx with
   | .ok ⟨v,pt,c,rd⟩=>sJ v fun v=>DE tr anc σ pt rd fun tr=>Dp σ pt fun σ=>CQ fr dst v fun fr=>D9 nx c fun nx=>run m G n (.ops rest tr::k) fr σ nx
   | .dR p ⟨v,pt,c,rd⟩=>sJ v fun v=>DE tr anc σ pt rd fun tr=>Dp σ pt fun σ=>CQ fr dst v fun fr=>D9 nx c fun nx=>G (.dR p (.st (.ops rest tr::k) fr σ nx))
   | .exD p rows i f=>G (.exD p rows i f dst anc rest tr k fr σ nx)
   | .exV p rows i f=>G (.exV p rows i f dst anc rest tr k fr σ nx)
   | .exB s i=>G (.exB s i dst anc rest tr k fr σ nx)
   | .split b x y=>sJ x fun x=>sJ y fun y=>G (.split b (.st (.ops rest tr::k) (fq fr dst x) σ nx) (.st (.ops rest tr::k) (fq fr dst y) σ nx))
   | .call f xs=>wP xs fun xs=>G (.call f xs dst anc rest tr k fr σ nx)
   | .bad=>G .bad
  | .no=>CQ fr dst (.tup []) fun fr=>run m G n (.ops rest tr::k) fr σ nx
  | .ask s b w=>match w with
   | true=>G (.split b (.st (.ops (⟨dst,g,op,anc⟩::rest) tr::k) ((s,.tt)::fr) σ nx) (.st (.ops (⟨dst,g,op,anc⟩::rest) tr::k) ((s,.ff)::fr) σ nx))
   | false=>G (.split b (.st (.ops (⟨dst,g,op,anc⟩::rest) tr::k) ((s,.tt)::fr) σ nx) (.st (.ops (⟨dst,g,op,anc⟩::rest) tr::k) ((s,.ff)::fr) σ nx))
  | .bad=>G .bad
 | n+1,.code .skip::k,fr,σ,nx=>run m G n k fr σ nx
 | n+1,.code (.reg ops)::k,fr,σ,nx=>run m G n (.ops ops .off::k) fr σ nx
 | n+1,.code (.wZ ops)::k,fr,σ,nx=>run m G n (.ops ops (.on [])::k) fr σ nx
 | n+1,.code (.seq a b)::k,fr,σ,nx=>run m G n (.code a:: .code b::k) fr σ nx
 | n+1,.code (.ite c x y)::k,fr,σ,nx =>
  match gdc fr (match c with | .t s=>some (s,true) | .k _=>none) with
  | .yes=>run m G n (.code x::k) fr σ nx
  | .no=>run m G n (.code y::k) fr σ nx
  | .ask s b _=>G (.split b (.st (.code x::k) ((s,.tt)::fr) σ nx) (.st (.code y::k) ((s,.ff)::fr) σ nx))
  | .bad=>G .bad
 | n+1,.code (.blk id b)::k,fr,σ,nx=>run m G n (.code b:: .blk id::k) fr σ nx
 | n+1,.code (.loop cA b)::k,fr,σ,nx=>run m G n (.lpe cA b::k) fr σ nx
 | n+1,.code (.exit id)::k,fr,σ,nx=>match leave (.exit id) k fr σ nx with
  | .st k fr σ nx=>run m G n k fr σ nx
  | c=>G c
 | n+1,.code .ret::k,fr,σ,nx=>G (.fin .ret fr σ nx)
 | n+1,.code (.cut cA)::k,fr,σ,nx=>vg m cA fr σ nx fun r=>match r with
  | some (fr,σ,nx)=>rJ fr fun fr=>rK σ fun σ=>wQ nx fun nx=>G (.cut k fr σ nx)
  | none=>G .bad
 | n+1,.code (.gop dst op)::k,fr,σ,nx=>run m G n (.ops [⟨dst,none,op,[]⟩] .off::k) fr σ nx
 | n+1,.code (.gh g)::k,fr,σ,nx=>match ghost g fr σ nx with
  | some (fr,σ,nx)=>rJ fr fun fr=>rK σ fun σ=>wQ nx fun nx=>run m G n k fr σ nx
  | none=>G .bad
abbrev Kt:=Ex->Fr->Ob->Nat->Prop
def wpK (C:Ctx) (m:Nat) (K:Kt):List It->Kt
 | [],x,fr,σ,nx=>K x fr σ nx
 | i::k,.normal,fr,σ,nx=>match i with
  | .ops l tr=>dt C l tr fr σ nx (wpK C m K k .normal)
  | .code c=>wpL C m c fr σ nx (wpK C m K k)
  | .blk _=>wpK C m K k .normal fr σ nx
  | .lpe cA b=>ub m (wpL C m b) cA (wpK C m K k) fr σ nx
 | i::k,x,fr,σ,nx=>match i,x with
  | .blk id,.exit j=>bif Nat.beq j id then wpK C m K k .normal fr σ nx else wpK C m K k x fr σ nx
  | _,_=>wpK C m K k x fr σ nx
def goal (C:Ctx) (m:Nat) (K:Kt):Cfg->Prop
 | .st k fr σ nx=>wpK C m K k .normal fr σ nx
 | .fin x fr σ nx=>K x fr σ nx
 | .cut k fr σ nx=>wpK C m K k .normal fr σ nx
 | .lp cA b k fr σ nx=>wpK C m K (.code b:: .lpe cA b::k) .normal fr σ nx
 | .dR p c=>p/\goal C m K c
 | .split b x y=>(b=true->goal C m K x)/\(b=false->goal C m K y)
 | .exD p rows n f dst anc rest tr k fr σ nx=>p/\∃ row e,rows[n]?=some row/\f row=some e/\wpK C m K (.ops rest (jf tr anc σ e.pt e.rd)::k) .normal (fq fr dst e.v) (patch σ e.pt) (nx+e.n)
 | .exV p rows n f dst anc rest tr k fr σ nx=>p/\∃ row e,rows[n]?=some row/\f row=some e/\wpK C m K (.ops rest (jf tr anc σ e.pt e.rd)::k) .normal (fq fr dst e.v) (patch σ e.pt) (nx+e.n)
 | .exB s i dst anc rest tr k fr σ nx=>0<=i/\∃ b,s[i.toNat]?=some b/\wpK C m K (.ops rest tr::k) .normal (fq fr dst (.d (.int .u8 b.toNat))) σ nx
 | .call f xs dst anc rest tr k fr σ nx=>∃ e,oy C f xs σ nx e/\wpK C m K (.ops rest (jf tr anc σ e.pt e.rd)::k) .normal (fq fr dst e.v) (patch σ e.pt) (nx+e.n)
 | .bad=>False
structure Goal (C:Ctx) (m:Nat) (K:Kt) (c:Cfg):Prop where
 h:goal C m K c
theorem ni (C:Ctx) (m:Nat) (K:Kt) (x:Ex) (hx:x≠ .normal):∀ (k:List It) (fr:Fr) (σ:Ob) (nx:Nat),goal C m K (leave x k fr σ nx)->wpK C m K k x fr σ nx
 | [],fr,σ,nx,h=>h
 | i::k,fr,σ,nx,h=>by
  have ih:=ni C m K x hx k fr σ nx;cases x with
  | normal=>exact absurd rfl hx
  | exit j =>
   cases i with
   | blk id =>
    simp only [leave] at h;simp only [wpK];cases hb:Nat.beq j id with
    | true=>simp only [hb,cond_true] at h ⊢;exact h
    | false=>simp only [hb,cond_false] at h ⊢;exact ih h
   | _=>exact ih h
  | ret =>
   cases i with
   | _=>exact ih h
theorem tJ:∀ (k:List It) (fr:Fr) (σ:Ob) (nx:Nat),leave .ret k fr σ nx= .fin .ret fr σ nx
 | [],_,_,_=>rfl
 | i::k,fr,σ,nx=>by cases i<;>exact tJ k fr σ nx
theorem oL (C:Ctx) (m:Nat) (K:Kt):∀ (n:Nat) (k:List It) (fr:Fr) (σ:Ob) (nx:Nat),run m (Goal C m K) n k fr σ nx->wpK C m K k .normal fr σ nx
 | 0,k,fr,σ,nx,h=>h.h
 | n+1,[],fr,σ,nx,h=>h.h
 | n+1,i::k,fr,σ,nx,h=>by
  have ih:=oL C m K n;cases i with
  | blk id=>exact ih k fr σ nx h
  | lpe cA b =>
   simp only [run,mE] at h;split at h
   ·rename_i fr' σ' nx' hc;simp only [gi,gj,iz] at h;refine ub.fold ?_;simp only [rp,hc];refine fh b ?_ _ _ _ h.h;intro x fr σ nx hx;cases x<;>exact hx
   ·exact h.h.elim
  | ops l tr =>
   cases l with
   | nil =>
    show pw tr (wpK C m K k .normal fr σ nx);cases tr with
    | off=>exact ih k fr σ nx h
    | on l =>
     simp only [run] at h;simp only [pw];split at h
     ·rename_i hc;rw [hc];exact ⟨trivial,ih k fr σ nx h⟩
     ·rename_i p ps hc;rw [hc];exact h.h
    | bad=>exact h.h.elim
   | cons o rest =>
    obtain ⟨dst,g,op,anc⟩:=o;show dt C (⟨dst,g,op,anc⟩::rest) tr fr σ nx (wpK C m K k .normal);cases hg:gd fr g with
    | yes =>
     simp only [run,hg] at h;simp only [dt,hg];cases hs:sem op fr σ nx with
     | ok e =>
      obtain ⟨v,pt,c,rd⟩:=e;simp only [hs,iS,qu,qo,my,qi] at h;exact ih (.ops rest (jf tr anc σ pt rd)::k) _ _ _ h
     | dR p e =>
      obtain ⟨v,pt,c,rd⟩:=e;simp only [hs,iS,qu,qo,my,qi] at h;exact h.h
     | exD p rows i f=>simp only [hs] at h;exact h.h
     | exV p rows i f=>simp only [hs] at h;exact h.h
     | exB s i=>simp only [hs] at h;have:=h.h;simp only [goal] at this;simp only [wpR,xp];exact this
     | split b x y=>simp only [hs,iS] at h;have:=h.h;simp only [goal] at this;simp only [wpR,xp];exact this
     | call f xs=>simp only [hs,n7] at h;exact h.h
     | bad=>simp only [hs] at h;exact h.h.elim
    | no =>
     simp only [run,hg,my] at h;simp only [dt,hg];exact ih (.ops rest tr::k) _ _ _ h
    | ask s b w =>
     have hgs:g=some (s,w):=by
      cases g with
      | none=>simp [gd] at hg
      | some p =>
       obtain ⟨s',b'⟩:=p;simp only [gd] at hg
       grind
     subst hgs;simp only [run,hg] at h;simp only [dt,hg];cases w with
     | true =>
      obtain ⟨h1,h2⟩:=h.h;constructor
      ·intro hb;have:=h1 hb;simpa only [goal,wpK,dt,gd,cP,Nat.beq_refl,cond_true] using this
      ·intro hb;have:=h2 (by simpa using hb);simpa only [goal,wpK,dt,gd,cP,Nat.beq_refl,cond_true,cond_false] using this
     | false =>
      obtain ⟨h1,h2⟩:=h.h;constructor
      ·intro hb;have:=h2 (by simpa using hb);simpa only [goal,wpK,dt,gd,cP,Nat.beq_refl,cond_true,cond_false] using this
      ·intro hb;have:=h1 (by simpa using hb);simpa only [goal,wpK,dt,gd,cP,Nat.beq_refl,cond_true,cond_false] using this
    | bad=>simp only [run,hg] at h;exact h.h.elim
  | code c =>
   show wpL C m c fr σ nx (wpK C m K k);cases c with
   | skip=>exact ih k fr σ nx h
   | reg ops=>exact ih (.ops ops .off::k) fr σ nx h
   | wZ ops=>exact ih (.ops ops (.on [])::k) fr σ nx h
   | gop dst op=>exact ih (.ops [⟨dst,none,op,[]⟩] .off::k) fr σ nx h
   | seq a b =>
    have:=ih (.code a:: .code b::k) fr σ nx h;refine fh a ?_ _ _ _ this;intro x fr σ nx hx;cases x<;>exact hx
   | ite c x y =>
    cases c<;>(
     simp only [run] at h;simp only [wpL];split at h
     ·rename_i hg;simp only [hg];exact ih (.code x::k) fr σ nx h
     ·rename_i hg;simp only [hg];exact ih (.code y::k) fr σ nx h
     ·rename_i hg;simp only [hg];exact h.h
     ·exact h.h.elim)
   | blk id b =>
    have:=ih (.code b:: .blk id::k) fr σ nx h;refine fh b ?_ _ _ _ this;intro x fr σ nx hx;cases x<;>exact hx
   | loop cA b=>exact ih (.lpe cA b::k) fr σ nx h
   | exit id =>
    simp only [run] at h;refine ni C m K _ (by simp) k fr σ nx ?_;split at h
    ·rename_i hl;rw [hl];exact ih _ _ _ _ h
    ·exact h.h
   | ret=>exact ni C m K _ (by simp) k fr σ nx (by rw [tJ];exact h.h)
   | cut cA =>
    simp only [run,mE] at h;simp only [wpL];split at h
    ·rename_i fr' σ' nx' hz;simp only [gi,gj,iz] at h;simp only [hz];exact h.h
    ·exact h.h.elim
   | gh g =>
    simp only [run] at h;simp only [wpL];split at h
    ·rename_i fr' σ' nx' hz;simp_all [gi,gj,iz,hz]
    ·exact h.h.elim
theorem Goal.start {K:Kt} (n:Nat) {k:List It} (h:rJ fr fun fr=>rK σ fun σ=>wQ nx fun nx=>run m (Goal C m K) n k fr σ nx):Goal C m K (.st k fr σ nx) :=
 ⟨by simp only [gi,gj,iz] at h;exact oL C m K n k fr σ nx h⟩
theorem Goal.dR {K:Kt} {c:Cfg} (hp:p) (h:Goal C m K c):Goal C m K (.dR p c):=⟨⟨hp,h.h⟩⟩
theorem Goal.split {K:Kt} {b:Bool} {x y:Cfg} (h1:b=true->Goal C m K x) (h2:b=false->Goal C m K y):Goal C m K (.split b x y):=⟨⟨fun h=>(h1 h).h,fun h=>(h2 h).h⟩⟩
theorem Goal.exD {K:Kt} {rows:List (List D)} {f:List D->Option Eff} {k:List It} {row:List D} 
  (hr:rows[n]?=some row) (hp:p) (he:f row=some e) (h:Goal C m K (.st (.ops rest (jf tr anc σ e.pt e.rd)::k) (fq fr dst e.v) (patch σ e.pt) (nx+e.n))):Goal C m K (.exD p rows n f dst anc rest tr k fr σ nx):=⟨⟨hp,row,e,hr,he,h.h⟩⟩
theorem Goal.exV {K:Kt} {rows:List (List V)} {f:List V->Option Eff} {k:List It} {row:List V} 
  (hr:rows[n]?=some row) (hp:p) (he:f row=some e) (h:Goal C m K (.st (.ops rest (jf tr anc σ e.pt e.rd)::k) (fq fr dst e.v) (patch σ e.pt) (nx+e.n))):Goal C m K (.exV p rows n f dst anc rest tr k fr σ nx):=⟨⟨hp,row,e,hr,he,h.h⟩⟩
theorem Goal.exB {K:Kt} {s:List UInt8} {i:Int} {k:List It} {b:UInt8}
  (hr:s[i.toNat]?=some b) (hp:0<=i) (h:Goal C m K (.st (.ops rest tr::k) (fq fr dst (.d (.int .u8 b.toNat))) σ nx)):Goal C m K (.exB s i dst anc rest tr k fr σ nx):=⟨⟨hp,b,hr,h.h⟩⟩
theorem Goal.call {K:Kt} {f:Nat} {xs args:List V} {k:List It} {os:List O} {v:V} {os':List (Option O)} (π:List Nat)
  (hc:Ok C π.length f args (fun i=>os[i]?) v (fun i=>(os'[i]?).join)) (hl:os.length=π.length/\π.length<=os'.length/\distinct π=true) (hx:xs=j2 π π.length nx args) (hσ:gE σ π=some (gp π π.length nx os))
  (hbd:(j9 π.length args&&oo π.length os&&v.vj os'.length&&mR os'.length os')=true) (h:Goal C m K (.st (.ops rest (jf tr anc σ (dQ π π.length nx 0 os') (π.zip (gp π π.length nx os)))::k) (fq fr dst (v.nO π π.length nx)) (patch σ (dQ π π.length nx 0 os')) (nx+(os'.length - π.length)))):Goal C m K (.call f xs dst anc rest tr k fr σ nx) :=
 ⟨⟨⟨v.nO π π.length nx,dQ π π.length nx 0 os',os'.length - π.length,π.zip (gp π π.length nx os)⟩,⟨args,π,os,v,os',hc,hl.1,hl.2.1,hl.2.2,hx,hσ,hbd,rfl,rfl,rfl,rfl⟩,h.h⟩⟩
theorem Goal.loop {K:Kt} {cA:List Nat} {b:L} {k:List It} {α:Type} (μ:α->Nat) (A:α->Fr) (B:α->Ob) (N:Nat)
  (h:∀ x,(∀ y,μ y < μ x->Goal C m K (.lp cA b k (A y) (B y) N))->Goal C m K (.st (.code b:: .lpe cA b::k) (A x) (B x) N)):∀ x,Goal C m K (.lp cA b k (A x) (B x) N):=by
 have key:∀ n x,μ x=n->Goal C m K (.lp cA b k (A x) (B x) N):=by
  intro n;induction n using Nat.strongRecOn with
  | _ n ih =>
   intro x hx;exact ⟨(h x (fun y hy=>ih (μ y) (hx▸hy) y rfl)).h⟩
 simp_all
end Go.Proofs.YtggoiofammbchaaGreatDoor.Loc
