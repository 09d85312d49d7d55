/- Part 7 of a chain that ends in the statement named in GOCLAIM.json; no condition. -/
import Derived.Test.YtggoiofammbchaaGreatDoorK6
set_option maxRecDepth 100000
set_option maxHeartbeats 2000000
set_option linter.all false
namespace Go.Proofs.YtggoiofammbchaaGreatDoor.Loc
open Go
variable {C:Ctx} {F F':Fz} {K:Fr->Ob->Nat->Prop} {Q:Exit->Act->World->Prop} {S S':Nat->Bool} {a:Act} {c' v x':V} {d:Option Tmp} {e e':Emb} {fr fr':Fr} {i id j k m nt nx nx' s:Nat} {ij:Ir} {l:List Nat} {listed:Array Bool} {n:Option Nat} {next:Act->World->Prop} {oj:Oper} {ops:Array Oper} {rd:List (Nat×O)} {w:World} {x y:O} {σ σ':Ob}
def mY (σ:Ob) (e:Eff):Prop:=∀ p∈e.rd,look σ p.1=some p.2
def R.mY (σ:Ob):R->Prop
 | .ok e=>Loc.mY σ e
 | .dR _ e=>Loc.mY σ e
 | .exD _ _ _ f=>∀ row e,f row=some e->Loc.mY σ e
 | .exV _ _ _ f=>∀ row e,f row=some e->Loc.mY σ e
 | _=>True
theorem lY {σ:Ob}:∀ {l:List Nat} {os:List O},gE σ l=some os->∀ p∈l.zip os,look σ p.1=some p.2
 | [],os,h,p,hp=>by simp at hp
 | i::l,os,h,p,hp=>by
  simp only [gE] at h;split at h
  ·rename_i x xs h1 h2;cases h;simp only [List.zip_cons_cons,aQ] at hp;rcases hp with rfl | hp
   ·exact h1
   ·exact lY h2 p hp
  ·cases h
theorem Ap {K:Eff->Prop} {r:R} (h:r.mY σ) (hk:wpR C σ nx K r):wpR C σ nx (fun e=>K e/\mY σ e) r:=by
 cases r with
 | ok e=>exact ⟨hk,h⟩
 | dR p e=>exact ⟨hk.1,hk.2,h⟩
 | exD p rows n f=>obtain ⟨hp,row,e,h1,h2,h3⟩:=hk;exact ⟨hp,row,e,h1,h2,h3,h _ _ h2⟩
 | exV p rows n f=>obtain ⟨hp,row,e,h1,h2,h3⟩:=hk;exact ⟨hp,row,e,h1,h2,h3,h _ _ h2⟩
 | exB s k=>obtain ⟨hp,b,h1,h2⟩:=hk;exact ⟨hp,b,h1,h2,by intro p hp;simp at hp⟩
 | split b x y=>exact ⟨fun hb=>⟨hk.1 hb,by intro p hp;simp at hp⟩,fun hb=>⟨hk.2 hb,by intro p hp;simp at hp⟩⟩
 | call f xs =>
  obtain ⟨e,h1,h2⟩:=hk;refine ⟨e,h1,h2,?_⟩;obtain ⟨args,π,os,v,os',_,_,_,_,_,h6,_,_,_,_,h9⟩:=h1;intro p hp;rw [h9] at hp;exact lY h6 p hp
 | bad=>exact hk.elim
theorem eY {e:Eff} (h:e.rd=[]):mY σ e:=by intro p hp;rw [h] at hp;cases hp
theorem dA {e:Eff} (h:e.rd=[(i,x)]) (hl:look σ i=some x):mY σ e:=by
 intro p hp;simp_all
theorem uO {o:Nat} {row:List V} {e:Eff} (h:ldV n o rd row=some e):e.rd=rd:=by
 rcases kY h with ⟨rfl,c,hj,_,rfl⟩ | ⟨n,vs,rfl,hj,_,rfl⟩<;>rfl
theorem Bc {w:Nat} {o:Nat} {row:List D} {e:Eff} (h:ldD w n o rd row=some e):e.rd=rd:=by
 unfold ldD at h
 grind
theorem qf {x:Option Eff} (h:∀ e,x=some e->mY σ e):(R.of x).mY σ:=by
 cases x with
 | none=>trivial
 | some e=>exact h e rfl
theorem ku {w:Nat} {s:Sh} (h:shown σ w v=some (s,rd)):∀ p∈rd,look σ p.1=some p.2:=by
 unfold shown at h
 grind
theorem dz {l:List (Nat×O)} (h:look σ i=some x) (hl:∀ p∈l,look σ p.1=some p.2):∀ p∈(i,x)::l,look σ p.1=some p.2:=by
 grind
theorem mq {i o:Nat} {cs:List V} (h:Cq σ v=some (i,o,cs)):look σ i=some (.st cs):=by
 unfold Cq at h
 grind
theorem xJ {x:V} {c:Option (Bool×Nat)} {d:D} {m:List (Nat×O)} (h:tB σ x c=some (d,m)):∀ p∈m,look σ p.1=some p.2:=by
 unfold tB at h;split at h
 ·grind
 ·grind
theorem jr {σ:Ob}:∀ {row:List V} {ws:List (Option (Bool×Nat))} {ds:List D} {mv:List (Nat×O)},j3 σ row ws=some (ds,mv)->∀ p∈mv,look σ p.1=some p.2
 | [],[],ds,mv,h=>by cases h;simp
 | [],_::_,ds,mv,h=>by cases h
 | x::l,[],ds,mv,h=>by cases h
 | x::l,c::ws,ds,mv,h=>by
  simp only [j3] at h;split at h
  ·rename_i d m ds' mv' h1 h2;cases h;intro p hp;rcases bL.1 hp with hp | hp
   ·exact xJ h1 p hp
   ·exact jr h2 p hp
  ·cases h
theorem vO (i:I) (fr:Fr) (σ:Ob) (nx:Nat):(sem i fr σ nx).mY σ:=by
 cases i with
 | ld n a =>
  simp only [sem];split
  ·split
   ·rename_i hl;split
    ·exact qf fun e he=>dA (uO he) hl
    ·trivial
   ·rename_i hl;exact fun row e he=>dA (Bc he) hl
   ·rename_i hl;exact fun row e he=>dA (uO he) hl
   ·trivial
   ·trivial
   ·trivial
   ·rename_i hl;split
    ·split
     ·rename_i hk;exact qf fun e he p hp=>by rw [uO he] at hp;exact dz hl (dz hk (by simp)) p hp
     ·trivial
    ·split
     ·split
      ·exact dA rfl hl
      ·trivial
     ·trivial
    ·trivial
   ·trivial
  ·exact qf fun e he=>eY (Bc he)
  ·trivial
 | sto n a x =>
  simp only [sem];split
  ·split
   ·trivial
   ·split
    ·rename_i hl;split
     ·exact dA rfl hl
     ·trivial
    ·rename_i hl;intro row e he;dsimp only at he;repeat' split at he
     all_goals first | (cases he;exact dA rfl hl) | (cases he;done)
    ·rename_i hl;intro row e he;dsimp only at he;repeat' split at he
     all_goals first | (cases he;exact dA rfl hl) | (cases he;done)
    ·trivial
    ·trivial
    ·trivial
    ·rename_i hl;split
     ·rename_i hk _;split
      ·exact dz hl (dz (by assumption) (by simp))
      ·trivial
     ·trivial
    ·trivial
  ·trivial
 | fld off n a =>
  simp only [sem];split
  ·exact qf fun e he=>eY (uO he)
  ·trivial
 | iad w a j =>
  simp only [sem];split
  ·split
   ·rename_i w' rows hl;cases Nat.beq w w' with
    | false=>trivial
    | true=>exact dA rfl hl
   ·rename_i w' rows hl;cases Nat.beq w w' with
    | false=>trivial
    | true=>exact dA rfl hl
   ·rename_i w' rows hl;cases Nat.beq w w' with
    | false=>trivial
    | true=>exact dA rfl hl
   ·trivial
  ·rename_i w' rows _ _ _ _;cases Nat.beq w w' with
   | false=>trivial
   | true=>intro row e he;cases he;exact eY rfl
  ·trivial
 | slc w a lo hi =>
  simp only [sem];split
  ·split
   ·rename_i w' rows _;cases Nat.beq w w' with
    | false=>trivial
    | true=>exact eY rfl
   ·exact eY rfl
   ·split
    ·rename_i w' rows hl;cases Nat.beq w w' with
     | false=>trivial
     | true=>exact dA rfl hl
    ·rename_i w' rows hl;cases Nat.beq w w' with
     | false=>trivial
     | true=>exact dA rfl hl
    ·rename_i w' rows hl;cases Nat.beq w w' with
     | false=>trivial
     | true=>exact dA rfl hl
    ·trivial
   ·trivial
  ·trivial
 | lkp ok kd m k =>
  simp only [sem];split
  ·split
   ·rename_i hl;split<;>exact dA rfl hl
   ·trivial
  ·trivial
 | wh kd m k x =>
  simp only [sem];split
  ·split
   ·rename_i hl;exact dA rfl hl
   ·trivial
  ·trivial
 | cpy w a b =>
  simp only [sem];split
  ·rename_i hs;split
   ·rename_i w' rows hl;cases Nat.beq w w' with
    | false=>trivial
    | true=>exact dz hl (ku hs)
   ·trivial
  ·trivial
 | opn a c =>
  simp only [sem];split
  ·rename_i hs;have hl:=mq hs;repeat' split
   all_goals first | trivial | exact eY rfl | exact dA rfl hl
  ·trivial
 | cls a c w dp =>
  simp only [sem];split
  ·rename_i hs;have hl:=mq hs;split
   ·split
    ·rename_i hj;split
     ·exact dz hl (dz hj (by simp))
     ·trivial
    ·rename_i hj;split
     ·exact dz hl (dz hj (by simp))
     ·trivial
    ·trivial
   ·split
    ·exact dA rfl hl
    ·trivial
   ·exact eY rfl
   ·trivial
  ·trivial
 | wa a c n =>
  simp only [sem];split
  ·split
   ·rename_i hl;split
    ·exact dA rfl hl
    ·trivial
   ·trivial
  ·trivial
 | wF a =>
  simp only [sem];split
  ·split
   ·rename_i hi;split
    ·rename_i hk;split
     ·exact dz hk (dz hi (by simp))
     ·trivial
    ·trivial
   ·trivial
  ·trivial
 | out a n =>
  simp only [sem];split
  ·split
   ·rename_i hl;split
    ·exact dA rfl hl
    ·trivial
   ·rename_i hl;split
    ·trivial
    ·intro row e he;dsimp only at he;split at he
     ·cases he;exact dA rfl hl
     ·cases he
   ·trivial
  ·trivial
 | inn a =>
  simp only [sem];split
  ·split
   ·rename_i hk _;split
    ·rename_i hi;split
     ·exact dz hk (dz hi (by simp))
     ·trivial
    ·rename_i hi;split
     ·intro row e he;dsimp only at he;split at he
      ·cases he;exact dz hk (dz hi (by simp))
      ·cases he
     ·trivial
    ·trivial
   ·trivial
  ·trivial
 | pk a ws =>
  simp only [sem];split
  ·split
   ·rename_i hi;split
    ·rename_i hp;split
     ·exact dz hi (jr hp)
     ·trivial
    ·trivial
   ·trivial
  ·trivial
 | yj w a b ws =>
  simp only [sem];split
  ·split
   ·rename_i hl;split
    ·exact dA rfl hl
    ·trivial
   ·trivial
  ·split
   ·rename_i hi hj;split
    ·rename_i hp;split
     ·exact dz hi (dz hj (jr hp))
     ·trivial
    ·trivial
   ·trivial
  ·trivial
 | qB a =>
  simp only [sem];split
  ·rename_i hs;exact ku hs
  ·trivial
 | app w a b fz =>
  simp only [sem];split
  ·rename_i r1 rd1 r2 rd2 h1 h2;have hb:∀ p∈rd1++rd2,look σ p.1=some p.2:=by
    intro p hp;rcases bL.1 hp with hp | hp
    ·exact ku h1 p hp
    ·exact ku h2 p hp
   split
   ·split
    ·exact ku h2
    ·exact ku h2
   ·split
    ·exact hb
    ·exact hb
   ·trivial
  ·trivial
 | mx a b=>simp only [sem];split<;>first | exact eY rfl | trivial
 | mn a b=>simp only [sem];split<;>first | exact eY rfl | trivial
 | bin op a b =>
  simp only [sem];split
  ·split
   ·exact eY rfl
   ·exact eY rfl
   ·exact eY rfl
   ·split
    ·exact eY rfl
    ·trivial
  ·trivial
 | _=>simp only [sem]<;>(repeat' split)<;>first | exact eY rfl | trivial
def Sat (C:Ctx) (m nt:Nat) (ds:List Deferred) (e0:Emb) (F0:Fz) (g0:Sto) (w0:World) (fr:Fr) (σ:Ob) (nx:Nat) (a:Act) (w:World):Prop :=
 ∃ e F,FR e F fr a/\Rel C e F (look σ) w/\(∀ i,nx<=i->e i=none)/\a.tmps.size=nt/\a.defers=ds/\Ext m e0 F0 g0 w0 e F (look σ) w/\m<=nx
theorem nP (a:Act) (d:Option Tmp) (v:Value):(a.put d v).tmps.size=a.tmps.size:=by
 cases d<;>simp [Act.put]
theorem put_defers (a:Act) (d:Option Tmp) (v:Value):(a.put d v).defers=a.defers:=by
 cases d<;>rfl
def rQ (nt:Nat):Option Tmp->Bool
 | none=>true
 | some d=>Nat.blt d nt
theorem FR.put (h:FR e F fr a) (hd:rQ a.tmps.size d=true) {x:Value} (hv:b6 e F v x):FR e F (fq fr d v) (a.put d x):=by
 cases d with
 | none=>exact h
 | some d =>
  have hd':d < a.tmps.size:=by simpa [rQ,Nat.blt_eq] using hd
  intro t;simp only [fq,cP,jk,Act.put];by_cases ht:d=t
  ·simp_all
  ·simp only [ht,decide_false,cond_false];have:(a.tmps.setIfInBounds d x).getD t undef=a.tmps.getD t undef:=by
    simp_all
   rw [this];exact h t
theorem FR.mono (h:FR e F fr a) (he:Emb.le e e') (hf:Fz.le F F'):FR e' F' fr a:=fun t=>b6.mono he hf (h t)
theorem FR.Be (h:FR e F fr a) (hv:b6 e F v (a.tmps.getD s undef)):FR e F ((s,v)::fr) a:=by
 intro t;simp only [cP,jk];by_cases ht:s=t
 ·simp_all
 ·simp only [ht,decide_false,cond_false];exact h t
theorem Sat.step {ds e0 F0 g0 w0 fr σ nx a w} (h:Sat C m nt ds e0 F0 g0 w0 fr σ nx a w) {o:Oper} {eff:Eff} (hd:rQ nt o.dst=true) (hg:Good C o fr nx eff) (hr:mY σ eff) 
  (hk:∀ a' w',Sat C m nt ds e0 F0 g0 w0 (fq fr o.dst eff.v) (patch σ eff.pt) (nx+eff.n) a' w'->next a' w'):o.wp C.P a w next Q:=by
 obtain ⟨e,F,h1,h2,h3,h4,h5,h6,h7⟩:=h;refine hg e F (look σ) w a h1 h2 hr (fun i hi _=>h3 i hi) next Q ?_;intro x w' hres;obtain ⟨e',F',r1,r2,r3,r4,r5,r6,r7,r8⟩:=hres;refine hk _ _ ⟨e',F',(h1.mono r1 r3).put (by rw [h4];exact hd) r4,by rw [fB];exact r5,?_,by rw [nP];exact h4,by rw [put_defers];exact h5,?_,by omega⟩
 ·grind
 ·refine h6.trans ⟨fun i W _ hi=>r1 i W hi,r3,r6,?_,r8⟩;simp_all [fB]
theorem Sat.skip {ds e0 F0 g0 w0 fr σ nx a w} (h:Sat C m nt ds e0 F0 g0 w0 fr σ nx a w) (hd:rQ nt d=true):Sat C m nt ds e0 F0 g0 w0 (fq fr d (.tup [])) σ nx (a.put d undef) w:=by
 obtain ⟨e,F,h1,h2,h3,h4,h5,h6,h7⟩:=h;exact ⟨e,F,h1.put (by rw [h4];exact hd) ⟨[],rfl,.nil⟩,h2,h3,by rw [nP];exact h4,by rw [put_defers];exact h5,h6,h7⟩
def okG (ops:Array Oper) (nt:Nat):Option (Nat×Bool)->Option (Nat×Bool)->Bool
 | none,none=>true
 | some (j,b),some (s,b')=>decide (b=b')&&decide ((ops[j]?).bind (·.dst)=some s)&&Nat.blt s nt
 | _,_=>false
theorem qv {b:Bool} (h:(ops[j]?).bind (·.dst)=some s) (hs:s < a.tmps.size) (hv:a.tmps.getD s undef= .bool b):yielded ops a.tmps j=some b:=by
 have:a.tmps[s]?=some (.bool b):=by
  simp_all
 simp [yielded,h,this]
def xK (P:Program) (ops:Array Oper) (nt:Nat) (o:Oper) (i:Ir):Bool :=
 decide (o.dst=i.dst)&&rQ nt o.dst&&okG ops nt o.guard i.g&&okI P o.op i.op
def iZ (P:Program) (ops:Array Oper) (nt:Nat):List Oper->List Ir->Bool
 | [],[]=>true
 | o::l,i::m=>xK P ops nt o i&&iZ P ops nt l m
 | _,_=>false
theorem oN {C:Ctx} {m nt:Nat} {ds e0 F0 g0 w0} {ops:Array Oper} {Q:Exit->Act->World->Prop} {K:Fr->Ob->Nat->Prop}
  (hQ:∀ fr σ nx a w,K fr σ nx->Sat C m nt ds e0 F0 g0 w0 fr σ nx a w->Q .normal a w) :
  ∀ (l:List Oper) (is:List Ir) (js:List Nat),js.map (ops[·]?)=l.map some->iZ C.P ops nt l is=true->∀ (fr:Fr) (σ:Ob) (nx:Nat) (a:Act) (w:World),
   dt C is .off fr σ nx K->Sat C m nt ds e0 F0 g0 w0 fr σ nx a w->wpOps C.P ops Q js a w
 | [],[],[],_,_,fr,σ,nx,a,w,hk,hs=>hQ _ _ _ _ _ hk hs
 | o::l,i::is,j::js,hj,hok,fr,σ,nx,a,w,hk,hs=>by
  simp only [cT,List.cons.injEq] at hj;simp only [iZ,xK,ag,ak] at hok;obtain ⟨⟨⟨⟨hd,hdn⟩,hg⟩,hi⟩,hrest⟩:=hok;have ih:=oN hQ l is js hj.2 hrest;have hyes:∀ fr,Sat C m nt ds e0 F0 g0 w0 fr σ nx a w->wpR C σ nx (fun e=>dt C is .off (fq fr i.dst e.v) (patch σ e.pt) (nx+e.n) K) (sem i.op fr σ nx)->o.wp C.P a w (wpOps C.P ops Q js) Q:=by
   intro fr hs hk;obtain ⟨eff,⟨h1,h2⟩,h3⟩:=vP (o:=o) hi (Ap (vO i.op fr σ nx) hk);exact hs.step hdn h3 h2 fun a' w' hs'=>ih _ _ _ _ _ h1 (by rw [<- hd];exact hs')
  have hno:∀ fr,Sat C m nt ds e0 F0 g0 w0 fr σ nx a w->dt C is .off (fq fr i.dst (.tup [])) σ nx K->wpOps C.P ops Q js (a.put o.dst undef) w:=by
   intro fr hs hk;exact ih _ _ _ _ _ hk (by rw [<- hd];exact hs.skip hdn)
  simp only [wpOps,hj.1];obtain ⟨e,F,h1,h2,h3,h4,h5,h6,h7⟩:=hs;have hs:Sat C m nt ds e0 F0 g0 w0 fr σ nx a w:=⟨e,F,h1,h2,h3,h4,h5,h6,h7⟩
  simp only [dt] at hk;cases hog:o.guard with
  | none =>
   cases hig:i.g with
   | some _=>rw [hog,hig] at hg;cases hg
   | none =>
    have:Region.wanted o (yielded ops a.tmps)=true:=by simp [Region.wanted,hog]
    rw [aj this];rw [hig] at hk;exact .inl (hyes fr hs hk)
  | some gb =>
   obtain ⟨jj,b⟩:=gb;cases hig:i.g with
   | none=>rw [hog,hig] at hg;cases hg
   | some sb =>
    obtain ⟨s,b'⟩:=sb;rw [hog,hig] at hg;simp only [okG,ag,ak,Nat.blt_eq] at hg;obtain ⟨⟨rfl,hds⟩,hlt⟩:=hg;rw [hig] at hk;have hw:∀ x,a.tmps.getD s undef= .bool x->Region.wanted o (yielded ops a.tmps)=decide (x=b):=by
     intro x hx;simp only [Region.wanted,hog,qv hds (by rw [h4];exact hlt) hx];rfl
    have hv:=h1 s;simp only [gd] at hk;cases hf:cP fr s with
    | tt =>
     rw [hf] at hv hk;rw [hw true hv];cases b with
     | true=>simp only [decide_true,bo];exact .inl (hyes fr hs hk)
     | false=>simp only [Bool.true_eq_false,decide_false,aV];exact hno fr hs hk
    | ff =>
     rw [hf] at hv hk;rw [hw false hv];cases b with
     | false=>simp only [decide_true,bo];exact .inl (hyes fr hs hk)
     | true=>simp only [bB,decide_false,aV];exact hno fr hs hk
    | d x =>
     rw [hf] at hv hk;cases x with
     | bool x =>
      have hx:=bj.gz hv;rw [hw x hx];have hknow:∀ (y:V),b6 e F y (.bool x)->Sat C m nt ds e0 F0 g0 w0 ((s,y)::fr) σ nx a w:=fun y hy=>⟨e,F,h1.Be (by rw [hx];exact hy),h2,h3,h4,h5,h6,h7⟩
      by_cases hxb:x=b
      ·subst hxb;simp only [decide_true,bo];refine .inl (hyes _ (hknow _ ?_) (hk.1 rfl));cases x<;>rfl
      ·simp only [hxb,decide_false,aV];have hxn:x=!b:=by cases x<;>cases b<;>simp_all
       refine hno _ (hknow _ ?_) (hk.2 hxn);rw [hxn];cases b<;>rfl
     | _=>exact hk.elim
    | tup l =>
     rw [hf] at hv hk;cases l with
     | cons y l=>exact hk.elim
     | nil =>
      obtain ⟨us,hus,hu⟩:=hv;cases hu;have:Region.wanted o (yielded ops a.tmps)=false:=by
       have hy:yielded ops a.tmps jj=none:=by
        unfold yielded;simp_all
       simp [Region.wanted,hog,hy]
      grind
    | _=>rw [hf] at hk;exact hk.elim
 | [],[],_::_,hj,_,_,_,_,_,_,_,_=>by simp at hj
 | _::_,_::_,[],hj,_,_,_,_,_,_,_,_=>by simp at hj
 | [],_::_,_,_,hok,_,_,_,_,_,_,_=>by simp [iZ] at hok
 | _::_,[],_,_,hok,_,_,_,_,_,_,_=>by simp [iZ] at hok
theorem zx {ds e0 F0 g0 w0} {is:List Ir} (hok:iZ C.P ops nt ops.toList is=true)
  (hQ:∀ fr σ nx a w,K fr σ nx->Sat C m nt ds e0 F0 g0 w0 fr σ nx a w->Q .normal a w) (hk:dt C is .off fr σ nx K) (hs:Sat C m nt ds e0 F0 g0 w0 fr σ nx a w) :
  (Code.region id ops false).wp C.P Q a w:=by
 refine wp_region (oN hQ ops.toList is _ ?_ hok fr σ nx a w hk hs);apply List.ext_getElem?
 grind
theorem o7 (fr:Fr):∀ (ks:List Nat) (t:Nat),cP (eB fr ks) t=cP fr t\/cP (eB fr ks) t= .un
 | [],t=> .inr rfl
 | d::l,t=>by
  simp only [eB,cP,jk];by_cases h:d=t
  ·subst h;simp
  ·simpa [h] using o7 fr l t
theorem FR.cA (h:FR e F fr a) (ks:List Nat):FR e F (eB fr ks) a:=by
 intro t;rcases o7 fr ks t with h1 | h1
 ·rw [h1];exact h t
 ·rw [h1];trivial
theorem vW:∀ {n k:Nat} {l:List Nat},CT n k l=true->∀ i,i < n->l[i]?=some (k+i)
 | 0,k,l,_,i,hi=>by omega
 | n+1,k,[],h,_,_=>by cases h
 | n+1,k,j::l,h,i,hi=>by
  simp only [CT,jk] at h;by_cases hj:j=k
  ·subst hj;simp only [decide_true,cond_true] at h;cases i with
   | zero=>simp
   | succ i =>
    have:=vW h i (by omega)
    grind
  ·simp_all
theorem rS:∀ {l:List Nat} {i i' j:Nat},kG l=true->l[i]?=some j->l[i']?=some j->i=i'
 | [],i,i',j,_,h,_=>by simp at h
 | x::l,i,i',j,hd,h,h'=>by
  simp only [kG] at hd;cases hm:kh x l with
  | true=>rw [hm] at hd;cases hd
  | false =>
   rw [hm] at hd;have hx:¬ x∈l:=fun hh=>by rw [(ja x l).2 hh] at hm;cases hm
   cases i with
   | zero =>
    grind
   | succ i =>
    cases i' with
    | zero =>
     grind
    | succ i' =>
     have:=rS (i:=i) (i':=i') (j:=j) hd (by simpa using h) (by simpa using h');omega
theorem wI {i:Nat}:∀ {l:List Nat} {k n:Nat},Dh i k l=some n->∃ p,n=k+p/\l[p]?=some i
 | [],k,n,h=>by cases h
 | j::l,k,n,h=>by
  simp only [Dh,jk] at h;by_cases hj:j=i
  ·simp_all
  ·simp only [hj,decide_false,cond_false] at h;obtain ⟨p,h1,h2⟩:=wI h;exact ⟨p+1,by omega,by simpa using h2⟩
theorem mz {n:Nat} (h:mvI l i=some n):l[n]?=some i:=by
 obtain ⟨p,h1,h2⟩:=wI h;simp_all
section
variable {e e':Emb} {F:Fz} {l:List Nat} (he:∀ k i,l[k]?=some i->e' k=e i)
include he
theorem rj:∀ {ps ps':List (Nat×Nat×Nat)} {us:List Value},uG l ps=some ps'->cK (kJ e) ps us->cK (kJ e') ps' us
 | [],ps',us,h,hr=>by cases h;cases hr;exact .nil
 | p::ps,ps',us,h,hr=>by
  simp only [uG] at h;split at h
  ·rename_i i q h1 h2;cases h;cases hr with
   | cons a b =>
    refine .cons ?_ (rj h2 b);obtain ⟨W,h3,h4⟩:=a;exact ⟨W,by rw [<- h3];exact he _ _ (mz h1),h4⟩
  ·cases h
theorem lU {x:V} {v:Value} (h:x.mv l=some x') (hr:cj e F x v):cj e' F x' v:=by
 cases x with
 | ptr i r o =>
  simp only [V.mv] at h;split at h
  ·rename_i k hk;cases h;obtain ⟨W,h3,h4⟩:=hr;exact ⟨W,by rw [<- h3];exact he _ _ (mz hk),h4⟩
  ·cases h
 | arr i o n =>
  simp only [V.mv] at h;split at h
  ·rename_i k hk;cases h;obtain ⟨W,a,cap,h3,h4⟩:=hr;exact ⟨W,a,cap,by rw [<- h3];exact he _ _ (mz hk),h4⟩
  ·cases h
 | fn f ps =>
  simp only [V.mv] at h;split at h
  ·rename_i c hc;cases h;obtain ⟨us,h3,h4⟩:=hr;exact ⟨us,h3,rj he hc h4⟩
  ·cases h
 | d x=>cases h;exact hr
 | iM=>cases h;exact hr
 | tt=>cases h;exact hr
 | ff=>cases h;exact hr
 | rd=>exact hr.elim
 | agg=>exact hr.elim
 | tup=>exact hr.elim
 | un=>exact hr.elim
 | mp i =>
  simp only [V.mv] at h;split at h
  ·rename_i k hk;cases h;obtain ⟨W,h3,h4⟩:=hr;exact ⟨W,by rw [<- h3];exact he _ _ (mz hk),h4⟩
  ·cases h
 | nmp=>cases h;exact hr
 | own=>exact hr.elim
theorem yH:∀ {cs cs':List V} {us:List Value},mvL l cs=some cs'->cK (cj e F) cs us->cK (cj e' F) cs' us
 | [],cs',us,h,hr=>by cases h;cases hr;exact .nil
 | x::cs,cs',us,h,hr=>by
  simp only [mvL] at h;split at h
  ·rename_i y ys h1 h2;cases h;cases hr with
   | cons a b=>exact .cons (lU he h1 a) (yH h2 b)
  ·cases h
theorem CY {x:V} {v:Value} (h:x.mvW l=some x') (hr:b6 e F x v):b6 e' F x' v:=by
 cases x with
 | agg cs =>
  simp only [V.mvW] at h;split at h
  ·rename_i c hc;cases h;obtain ⟨us,h3,h4⟩:=hr;exact ⟨us,h3,yH he hc h4⟩
  ·cases h
 | tup vs=>cases h;trivial
 | un=>cases h;trivial
 | rd row o=>cases h;exact hr
 | d x=>cases h;exact hr
 | iM=>cases h;exact hr
 | tt=>cases h;exact hr
 | ff=>cases h;exact hr
 | ptr i r o=>exact b6.lF (fu.lR (lU he h (x:= .ptr i r o) hr))
 | arr i o n=>exact b6.lF (fu.lR (lU he h (x:= .arr i o n) hr))
 | fn f ps=>exact b6.lF (fu.lR (lU he h (x:= .fn f ps) hr))
 | mp i=>exact b6.lF (fu.lR (lU he h (x:= .mp i) hr))
 | nmp=>cases h;exact hr
 | own=>exact hr.elim
theorem CZ:∀ {fr fr':Fr} {a:Act},mvF l fr=some fr'->FR e F fr a->FR e' F fr' a:=by
 intro fr fr' a h hr t;have key:∀ (fr fr':Fr),mvF l fr=some fr'->(cP fr t).mvW l=some (cP fr' t):=by
  intro fr;induction fr with
  | nil=>intro fr' h;cases h;rfl
  | cons p fr ih =>
   intro fr' h;obtain ⟨d,x⟩:=p;simp only [mvF] at h;split at h
   ·rename_i y ys h1 h2;cases h;simp only [cP,jk]
    grind
   ·cases h
 exact CY he (key fr fr' h) (hr t)
end
theorem uF {l:List Nat}:∀ {cs cs':List V} {j:Nat} {c':V},mvL l cs=some cs'->cs'[j]?=some c'->∃ c,cs[j]?=some c/\c.mv l=some c'
 | [],cs',j,c',h,hc=>by cases h;simp at hc
 | x::cs,cs',j,c',h,hc=>by
  simp only [mvL] at h;split at h
  ·rename_i y ys h1 h2;cases h;cases j with
   | zero=>simp only [az,aw] at hc;subst hc;exact ⟨x,rfl,h1⟩
   | succ j=>exact uF (j:=j) h2 (by simpa using hc)
  ·cases h
theorem yI {l:List Nat}:∀ {cs cs':List V},mvL l cs=some cs'->cs'.length=cs.length
 | [],cs',h=>by cases h;rfl
 | x::cs,cs',h=>by
  simp only [mvL] at h;split at h
  ·rename_i y ys h1 h2;cases h;simp [yI h2]
  ·cases h
theorem uE {l:List Nat}:∀ {rows rows':List (List V)} {r:Nat} {row':List V},mvR l rows=some rows'->rows'[r]?=some row'->∃ row,rows[r]?=some row/\mvL l row=some row'
 | [],rows',r,row',h,hc=>by cases h;simp at hc
 | x::cs,rows',r,row',h,hc=>by
  simp only [mvR] at h;split at h
  ·rename_i y ys h1 h2;cases h;cases r with
   | zero=>simp only [az,aw] at hc;subst hc;exact ⟨x,rfl,h1⟩
   | succ r=>exact uE (r:=r) h2 (by simpa using hc)
  ·cases h
theorem yG {l:List Nat}:∀ {rows rows':List (List V)},mvR l rows=some rows'->rows'.length=rows.length
 | [],rows',h=>by cases h;rfl
 | x::cs,rows',h=>by
  simp only [mvR] at h;split at h
  ·rename_i y ys h1 h2;cases h;simp [yG h2]
  ·cases h
theorem jM (h:x.mv l=some y) {r:Nat} (hc:y.cell r j=some c'):∃ c,x.cell r j=some c/\c.mv l=some c':=by
 cases x with
 | st cs =>
  simp only [O.mv] at h;split at h
  ·rename_i cs' hcs;cases h;simp only [O.cell] at hc ⊢;by_cases hr:r=0
   ·simp only [hr,bo] at hc ⊢;exact uF hcs hc
   ·simp_all
  ·cases h
 | da w rows =>
  cases h;refine ⟨c',hc,?_⟩;simp only [O.cell,ay] at hc;obtain ⟨d,_,rfl⟩:=hc;rfl
 | va w rows =>
  simp only [O.mv] at h;split at h
  ·rename_i rows' hrs;cases h;simp only [O.cell] at hc ⊢;cases hr:rows'[r]? with
   | none=>rw [hr] at hc;cases hc
   | some row' =>
    rw [hr,bQ] at hc;obtain ⟨row,h1,h2⟩:=uE hrs hr;obtain ⟨c,h3,h4⟩:=uF h2 hc;simp_all
  ·cases h
 | mp es=>cases h;cases hc
 | oa w rows =>
  cases h;refine ⟨c',hc,?_⟩;simp only [O.cell,ay] at hc;obtain ⟨d,_,rfl⟩:=hc;cases d<;>rfl
 | rest=>simp only [O.mv] at h;split at h<;>cases h;cases hc
 | rst=>simp only [O.mv] at h;split at h<;>cases h;cases hc
theorem uD {c:V} (h:c.mv l=some c'):c'.dW=c.dW/\∀ dp w rows,c'= .own dp w rows->c= .own dp w rows:=by
 cases c<;>simp only [V.mv] at h<;>(try split at h)<;>cases h<;>simp [V.dW]
theorem iv (h:x.mv l=some y):y.gone=x.gone/\y.plain=x.plain/\y.dU=x.dU/\(∀ v rows,y= .da v rows->x= .da v rows)/\(∀ v rows,y= .oa v rows->x= .oa v rows)/\(∀ v rows,y= .va v rows->∃ rows',x= .va v rows'/\rows.length=rows'.length/\∀ row∈rows,∃ row'∈rows',row.length=row'.length)/\∀ es,y= .mp es->x= .mp es:=by
 cases x with
 | va w rows =>
  simp only [O.mv] at h;split at h
  ·rename_i rows' hrs;cases h;refine ⟨rfl,rfl,rfl,nofun,nofun,fun v rows2 hv=>?_,nofun⟩;cases hv;refine ⟨rows,rfl,yG hrs,fun row hrow=>?_⟩;obtain ⟨q,hq⟩:=List.mem_iff_getElem?.1 hrow;obtain ⟨row',h1,h2⟩:=uE hrs hq;exact ⟨row',aP h1,yI h2⟩
  ·cases h
 | _=>simp only [O.mv] at h<;>(try split at h)<;>cases h<;>simp [O.gone,O.plain,O.dU]
theorem Ea (he:∀ k i,l[k]?=some i->e' k=e i) (hF:Fz.le F F') {S:Nat->Nat->Prop} {W:Win} (h:x.mv l=some y) (hx:Hid e F w S x W):Hid e' F' w S y W:=by
 by_cases hg:x.gone=false
 ·rw [Hid.plain (by rw [(iv h).1];exact hg)];have hx:=((Hid.plain hg).1 hx).mono (T:=fun _ _=>False) hF (b9.refl _ _) (fun _ _ x=>x.elim) (fun _ _ _ _ _ _ x=>x.elim);obtain ⟨Sub,h1,h2,h3⟩:=hx;refine ⟨Sub,h1,h2,fun r j dp wd rows hc=>?_⟩;obtain ⟨c,h4,h5⟩:=jM h hc;rw [(uD h5).2 _ _ _ rfl] at h4
  grind
 ·cases x with
  | rest wd rows r o n k =>
   simp only [O.mv] at h;split at h
   ·rename_i k' hk;cases h;have hx:fw e F w S W (.oa wd rows) r o n k:=hx;refine ⟨(he _ _ (mz hk)).trans hx.kid,hx.inn,hx.fit,hx.wo,hx.reg,fun r' j c hc hno hown=>?_,hx.hid.mono (T:=fun _ _=>False) hF (b9.refl _ _) (fun _ _ x=>x.elim) (fun _ _ _ _ _ _ x=>x.elim)⟩;obtain ⟨u,h1,h2⟩:=hx.cells r' j c hc hno hown;refine ⟨u,h1,?_⟩;obtain ⟨c0,h3,h4⟩:=jM (l:=l) (x:= .oa wd rows) rfl hc;rw [hc] at h3;cases h3;exact (lU he h4 h2).mono (fun _ _ y=>y) hF
   ·cases h
  | rst cs o n k =>
   simp only [O.mv] at h;split at h
   ·rename_i cs' k' hcs hk;cases h;have hx:fw e F w S W (.st cs) 0 o n k:=hx;have hst:O.mv l (.st cs)=some (.st cs'):=by simp only [O.mv,hcs]
    refine ⟨(he _ _ (mz hk)).trans hx.kid,hx.inn,fun r' j c hc=>?_,nofun,hx.reg,fun r' j c hc hno hown=>?_,?_⟩
    ·obtain ⟨c0,h3,h4⟩:=jM hst hc;exact hx.fit r' j c0 h3
    ·obtain ⟨c0,h3,h4⟩:=jM hst hc;obtain ⟨u,h1,h2⟩:=hx.cells r' j c0 h3 hno (by rw [<- (uD h4).1];exact hown);exact ⟨u,h1,(lU he h4 h2).mono (fun _ _ y=>y) hF⟩
    ·obtain ⟨Sub,h1,h2,h3⟩:=hx.hid.mono (T:=fun _ _=>False) hF (b9.refl _ _) (fun _ _ x=>x.elim) (fun _ _ _ _ _ _ x=>x.elim);refine ⟨Sub,h1,h2,fun r j dp wd rows hc=>?_⟩;dsimp only at hc;split at hc
     ·cases hc
     ·rename_i hno;obtain ⟨c,h4,h5⟩:=jM hst hc;rw [(uD h5).2 _ _ _ rfl] at h4;exact h3 r j dp wd rows (by dsimp only;rw [ab hno];exact h4)
   ·cases h
  | _=>exact absurd rfl hg
theorem ri {σ:Ob} {l:List Nat}:∀ {is:List Nat} {k:Nat} {σ':Ob},mvO σ l k is=some σ'->∀ n y,look σ' n=some y->∃ p i x,n=k+p/\is[p]?=some i/\look σ i=some x/\x.mv l=some y
 | [],k,σ',h,n,y,hy=>by cases h;cases hy
 | i::is,k,σ',h,n,y,hy=>by
  simp only [mvO] at h;split at h
  ·rename_i hl;obtain ⟨p,i',x,h1,h2,h3⟩:=ri h n y hy;exact ⟨p+1,i',x,by omega,by simpa using h2,h3⟩
  ·rename_i x hx;split at h
   ·rename_i z σ'' h1 h2;cases h;simp only [look,jk] at hy;by_cases hk:k=n
    ·simp_all
    ·simp only [hk,decide_false,cond_false] at hy;obtain ⟨p,i',x',h3,h4,h5⟩:=ri h2 n y hy;exact ⟨p+1,i',x',by omega,by simpa using h4,h5⟩
   ·cases h
theorem Sat.fU {ds e0 F0 g0 w0 fr σ nx a w} (h:Sat C m nt ds e0 F0 g0 w0 fr σ nx a w) {cA l:List Nat} (hc:Loc.fU m l (eB fr cA) σ=some (fr',σ',nx')):Sat C m nt ds e0 F0 g0 w0 fr' σ' nx' a w:=by
 obtain ⟨e,F,h1,h2,h3,h4,h5,h6,h7⟩:=h;unfold Loc.fU at hc;split at hc
 ·rename_i fr1 σ1 hp hd hf ho;cases hc;have hpre:=vW hp;have he:∀ k i,l[k]?=some i->(fun k=>match l[k]? with | some i=>e i | none=>none:Emb) k=e i:=fun k i hk=>by simp only [hk]
  have hlook:∀ k y,look σ' k=some y->∃ i x,l[k]?=some i/\look σ i=some x/\x.mv l=some y:=by
   intro k y hy;obtain ⟨p,i,x,h1,h2,h3⟩:=ri ho k y hy;simp_all
  have hold:∀ k y W,look σ' k=some y->(fun k=>match l[k]? with | some i=>e i | none=>none:Emb) k=some W->∃ i x,l[k]?=some i/\look σ i=some x/\x.mv l=some y/\e i=some W:=by
   grind
  have hml:m<=l.length:=by
   grind
  let F':Fz:=⟨F.f,fun k=>match l[k]? with | some i=>F.H i | none=>noH⟩
  have hF:Fz.le F F':=fun _ _ _ h=>h
  have hH:∀ {k i:Nat},l[k]?=some i->F'.H k=F.H i:=fun {k i} h=>by simp only [F',h]
  have hown:∀ b o,Own (fun k=>match l[k]? with | some i=>e i | none=>none) F' (look σ') b o->Own e F (look σ) b o:=by
   intro b o hh;obtain ⟨k,y,W,hy,hW,hw⟩:=hh;obtain ⟨i,x,h0,h2,h3,h4⟩:=hold k y W hy hW;rw [hH h0] at hw;exact ⟨i,x,W,h2,h4,hw.imp (fun hh=>⟨(iv h3).1.symm.trans hh.1,hh.2⟩) id⟩
  refine ⟨fun k=>match l[k]? with | some i=>e i | none=>none,F',(CZ he hf (h1.cA cA)).mono (fun _ _ y=>y) hF,?_,?_,h4,h5,?_,hml⟩
  ·refine ⟨h2.np,h2.ng,?_,?_,?_,?_,?_,?_,?_,?_,?_,?_,?_,?_,h2.fz,fun b o u hu hh=>h2.dJ b o u hu (hown b o hh)⟩
   ·intro k y hy;obtain ⟨i,x,h1,h2',h3⟩:=hlook k y hy;obtain ⟨W,hW,hb⟩:=h2.dom i x h2';simp_all
   ·intro k y W hy hW r j c hcc;obtain ⟨i,x,q1,q2,q3,q4⟩:=hold k y W hy hW;obtain ⟨c0,q5,_⟩:=jM q3 hcc;exact h2.fit i x W q2 q4 r j c0 q5
   ·intro k y W hy hW r j c hcc hoc;obtain ⟨i,x,q1,q2,q3,q4⟩:=hold k y W hy hW;obtain ⟨c0,q5,q6⟩:=jM q3 hcc;obtain ⟨u,q7,q8⟩:=h2.cells i x W q2 q4 r j c0 q5 (by rw [<- (iv q3).2.2.1,<- (uD q6).1];exact hoc);exact ⟨u,q7,(lU he q6 q8).mono (fun _ _ y=>y) hF⟩
   ·intro k y W hy hW;obtain ⟨i,x,q1,q2,q3,q4⟩:=hold k y W hy hW;rw [(iv q3).2.1]
    grind [h2.own]
   ·intro k es W hy hW;obtain ⟨i,x,q1,q2,q3,q4⟩:=hold k _ W hy hW;exact h2.mp i es W (by rw [q2,(iv q3).2.2.2.2.2.2 es rfl]) q4
   ·intro k y W hy hW v rows hv;obtain ⟨i,x,q1,q2,q3,q4⟩:=hold k y W hy hW;exact h2.wd i x W q2 q4 v rows ((iv q3).2.2.2.1 v rows hv)
   ·intro k y W hy hW v rows hv;obtain ⟨i,x,q1,q2,q3,q4⟩:=hold k y W hy hW;obtain ⟨rows',r1,r2,r3⟩:=(iv q3).2.2.2.2.2.1 v rows hv;obtain ⟨s1,s2,s3⟩:=h2.wv i x W q2 q4 v rows' r1
    grind
   ·intro k y W k' y' W' hy hW hy' hW' hne b o r1 r2;obtain ⟨i,x,q1,q2,q3,q4⟩:=hold k y W hy hW;obtain ⟨i',x',q1',q2',q3',q4'⟩:=hold k' y' W' hy' hW';exact h2.apart i x W i' x' W' q2 q4 q2' q4' (fun hh=>hne (rS hd q1 (by rw [hh];exact q1'))) b o ⟨(iv q3).1.symm.trans r1.1,r1.2⟩ ⟨(iv q3').1.symm.trans r2.1,r2.2⟩
   ·intro k y W hy hW;obtain ⟨i,x,q1,q2,q3,q4⟩:=hold k y W hy hW;rw [hH q1];exact Ea he hF q3 (h2.hid i x W q2 q4)
   ·intro k y hy b o hh;obtain ⟨i,x,q1,q2,q3⟩:=hlook k y hy;rw [hH q1] at hh;exact h2.dY i x q2 b o hh
   ·intro k y k' y' W' hy hy' hW' b o hh;obtain ⟨i,x,q1,q2,q3⟩:=hlook k y hy;obtain ⟨i',x',q1',q2',q3',q4'⟩:=hold k' y' W' hy' hW';rw [hH q1] at hh;rw [hH q1'];have:=h2.hap i x i' x' W' q2 q2' q4' b o hh;exact ⟨fun hne=>this.1 (fun hh=>hne (rS hd q1 (by rw [hh];exact q1'))),fun r1=>this.2 ⟨(iv q3').1.symm.trans r1.1,r1.2⟩⟩
   ·intro k y W hy hW v rows hv;obtain ⟨i,x,q1,q2,q3,q4⟩:=hold k y W hy hW;exact h2.wo i x W q2 q4 v rows ((iv q3).2.2.2.2.1 v rows hv)
  ·simp_all
  ·refine ⟨fun i W hi hW=>?_,fun b o u hu=>h6.ff b o u hu,h6.up,fun b o hh=>h6.own b o (hown b o hh),h6.fz⟩;have:=hpre i hi;simp_all [aW,this,h6.ee]
 ·cases hc
theorem Sat.canon {ds e0 F0 g0 w0 fr σ nx a w} (h:Sat C m nt ds e0 F0 g0 w0 fr σ nx a w) {cA:List Nat} (hc:Loc.canon m cA fr σ nx=some (fr',σ',nx')):Sat C m nt ds e0 F0 g0 w0 fr' σ' nx' a w:=by
 unfold Loc.canon at hc;split at hc
 ·cases hc;obtain ⟨e,F,h1,h2,h3,h4,h5,h6,h7⟩:=h;exact ⟨e,F,h1.cA cA,h2,h3,h4,h5,h6,h7⟩
 ·exact h.fU hc
def ov {α:Type} (g:Nat->α) (τ:Nat->Option α):Nat->α:=fun i=>(τ i).getD (g i)
def fold {α:Type}:List (Nat->Option α)->(Nat->Bool)->Nat->(Nat->α)->Nat->α
 | [],_,_,g=>g
 | τ::l,S,k,g=>fold l S (k+1) (if S k=true then ov g τ else g)
theorem fold_congr {α:Type} {i:Nat}:∀ {l:List (Nat->Option α)} {S S':Nat->Bool} {k:Nat} {g g':Nat->α},g i=g' i->(∀ j τ,l[j]?=some τ->(τ i).isSome=true->S (k+j)=S' (k+j))->fold l S k g i=fold l S' k g' i
 | [],S,S',k,g,g',hg,h=>hg
 | τ::l,S,S',k,g,g',hg,h=>by
  refine fold_congr (l:=l) ?_ (fun j τ' hj hs=>?_)
  ·cases ht:τ i with
   | none =>
    have e1:∀ (b:Bool) (f:Nat->α),(if b=true then ov f τ else f) i=f i:=by
     simp [ov,ht]
    simp [e1,hg]
   | some x =>
    have:=h 0 τ rfl (by simp [ht]);simp only [cr] at this;rw [this];by_cases hs:S' k=true
    ·simp [hs,ov,ht]
    ·simp [hs,hg]
  ·have:=h (j+1) τ' (by simpa using hj) hs
   grind
theorem rM {α:Type} {i:Nat} {x:α}:∀ {l:List (Nat->Option α)} {S:Nat->Bool} {k:Nat} {g:Nat->α} {j:Nat} {τ:Nat->Option α},l[j]?=some τ->τ i=some x->S (k+j)=true->(∀ j' τ',l[j']?=some τ'->j < j'->(τ' i).isSome=true->S (k+j')=false)->fold l S k g i=x
 | [],S,k,g,j,τ,hj,_,_,_=>by simp at hj
 | τ0::l,S,k,g,0,τ,hj,hx,hS,h=>by
  simp only [az,aw] at hj;subst hj;simp only [cr] at hS;simp only [fold,hS,bo];have:fold l S (k+1) (ov g τ0) i=fold l (fun _=>false) (k+1) (ov g τ0) i:=by
   refine fold_congr rfl (fun j' τ' hj' hs=>?_);have:=h (j'+1) τ' (by simpa using hj') (by omega) hs
   grind
  rw [this];have:∀ (l:List (Nat->Option α)) (k:Nat) (g:Nat->α),fold l (fun _=>false) k g=g:=by
   intro l;induction l with
   | nil=>intros;rfl
   | cons a l ih=>intro k g;simp only [fold,bB,aV];exact ih _ _
  simp [this,ov,hx]
 | τ0::l,S,k,g,j+1,τ,hj,hx,hS,h=>by
  simp only [fold];refine rM (l:=l) (j:=j) (by simpa using hj) hx (by rw [show k+1+j=k+(j+1) by omega];exact hS) (fun j' τ' hj' hlt hs=>?_);rw [show k+1+j'=k+(j'+1) by omega];simp_all
theorem rL {α:Type}:∀ (l:List (Nat->Option α)) (S:Nat->Bool) (k:Nat) (g:Nat->α),fold l S (k+1) g=fold l (fun n=>S (n+1)) k g
 | [],S,k,g=>rfl
 | τ::l,S,k,g=>by simp only [fold];rw [rL l S (k+1)]
def A.aL:A->List Nat
 | .t n=>[n]
 | .k _=>[]
def oH:List A->List Nat
 | []=>[]
 | a::l=>a.aL++oH l
def xC:List (Nat×Nat×A)->List Nat
 | []=>[]
 | (_,_,a)::l=>a.aL++xC l
def qJ:Option A->List Nat
 | none=>[]
 | some a=>a.aL
def lC:I->List Nat
 | .mv a=>a.aL
 | .pick c a b=>c.aL++(a.aL++b.aL)
 | .box a=>a.aL
 | .new _=>[]
 | .build _ ps=>xC ps
 | .lit _ as _=>oH as
 | .ld _ a=>a.aL
 | .sto _ a x=>a.aL++x.aL
 | .zC a=>a.aL
 | .bin _ a b=>a.aL++b.aL
 | .beq _ a b=>a.aL++b.aL
 | .peq _ a b=>a.aL++b.aL
 | .aeq _ _ a b=>a.aL++b.aL
 | .not a=>a.aL
 | .neg a=>a.aL
 | .sV _ a=>a.aL
 | .qB a=>a.aL
 | .nF a=>a.aL
 | .ext a _=>a.aL
 | .fad _ a=>a.aL
 | .fld _ _ a=>a.aL
 | .iad _ a i=>a.aL++i.aL
 | .idx a i=>a.aL++i.aL
 | .xB a lo hi=>a.aL++(qJ lo++qJ hi)
 | .slc _ a lo hi=>a.aL++(qJ lo++qJ hi)
 | .zm a=>a.aL
 | .len a=>a.aL
 | .mx a b=>a.aL++b.aL
 | .mn a b=>a.aL++b.aL
 | .app _ a b _=>a.aL++b.aL
 | .mks _ _ a=>a.aL
 | .call _ as=>oH as
 | .r0 f as=>f.aL++oH as
 | .mkf _ as=>oH as
 | .mkm=>[]
 | .lkp _ _ a b=>a.aL++b.aL
 | .wh _ a b c=>a.aL++(b.aL++c.aL)
 | .cpy _ a b=>a.aL++b.aL
 | .opn a _=>a.aL
 | .cls a _ _ _=>a.aL
 | .out a _=>a.aL
 | .inn a=>a.aL
 | .pk a _=>a.aL
 | .yj _ a b _=>a.aL++b.aL
 | .wa a _ _=>a.aL
 | .wF a=>a.aL
theorem rO {fr:Fr}:∀ {ks:List Nat} {t:Nat},t∈ks->cP (eB fr ks) t=cP fr t
 | [],t,h=>by cases h
 | d::l,t,h=>by
  simp only [eB,cP,jk];by_cases hd:d=t
  ·subst hd;simp
  ·simp only [hd,decide_false,cond_false];exact rO ((aQ.1 h).resolve_left (fun x=>hd x.symm))
section
variable {fr:Fr} {ks:List Nat}
theorem qp {a:A} (h:∀ t∈a.aL,t∈ks):a.ev (eB fr ks)=a.ev fr:=by
 cases a with
 | t n=>exact rO (h n (by simp [A.aL]))
 | k v=>rfl
theorem ma:∀ {l:List A},(∀ t∈oH l,t∈ks)->eva (eB fr ks) l=eva fr l
 | [],h=>rfl
 | a::l,h=>by
  simp only [eva];rw [qp (fun t ht=>h t (bW _ ht)),ma (fun t ht=>h t (bC _ ht))]
theorem wU:∀ {l:List (Nat×Nat×A)},(∀ t∈xC l,t∈ks)->evq (eB fr ks) l=evq fr l
 | [],h=>rfl
 | (_,_,a)::l,h=>by
  simp only [evq];rw [qp (fun t ht=>h t (bW _ ht)),wU (fun t ht=>h t (bC _ ht))]
theorem n9 {a:Option A} (h:∀ t∈qJ a,t∈ks):evo (eB fr ks) a=evo fr a:=by
 cases a with
 | none=>rfl
 | some a=>simp only [evo];rw [qp h]
end
theorem AM (op:I) (fr:Fr) (σ:Ob) (nx:Nat):sem op (eB fr (lC op)) σ nx=sem op fr σ nx:=by
 have e1:∀ {a:A} {p:List Nat},(∀ t∈a.aL,t∈p)->a.ev (eB fr p)=a.ev fr:=fun h=>qp h
 cases op with
 | build z ps=>simp only [sem,lC];rw [wU (fun t h=>h)]
 | lit w as m=>simp only [sem,lC];rw [ma (fun t h=>h)]
 | call f as=>simp only [sem,lC];rw [ma (fun t h=>h)]
 | r0 f as=>simp only [sem,lC];rw [e1 (fun t h=>bW _ h),ma (fun t h=>bC _ h)]
 | mkf f as=>simp only [sem,lC]<;>(try rw [ma (fun t h=>h)])
 | pick c a b=>simp only [sem,lC];rw [e1 (fun t h=>bW _ h),e1 (fun t h=>bC _ (bW _ h)),e1 (fun t h=>bC _ (bC _ h))]
 | wh kd c a b=>simp only [sem,lC];rw [e1 (fun t h=>bW _ h),e1 (fun t h=>bC _ (bW _ h)),e1 (fun t h=>bC _ (bC _ h))]
 | xB a lo hi=>simp only [sem,lC];rw [e1 (fun t h=>bW _ h),n9 (fun t h=>bC _ (bW _ h)),n9 (fun t h=>bC _ (bC _ h))]
 | slc w a lo hi=>simp only [sem,lC];rw [e1 (fun t h=>bW _ h),n9 (fun t h=>bC _ (bW _ h)),n9 (fun t h=>bC _ (bC _ h))]
 | _=>simp only [sem,lC]<;>(first | rfl | (rw [e1 (fun t h=>h)];done) | (rw [e1 (fun t h=>bW _ h),e1 (fun t h=>bC _ h)];done))
structure Ent where
 fr:Fr
 σ:Ob
 nx:Nat
 eff:Eff
 ran:Bool
def pR (fr fr1:Fr):Prop:=∀ e F t v,b6 e F (cP fr t) v->b6 e F (cP fr1 t) v
def kA (fr:Fr) (b:Bool):Option (Nat×Bool)->Prop
 | none=>b=true
 | some (s,w)=>cP fr s=(if b=w then .tt else .ff)\/(b=false/\cP fr s= .tup [])
inductive Run (C:Ctx):List Oper->List Ir->Trc->Fr->Ob->Nat->List Ent->Trc->Fr->Ob->Nat->Prop
 | nil {tr fr σ nx}:Run C [] [] tr fr σ nx [] tr fr σ nx
 | ran {o l i is tr fr fr1 σ nx eff es tr' fr' σ' nx'} (h1:pR fr fr1) (hg:kA fr1 true i.g) (h2:Good C o (eB fr1 (lC i.op)) nx eff) (h3:mY σ eff)
   (rest:Run C l is (jf tr i.anc σ eff.pt eff.rd) (fq fr1 i.dst eff.v) (patch σ eff.pt) (nx+eff.n) es tr' fr' σ' nx'):Run C (o::l) (i::is) tr fr σ nx (⟨fr1,σ,nx,eff,true⟩::es) tr' fr' σ' nx'
 | skip {o l i is tr fr fr1 σ nx es tr' fr' σ' nx'} (h1:pR fr fr1) (hg:kA fr1 false i.g)
   (rest:Run C l is tr (fq fr1 i.dst (.tup [])) σ nx es tr' fr' σ' nx'):Run C (o::l) (i::is) tr fr σ nx (⟨fr1,σ,nx,{v:= .tup []},false⟩::es) tr' fr' σ' nx'
theorem tj {C:Ctx} {ops:Array Oper} {nt:Nat} {K:Fr->Ob->Nat->Prop}:∀ (l:List Oper) (is:List Ir),iZ C.P ops nt l is=true->∀ (tr:Trc) (fr:Fr) (σ:Ob) (nx:Nat),dt C is tr fr σ nx K ->
  ∃ es tr' fr' σ' nx',Run C l is tr fr σ nx es tr' fr' σ' nx'/\pw tr' (K fr' σ' nx')
 | [],[],_,tr,fr,σ,nx,hk=>⟨[],tr,fr,σ,nx,.nil,hk⟩
 | o::l,i::is,hok,tr,fr,σ,nx,hk=>by
  simp only [iZ,xK,ag,ak] at hok;obtain ⟨⟨⟨⟨hd,hdn⟩,hg⟩,hi⟩,hrest⟩:=hok;have ih:=tj (K:=K) l is hrest;have hyes:∀ fr1,pR fr fr1->kA fr1 true i.g->wpR C σ nx (fun e=>dt C is (jf tr i.anc σ e.pt e.rd) (fq fr1 i.dst e.v) (patch σ e.pt) (nx+e.n) K) (sem i.op fr1 σ nx) ->
    ∃ es tr' fr' σ' nx',Run C (o::l) (i::is) tr fr σ nx es tr' fr' σ' nx'/\pw tr' (K fr' σ' nx'):=by
   intro fr1 h1 h2 hk;have hk':=Ap (vO i.op fr1 σ nx) hk;rw [<- AM] at hk';obtain ⟨eff,⟨h3,h4⟩,h5⟩:=vP (o:=o) hi hk';obtain ⟨es,tr',fr',σ',nx',h6,h7⟩:=ih _ _ _ _ h3;exact ⟨_,_,_,_,_,.ran h1 h2 h5 h4 h6,h7⟩
  have hno:∀ fr1,pR fr fr1->kA fr1 false i.g->dt C is tr (fq fr1 i.dst (.tup [])) σ nx K ->
    ∃ es tr' fr' σ' nx',Run C (o::l) (i::is) tr fr σ nx es tr' fr' σ' nx'/\pw tr' (K fr' σ' nx'):=by
   intro fr1 h1 h2 hk;obtain ⟨es,tr',fr',σ',nx',h6,h7⟩:=ih _ _ _ _ hk;exact ⟨_,_,_,_,_,.skip h1 h2 h6,h7⟩
  have hsame:pR fr fr:=fun _ _ _ _ h=>h
  have hadd:∀ (s:Nat) (x:Bool),cP fr s= .d (.bool x)->pR fr ((s,if x=true then .tt else .ff)::fr):=by
   intro s x hx e F t v hv;simp only [cP,jk];by_cases ht:s=t
   ·subst ht;rw [hx] at hv;have:=bj.gz hv;subst this;cases x<;>simp<;>rfl
   ·simp_all
  simp only [dt] at hk;cases hgi:i.g with
  | none =>
   simp only [hgi,gd] at hk;exact hyes fr hsame (by rw [hgi];rfl) hk
  | some sb =>
   obtain ⟨s,w⟩:=sb;simp only [hgi,gd] at hk;cases hf:cP fr s with
   | tt =>
    rw [hf] at hk;cases w with
    | true=>exact hyes fr hsame (by rw [hgi];simp [kA,hf]) hk
    | false=>exact hno fr hsame (by rw [hgi];simp [kA,hf]) hk
   | ff =>
    rw [hf] at hk;cases w with
    | false=>exact hyes fr hsame (by rw [hgi];simp [kA,hf]) hk
    | true=>exact hno fr hsame (by rw [hgi];simp [kA,hf]) hk
   | d z =>
    rw [hf] at hk;cases z with
    | bool x =>
     by_cases hxw:x=w
     ·subst hxw;have:=hk.1 rfl;refine hyes ((s,bif x then .tt else .ff)::fr) ?_ ?_ this
      ·grind
      ·simp [hgi,kA,cP,jk]
     ·have hxn:x=!w:=by cases x<;>cases w<;>simp_all
      have:=hk.2 hxn;refine hno ((s,bif w then .ff else .tt)::fr) ?_ ?_ this
      ·grind
      ·rw [hgi];cases w<;>simp [kA,cP,jk]
    | _=>exact hk.elim
   | tup l =>
    rw [hf] at hk;cases l with
    | cons y l=>exact hk.elim
    | nil=>exact hno fr hsame (by rw [hgi];simp [kA,hf]) hk
   | _=>rw [hf] at hk;exact hk.elim
 | [],_::_,hok,_,_,_,_,_=>by simp [iZ] at hok
 | _::_,[],hok,_,_,_,_,_=>by simp [iZ] at hok
def qF:Ir->Ent->Nat->Option V:=fun i e t=>if i.dst=some t then some e.eff.v else none
open Classical in
noncomputable def lD (e:Ent):Nat->Option (Option O):=fun k=>if cH (look e.σ) e.eff.pt k=look e.σ k then none else some (cH (look e.σ) e.eff.pt k)
def iF (is:List Ir) (es:List Ent):List (Nat->Option V):=List.zipWith qF is es
noncomputable def im (es:List Ent):List (Nat->Option (Option O)):=es.map lD
theorem yD (e:Ent):ov (look e.σ) (lD e)=look (patch e.σ e.eff.pt):=by
 funext k
 rw [fB];unfold ov lD
 grind
theorem yE (fr:Fr) (i:Ir) (e:Ent) (t:Nat):ov (cP fr) (qF i e) t=cP (fq fr i.dst e.eff.v) t:=by
 unfold ov qF;cases hd:i.dst with
 | none=>simp [fq]
 | some d =>
  simp only [fq,cP,jk,aw]
  grind
def lt (j:Nat):Nat->Bool:=fun n=>decide (n < j)
theorem jQ {α:Type}:∀ (l:List (Nat->Option α)) (k:Nat) (g:Nat->α),fold l (lt 0) k g=g
 | [],k,g=>rfl
 | τ::l,k,g=>by simp only [fold,lt,Nat.not_lt_zero,decide_false,bB,aV];exact jQ l _ _
theorem e7 {α:Type} (τ:Nat->Option α) (l:List (Nat->Option α)) (j:Nat) (g:Nat->α):fold (τ::l) (lt (j+1)) 0 g=fold l (lt j) 0 (ov g τ):=by
 simp only [fold,lt,Nat.zero_lt_succ,decide_true,bo,rL,aW];congr 1
 grind [lt]
theorem Run.len {C os is tr fr σ nx es tr' fr' σ' nx'} (h:Run C os is tr fr σ nx es tr' fr' σ' nx'):os.length=es.length/\is.length=es.length:=by
 induction h with
 | nil=>simp
 | ran _ _ _ _ _ ih=>simp [ih]
 | skip _ _ _ ih=>simp [ih]
theorem Run.sto {C os is tr fr σ nx es tr' fr' σ' nx'} (h:Run C os is tr fr σ nx es tr' fr' σ' nx') :
  (∀ j e,es[j]?=some e->fold (im es) (lt j) 0 (look σ)=look e.σ)/\fold (im es) (lt es.length) 0 (look σ)=look σ':=by
 induction h with
 | nil=>exact ⟨fun j e h=>by simp at h,rfl⟩
 | @ran o l i is tr fr fr1 σ nx eff es tr' fr' σ' nx' h1 hg h2 h3 rest ih =>
  have hov:=yD ⟨fr1,σ,nx,eff,true⟩;refine ⟨fun j e h=>?_,?_⟩
  ·cases j with
   | zero=>simp only [az,aw] at h;subst h;exact jQ _ _ _
   | succ j =>
    simp_all [im,cT,e7,ih.1]
  ·simp_all [im,cT,aT,e7,ih.2]
 | @skip o l i is tr fr fr1 σ nx es tr' fr' σ' nx' h1 hg rest ih =>
  have hov:=yD ⟨fr1,σ,nx,{v:= .tup []},false⟩;refine ⟨fun j e h=>?_,?_⟩
  ·cases j with
   | zero=>simp only [az,aw] at h;subst h;exact jQ _ _ _
   | succ j =>
    simp only [im,cT,e7];rw [show ov (look σ) (lD ⟨fr1,σ,nx,{v:= .tup []},false⟩)=_ from hov];exact ih.1 j e (by simpa using h)
  ·simp only [im,cT,aT,e7];rw [show ov (look σ) (lD ⟨fr1,σ,nx,{v:= .tup []},false⟩)=_ from hov];exact ih.2
def An (g g':Nat->V):Prop:=∀ e F t v,b6 e F (g t) v->b6 e F (g' t) v
theorem l8:∀ (l:List (Nat->Option V)) (S:Nat->Bool) (k:Nat) {g g':Nat->V},An g g'->An (fold l S k g) (fold l S k g')
 | [],S,k,g,g',h=>h
 | τ::l,S,k,g,g',h=>by
  simp only [fold];refine l8 l S (k+1) ?_;by_cases hs:S k=true
  ·simp only [hs,bo];intro e F t v hv;unfold ov at hv ⊢;cases ht:τ t with
   | none=>rw [ht] at hv;exact h _ _ _ _ hv
   | some x=>rw [ht] at hv;exact hv
  ·simp_all
theorem wR {fr1:Fr} (h:pR fr fr1) (d:Option Nat) (v:V):pR (fq fr d v) (fq fr1 d v):=by
 cases d with
 | none=>exact h
 | some d =>
  intro e F t x hx;simp only [fq,cP,jk] at hx ⊢;by_cases ht:d=t
  ·simp_all
  ·simp only [ht,decide_false,cond_false] at hx ⊢;exact h _ _ _ _ hx
theorem Run.frm {C os is tr fr σ nx es tr' fr' σ' nx'} (h:Run C os is tr fr σ nx es tr' fr' σ' nx') :
  (∀ j e,es[j]?=some e->An (fold (iF is es) (lt j) 0 (cP fr)) (cP e.fr))/\An (fold (iF is es) (lt es.length) 0 (cP fr)) (cP fr'):=by
 induction h with
 | nil=>exact ⟨fun j e h=>by simp at h,fun _ _ _ _ h=>h⟩
 | @ran o l i is tr fr fr1 σ nx eff es tr' fr' σ' nx' h1 hg h2 h3 rest ih =>
  have hov:An (ov (cP fr) (qF i ⟨fr1,σ,nx,eff,true⟩)) (cP (fq fr1 i.dst eff.v)):=by
   intro e F t v hv;rw [yE] at hv;exact wR h1 _ _ _ _ _ _ hv
  refine ⟨fun j e h=>?_,?_⟩
  ·cases j with
   | zero =>
    simp only [az,aw] at h;subst h;rw [jQ];exact h1
   | succ j =>
    simp only [iF,List.zipWith_cons_cons,e7];intro e' F t v hv;exact ih.1 j e (by simpa using h) _ _ _ _ (l8 _ _ _ hov _ _ _ _ hv)
  ·simp only [iF,List.zipWith_cons_cons,aT,e7];intro e' F t v hv;exact ih.2 _ _ _ _ (l8 _ _ _ hov _ _ _ _ hv)
 | @skip o l i is tr fr fr1 σ nx es tr' fr' σ' nx' h1 hg rest ih =>
  have hov:An (ov (cP fr) (qF i ⟨fr1,σ,nx,{v:= .tup []},false⟩)) (cP (fq fr1 i.dst (.tup []))):=by
   intro e F t v hv;rw [yE] at hv;exact wR h1 _ _ _ _ _ _ hv
  refine ⟨fun j e h=>?_,?_⟩
  ·cases j with
   | zero =>
    simp only [az,aw] at h;subst h;rw [jQ];exact h1
   | succ j =>
    simp only [iF,List.zipWith_cons_cons,e7];intro e' F t v hv;exact ih.1 j e (by simpa using h) _ _ _ _ (l8 _ _ _ hov _ _ _ _ hv)
  ·simp only [iF,List.zipWith_cons_cons,aT,e7];intro e' F t v hv;exact ih.2 _ _ _ _ (l8 _ _ _ hov _ _ _ _ hv)
theorem Run.nms {C os is tr fr σ nx es tr' fr' σ' nx'} (h:Run C os is tr fr σ nx es tr' fr' σ' nx') :
  nx<=nx'/\(∀ (j:Nat) e,es[j]?=some e->nx<=e.nx/\e.nx+e.eff.n<=nx')/\(∀ (j k:Nat) e e',j < k->es[j]?=some e->es[k]?=some e'->e.nx+e.eff.n<=e'.nx):=by
 induction h with
 | nil=>exact ⟨al _,fun j e h=>by simp at h,fun j k e e' _ h=>by simp at h⟩
 | @ran o l i is tr fr fr1 σ nx eff es tr' fr' σ' nx' h1 hg h2 h3 rest ih =>
  obtain ⟨i1,i2,i3⟩:=ih;refine ⟨by omega,fun j e h=>?_,fun j k e e' hlt h h'=>?_⟩
  ·cases j with
   | zero=>simp only [az,aw] at h;subst h;exact ⟨al _,i1⟩
   | succ j=>have:=i2 j e (by simpa using h);omega
  ·cases k with
   | zero=>omega
   | succ k =>
    grind
 | @skip o l i is tr fr fr1 σ nx es tr' fr' σ' nx' h1 hg rest ih =>
  obtain ⟨i1,i2,i3⟩:=ih;refine ⟨by omega,fun j e h=>?_,fun j k e e' hlt h h'=>?_⟩
  ·cases j with
   | zero=>simp only [az,aw] at h;subst h;exact ⟨al _,i1⟩
   | succ j=>have:=i2 j e (by simpa using h);omega
  ·cases k with
   | zero=>omega
   | succ k =>
    grind
theorem Run.at {C os is tr fr σ nx es tr' fr' σ' nx'} (h:Run C os is tr fr σ nx es tr' fr' σ' nx'):∀ (j:Nat) o i e,os[j]?=some o->is[j]?=some i->es[j]?=some e ->
  kA e.fr e.ran i.g/\(e.ran=true->Good C o (eB e.fr (lC i.op)) e.nx e.eff)/\mY e.σ e.eff/\(e.ran=false->e.eff={v:= .tup []}):=by
 induction h with
 | nil=>intro j o i e h;simp at h
 | @ran o l i is tr fr fr1 σ nx eff es tr' fr' σ' nx' h1 hg h2 h3 rest ih =>
  grind
 | @skip o l i is tr fr fr1 σ nx es tr' fr' σ' nx' h1 hg rest ih =>
  intro j o' i' e ho hi he;cases j with
  | zero =>
   simp only [az,aw] at ho hi he;subst ho;subst hi;subst he;exact ⟨hg,(fun h=>by cases h),(fun p hp=>by simp at hp),fun _=>rfl⟩
  | succ j=>exact ih j o' i' e (by simpa using ho) (by simpa using hi) (by simpa using he)
def acc (e:Ent):List Nat:=pW e.eff.rd++mM e.eff.pt
def efl (e:Ent):Prop:=¬(e.eff.rd=[]/\e.eff.pt=[])
def Co (ix:Nat) (as:List Nat) (e:Ent):Te:=⟨ix,as,pW e.eff.rd,mP e.σ e.eff.pt⟩
theorem jc:∀ {a b:List Prop},ew (a++b)->ew a/\ew b
 | [],b,h=>⟨trivial,h⟩
 | p::a,b,h=>⟨⟨h.1,(jc h.2).1⟩,(jc h.2).2⟩
theorem rV {e:Te}:∀ {l:List Te},ew (rW e l)->∀ d∈l,ew (tU d e)
 | [],_,d,hd=>by cases hd
 | x::l,h,d,hd=>by
  have:=jc (a:=tU x e) (b:=rW e l) h;rcases aQ.1 hd with rfl | hd
  ·exact this.1
  ·exact rV this.2 d hd
theorem Run.bad {C os is tr fr σ nx es tr' fr' σ' nx'} (h:Run C os is tr fr σ nx es tr' fr' σ' nx'):tr= .bad->tr'= .bad:=by
 induction h with
 | nil=>exact id
 | ran h1 hg h2 h3 rest ih=>intro h;subst h;exact ih rfl
 | skip h1 hg rest ih=>exact ih
theorem zc {l:List Te} {anc:List Nat} {pt:Pt} :
  (rd=[]/\pt=[]/\jf (.on l) anc σ pt rd= .on l)\/(¬(rd=[]/\pt=[])/\((∃ i as,anc=i::as/\jf (.on l) anc σ pt rd= .on (⟨i,as,pW rd,mP σ pt⟩::l))\/jf (.on l) anc σ pt rd= .bad)):=by
 cases rd<;>cases pt<;>cases anc<;>simp [jf]
theorem Run.Ij {C os is tr fr σ nx es tr' fr' σ' nx'} (h:Run C os is tr fr σ nx es tr' fr' σ' nx'):∀ l,tr= .on l->∀ l',tr'= .on l'->ew (pO l') ->
  ew (pO l)/\∀ (j:Nat) i e,is[j]?=some i->es[j]?=some e->efl e->∃ ix as,i.anc=ix::as/\(∀ d∈l,ew (tU d (Co ix as e))) /\
   ∀ (j':Nat) i' e' ix' as',j' < j->is[j']?=some i'->es[j']?=some e'->efl e'->i'.anc=ix'::as'->ew (tU (Co ix' as' e') (Co ix as e)):=by
 induction h with
 | nil=>intro l hl l' hl' hc;rw [hl] at hl';cases hl';exact ⟨hc,fun j i e h=>by simp at h⟩
 | @ran o l0 i is tr fr fr1 σ nx eff es tr' fr' σ' nx' h1 hg h2 h3 rest ih =>
  intro l hl l' hl' hc;subst hl;rcases zc (l:=l) (anc:=i.anc) (σ:=σ) (pt:=eff.pt) (rd:=eff.rd) with ⟨hr,hp,ht⟩ | ⟨hne,⟨ix,as,ha,ht⟩ | ht⟩
  ·obtain ⟨q1,q2⟩:=ih l ht l' hl' hc;refine ⟨q1,fun j i' e hi he hef=>?_⟩;cases j with
   | zero=>simp only [az,aw] at he;subst he;exact absurd ⟨hr,hp⟩ hef
   | succ j =>
    obtain ⟨ix,as,r1,r2,r3⟩:=q2 j i' e (by simpa using hi) (by simpa using he) hef;refine ⟨ix,as,r1,r2,fun j' i2 e2 ix2 as2 hlt hi2 he2 hef2 ha2=>?_⟩;cases j' with
    | zero=>simp only [az,aw] at he2;subst he2;exact absurd ⟨hr,hp⟩ hef2
    | succ j'=>exact r3 j' i2 e2 ix2 as2 (by omega) (by simpa using hi2) (by simpa using he2) hef2 ha2
  ·obtain ⟨q1,q2⟩:=ih _ ht l' hl' hc;obtain ⟨q3,q4⟩:=jc (a:=rW _ l) (b:=pO l) q1;refine ⟨q4,fun j i' e hi he hef=>?_⟩;cases j with
   | zero =>
    simp only [az,aw] at hi he;subst hi;subst he;exact ⟨ix,as,ha,rV q3,fun j' _ _ _ _ hlt=>by omega⟩
   | succ j =>
    obtain ⟨ix3,as3,r1,r2,r3⟩:=q2 j i' e (by simpa using hi) (by simpa using he) hef;refine ⟨ix3,as3,r1,fun d hd=>r2 d (aM _ hd),fun j' i2 e2 ix2 as2 hlt hi2 he2 hef2 ha2=>?_⟩;cases j' with
    | zero =>
     simp only [az,aw] at hi2 he2;subst hi2;subst he2;rw [ha] at ha2;cases ha2;exact r2 _ (List.mem_cons_self ..)
    | succ j'=>exact r3 j' i2 e2 ix2 as2 (by omega) (by simpa using hi2) (by simpa using he2) hef2 ha2
  ·rw [rest.bad ht] at hl';cases hl'
 | @skip o l0 i is tr fr fr1 σ nx es tr' fr' σ' nx' h1 hg rest ih =>
  intro l hl l' hl' hc;obtain ⟨q1,q2⟩:=ih l hl l' hl' hc;refine ⟨q1,fun j i' e hi he hef=>?_⟩;cases j with
  | zero=>simp only [az,aw] at he;subst he;exact absurd ⟨rfl,rfl⟩ hef
  | succ j =>
   obtain ⟨ix,as,r1,r2,r3⟩:=q2 j i' e (by simpa using hi) (by simpa using he) hef;refine ⟨ix,as,r1,r2,fun j' i2 e2 ix2 as2 hlt hi2 he2 hef2 ha2=>?_⟩;cases j' with
   | zero=>simp only [az,aw] at he2;subst he2;exact absurd ⟨rfl,rfl⟩ hef2
   | succ j'=>exact r3 j' i2 e2 ix2 as2 (by omega) (by simpa using hi2) (by simpa using he2) hef2 ha2
theorem gI {k:Nat}:∀ {l:Pt} {g:Sto},(∀ p∈l,p.1≠k)->cH g l k=g k
 | [],g,h=>rfl
 | (i,x)::l,g,h=>by
  simp only [cH];rw [gI (fun p hp=>h p (aM _ hp))];have:=h (i,x) (List.mem_cons_self ..)
  grind [upd]
theorem tA {k:Nat}:∀ {l:Pt} {g g':Sto},(∃ p∈l,p.1=k)->cH g l k=cH g' l k
 | [],g,g',h=>by obtain ⟨p,hp,_⟩:=h;cases hp
 | (i,x)::l,g,g',h=>by
  simp only [cH];by_cases hl:∃ p∈l,p.1=k
  ·exact tA hl
  ·have hl':∀ p∈l,p.1≠k:=fun p hp hh=>hl ⟨p,hp,hh⟩
   rw [gI hl',gI hl'];obtain ⟨p,hp,hk⟩:=h;rcases aQ.1 hp with rfl | hp
   ·simp_all [upd,hk]
   ·grind
theorem rk {α:Type} {k:Nat}:∀ {l:List (Nat×α)},k∈mM l↔∃ p∈l,p.1=k
 | []=>by simp [mM]
 | p::l=>by
  simp only [mM,aQ,rk (l:=l),exists_eq_or_imp]
  grind
theorem wm {k:Nat}:∀ {l:List (Nat×O)},k∈pW l↔∃ p∈l,p.1=k
 | []=>by simp [pW]
 | p::l=>by
  simp only [pW,aQ,wm (l:=l),exists_eq_or_imp]
  grind
theorem rB (σ:Ob):∀ (l:Pt),mM (mP σ l)=mM l
 | []=>rfl
 | (i,x)::l=>by simp only [mP,mM,rB σ l]
theorem um {is:List Nat}:∀ {l:List (Nat×Prop)},ew (sel l is)->∀ p∈l,p.1∈is->p.2
 | [],_,p,hp,_=>by cases hp
 | (i,q)::l,h,p,hp,hi=>by
  simp only [sel] at h;cases hm:kh i is with
  | true =>
   rw [hm] at h;rcases aQ.1 hp with rfl | hp
   ·exact h.1
   ·exact um h.2 p hp hi
  | false =>
   rw [hm] at h;rcases aQ.1 hp with rfl | hp
   ·rw [(ja _ _).2 hi] at hm;cases hm
   ·exact um h p hp hi
theorem ti {σ:Ob}:∀ {l:Pt} {p:Nat×Option O},p∈l->(p.1,look σ p.1=p.2)∈mP σ l
 | (i,x)::l,p,h=>by
  rcases aQ.1 h with rfl | h
  ·exact List.mem_cons_self ..
  ·exact aM _ (ti h)
theorem sY {e:Ent} {is:List Nat} (h:ew (sel (mP e.σ e.eff.pt) is)) (hk:k∈is):lD e k=none:=by
 unfold lD;by_cases hd:∃ p∈e.eff.pt,p.1=k
 ·rcases fZ e.eff.pt (look e.σ) k with ⟨h1,h2⟩ | ⟨p,h1,h2,h3⟩
  ·rw [aj h1]
  ·have:=um h _ (ti h1) (by rw [h2];exact hk);simp_all
 ·rw [aj (gI (fun p hp hh=>hd ⟨p,hp,hh⟩))]
theorem qE {e:Ent} (h:(lD e k).isSome=true):k∈mM e.eff.pt:=by
 rw [rk];by_cases hd:∃ p∈e.eff.pt,p.1=k
 ·exact hd
 ·unfold lD at h;rw [aj (gI (fun p hp hh=>hd ⟨p,hp,hh⟩))] at h;cases h
theorem AU {e:Ent} {g:Sto} (h:∀ k,k∈mM e.eff.pt->g k=look e.σ k):cH g e.eff.pt=ov g (lD e):=by
 funext k
 unfold ov lD;by_cases hd:∃ p∈e.eff.pt,p.1=k
 ·rw [tA (g':=look e.σ) hd];by_cases hs:cH (look e.σ) e.eff.pt k=look e.σ k
  ·rw [aj hs,hs];exact (h k (rk.2 hd)).symm
  ·simp_all
 ·have hd':∀ p∈e.eff.pt,p.1≠k:=fun p hp hh=>hd ⟨p,hp,hh⟩
  rw [gI hd',aj (gI hd')];rfl
def lH (o:Oper):List Nat:=(o.after.toList.filter (Region.binds .any ·)).map (·.on)
def tD:Nat->List Oper->Bool
 | _,[]=>true
 | k,o::l=>((lH o).all (Nat.blt · k))&&tD (k+1) l
def nA (is:List Ir) (b:Nat):List Nat:=match is[b]? with
 | some i=>match i.anc with
  | []=>[]
  | _::as=>as
 | none=>[]
def tC (is:List Ir):Nat->List Oper->List Ir->Bool
 | k,o::l,i::m=>(match i.anc with
  | []=>true
  | ix::as=>Nat.beq ix k&&as.all fun a=>kh a (lH o) || (lH o).any fun b=>kh a (nA is b))&&tC is (k+1) l m
 | _,_,_=>true
def vB (i:Ir):List Nat:=match i.g with
 | none=>lC i.op
 | some (s,_)=>s::lC i.op
def kK (t:Nat):Nat->List Ir->List Nat
 | _,[]=>[]
 | k,i::l=>match i.dst with
  | some d=>bif Nat.beq d t then k::kK t (k+1) l else kK t (k+1) l
  | none=>kK t (k+1) l
def wb (is:List Ir):Nat->List Oper->List Ir->Bool
 | k,o::l,i::m=>((vB i).all fun t=>(kK t 0 is).all fun k=>kh k (lH o) || kh k (nA [i] 0))&&wb is (k+1) l m
 | _,_,_=>true
def pZ:List Ir->List Nat
 | []=>[]
 | i::l=>match i.dst with
  | some d=>d::pZ l
  | none=>pZ l
def okD (P:Program) (ops:Array Oper) (nt:Nat) (is:List Ir):Bool :=
 P.follows .mixedOrders&&iZ P ops nt ops.toList is&&tD 0 ops.toList&&tC is 0 ops.toList is&&wb is 0 ops.toList is&&kG (pZ is)
theorem kz:∀ {l:List Oper} {k:Nat},tD k l=true->∀ (j:Nat) o,l[j]?=some o->∀ b∈lH o,b < k+j
 | [],k,h,j,o,ho,b,hb=>by simp at ho
 | o::l,k,h,j,o',ho,b,hb=>by
  simp only [tD,ag,List.all_eq_true,Nat.blt_eq] at h;cases j with
  | zero=>simp only [az,aw] at ho;subst ho;exact h.1 b hb
  | succ j=>have:=kz h.2 j o' (by simpa using ho) b hb;omega
theorem qW {is:List Ir}:∀ {l:List Oper} {m:List Ir} {k:Nat},tC is k l m=true->∀ (j:Nat) o i ix as,l[j]?=some o->m[j]?=some i->i.anc=ix::as->ix=k+j/\∀ a∈as,a∈lH o\/∃ b∈lH o,a∈nA is b
 | [],m,k,h,j,o,i,ix,as,ho,hi,ha=>by simp at ho
 | o::l,[],k,h,j,o',i,ix,as,ho,hi,ha=>by simp at hi
 | o::l,i::m,k,h,j,o',i',ix,as,ho,hi,ha=>by
  simp only [tC,ag] at h;cases j with
  | zero =>
   simp_all [az,aw,ha,ag,jk,ak,List.all_eq_true,Bool.or_eq_true,ja,List.any_eq_true]
  | succ j =>
   have:=qW h.2 j o' i' ix as (by simpa using ho) (by simpa using hi) ha
   grind
theorem qw {t:Nat}:∀ {l:List Ir} {k:Nat} (j:Nat) i,l[j]?=some i->i.dst=some t->k+j∈kK t k l
 | [],k,j,i,h,hd=>by simp at h
 | x::l,k,0,i,h,hd=>by
  simp_all [az,aw,kK,hd,jk]
 | x::l,k,j+1,i,h,hd=>by
  have:=qw (l:=l) (k:=k+1) j i (by simpa using h) hd;have e:k+1+j=k+(j+1):=by omega
  rw [e] at this
  grind [kK,List.mem_cons_of_mem]
theorem qU {is:List Ir}:∀ {l:List Oper} {m:List Ir} {k:Nat},wb is k l m=true->∀ (j:Nat) o i,l[j]?=some o->m[j]?=some i->∀ t∈vB i,∀ (k':Nat) i',is[k']?=some i'->i'.dst=some t->k'∈lH o\/k'∈nA [i] 0
 | [],m,k,h,j,o,i,ho,hi,t,ht,k',i',hk',hd=>by simp at ho
 | o::l,[],k,h,j,o',i,ho,hi,t,ht,k',i',hk',hd=>by simp at hi
 | o::l,i::m,k,h,j,o',i2,ho,hi,t,ht,k',i',hk',hd=>by
  simp only [wb,ag] at h;cases j with
  | zero =>
   simp only [az,aw] at ho hi;subst ho;subst hi;have h1:=h.1;simp only [List.all_eq_true,Bool.or_eq_true,ja] at h1;have hw:=qw (k:=0) k' i' hk' hd
   grind
  | succ j=>exact qU h.2 j o' i2 (by simpa using ho) (by simpa using hi) t ht k' i' hk' hd
theorem vd:∀ {is:List Ir} (j:Nat) i t,is[j]?=some i->i.dst=some t->t∈pZ is
 | [],j,i,t,h,_=>by simp at h
 | x::l,0,i,t,h,hd=>by
  simp_all [az,aw,pZ,hd]
 | x::l,j+1,i,t,h,hd=>by
  have:=vd (is:=l) j i t (by simpa using h) hd
  grind [pZ,List.mem_cons_of_mem]
theorem wX:∀ {is:List Ir},kG (pZ is)=true->∀ (j k:Nat) i i' t,is[j]?=some i->is[k]?=some i'->i.dst=some t->i'.dst=some t->j=k
 | [],hd,j,k,i,i',t,h,_,_,_=>by simp at h
 | x::l,hd,j,k,i,i',t,h,h',ht,ht'=>by
  have tail:kG (pZ l)=true/\(∀ d,x.dst=some d->¬ d∈pZ l):=by
   simp only [pZ] at hd;split at hd
   ·rename_i d hx;simp only [kG] at hd;cases hm:kh d (pZ l) with
    | true=>rw [hm] at hd;cases hd
    | false =>
     rw [hm] at hd;refine ⟨hd,fun d' hd' hmem=>?_⟩;rw [hx] at hd';cases hd';rw [(ja _ _).2 hmem] at hm;cases hm
   ·simp_all
  cases j with
  | zero =>
   simp only [az,aw] at h;subst h;cases k with
   | zero=>rfl
   | succ k=>exact absurd (vd k i' t (by simpa using h') ht') (tail.2 t ht)
  | succ j =>
   cases k with
   | zero =>
    simp only [az,aw] at h';subst h';exact absurd (vd j i t (by simpa using h) ht) (tail.2 t ht')
   | succ k=>rw [wX tail.1 j k i i' t (by simpa using h) (by simpa using h') ht ht']
section
variable {C:Ctx} {m nt:Nat} {ds:List Deferred} {e0:Emb} {F0:Fz} {g0:Sto} {w0:World} {ops:Array Oper} {is:List Ir} {es:List Ent} {fr fr':Fr} {σ σ':Ob} {nx nx':Nat} {l':List Te}
def xr (ops:Array Oper) (S:Nat->Bool):Prop:=∀ j o,S j=true->ops[j]?=some o->∀ b∈lH o,S b=true
def Inv (C:Ctx) (m nt:Nat) (ds:List Deferred) (e0:Emb) (F0:Fz) (g0:Sto) (w0:World) (is:List Ir) (es:List Ent) (fr:Fr) (σ:Ob) (nx:Nat) (S:Nat->Bool) (a:Act) (w:World):Prop :=
 ∃ e F,(∀ t,b6 e F (fold (iF is es) S 0 (cP fr) t) (a.tmps.getD t undef))/\Rel C e F (fold (im es) S 0 (look σ)) w /\
  (∀ k,nx<=k->(∀ (j:Nat) ent,es[j]?=some ent->S j=true->¬(ent.nx<=k/\k < ent.nx+ent.eff.n))->e k=none) /\
  a.tmps.size=nt/\a.defers=ds/\Ext m e0 F0 g0 w0 e F (fold (im es) S 0 (look σ)) w/\m<=nx
theorem vo (hanc:tC is 0 ops.toList is=true) (haft:tD 0 ops.toList=true) (hS:xr ops S) :
  ∀ (j:Nat) o i ix as,ops[j]?=some o->is[j]?=some i->i.anc=ix::as->(∀ b∈lH o,S b=true)->∀ a∈as,S a=true:=by
 intro j;induction j using Nat.strongRecOn with
 | _ j ih =>
  intro o i ix as ho hi ha hb a haa;have ho':ops.toList[j]?=some o:=by simpa using ho
  rcases (qW hanc j o i ix as ho' hi ha).2 a haa with h | ⟨b,h1,h2⟩
  ·exact hb a h
  ·have hlt:=kz haft j o ho' b h1;unfold nA at h2;cases hib:is[b]? with
   | none=>rw [hib] at h2;cases h2
   | some ib =>
    rw [hib] at h2;dsimp only at h2;cases hiba:ib.anc with
    | nil=>rw [hiba] at h2;cases h2
    | cons x xs =>
     rw [hiba] at h2;have hlen:j < ops.size:=(Array.getElem?_eq_some_iff.1 ho).1;have hob:ops[b]?=some ops[b]:=dL (by omega);exact ih b (by omega) _ ib x xs hob hib hiba (hS b _ (hb b h1) hob) a h2
structure Std (C:Ctx) (nt:Nat) (ops:Array Oper) (is:List Ir) (es:List Ent) (fr:Fr) (σ:Ob) (nx:Nat) (fr':Fr) (σ':Ob) (nx':Nat) (l':List Te):Prop where
 ok:okD C.P ops nt is=true
 run:Run C ops.toList is (.on []) fr σ nx es (.on l') fr' σ' nx'
 cf:ew (pO l')
variable (H:Std C nt ops is es fr σ nx fr' σ' nx' l')
include H
theorem Std.parts:C.P.follows .mixedOrders=true/\iZ C.P ops nt ops.toList is=true/\tD 0 ops.toList=true/\tC is 0 ops.toList is=true/\wb is 0 ops.toList is=true/\kG (pZ is)=true:=by
 have h:=H.ok;simp_all [okD,ag]
theorem Std.lens:ops.size=es.length/\is.length=es.length:=by
 have:=H.run.len;simpa using this
theorem Std.free {ei ej:Ent} (hlt:i < j) (hei:es[i]?=some ei) (hej:es[j]?=some ej) (hoj:ops[j]?=some oj)
  (hS:xr ops S) (hSi:S i=false) (hSj:∀ b∈lH oj,S b=true):(∀ k∈acc ej,lD ei k=none)/\(∀ k∈acc ei,lD ej k=none):=by
 obtain ⟨h1,h2,h3,h4,h5,h6⟩:=H.parts;have hl:=H.lens;have hjl:j < es.length:=(af.1 hej).1;have hii:is[i]?=some is[i]:=aa (by omega);have hij:is[j]?=some is[j]:=aa (by omega);by_cases efi:efl ei
 ·by_cases efj:efl ej
  ·obtain ⟨_,hc⟩:=H.run.Ij [] rfl l' rfl H.cf;obtain ⟨ix,as,r1,_,_⟩:=hc i _ ei hii hei efi;obtain ⟨jx,bs,q1,_,q3⟩:=hc j _ ej hij hej efj;have key:=q3 i _ ei ix as hlt hii hei efi r1;have hoi:ops[i]?=some ops[i]:=dL (by omega);have hix:=(qW h4 i _ _ ix as (show ops.toList[i]?=some ops[i] by rw [Array.getElem?_toList];exact hoi) hii r1).1;have hnot:¬ ix∈bs:=by
    intro hm;have:=vo h4 h3 hS j oj _ jx bs hoj hij q1 hSj ix hm;simp_all
   have hmem:kh ix bs=false:=by
    cases hm:kh ix bs with
    | false=>rfl
    | true=>exact absurd ((ja _ _).1 hm) hnot
   simp only [tU,Co,hmem,cond_false,rB] at key;obtain ⟨k1,k2⟩:=jc key;exact ⟨fun k hk=>sY k1 hk,fun k hk=>sY k2 hk⟩
  ·have:ej.eff.rd=[]/\ej.eff.pt=[]:=Classical.byContradiction fun h=>efj h
   refine ⟨fun k hk=>by simp [acc,this.1,this.2,pW,mM] at hk,fun k hk=>?_⟩;cases ht:lD ej k with
   | none=>rfl
   | some x=>have:=qE (e:=ej) (k:=k) (by rw [ht];rfl);simp [‹ej.eff.rd=[]/\ej.eff.pt=[]›.2,mM] at this
 ·have hi':ei.eff.rd=[]/\ei.eff.pt=[]:=Classical.byContradiction fun h=>efi h
  refine ⟨fun k hk=>?_,fun k hk=>by simp [acc,hi'.1,hi'.2,pW,mM] at hk⟩;cases ht:lD ei k with
  | none=>rfl
  | some x=>have:=qE (e:=ei) (k:=k) (by rw [ht];rfl);simp [hi'.2,mM] at this
theorem Std.oper (h:j < es.length):∃ o,ops[j]?=some o:=⟨_,dL (by have:=H.lens;omega)⟩
omit H in
theorem vH {τ:Nat->Option (Option O)} (h:(im es)[j]?=some τ):∃ e,es[j]?=some e/\τ=lD e:=by
 grind [im,Option.map_eq_some_iff]
omit H in
theorem vI {τ:Nat->Option V} (h:(iF is es)[j]?=some τ):∃ i e,is[j]?=some i/\es[j]?=some e/\τ=qF i e:=by
 grind [iF]
theorem Std.seen {ej:Ent} (hej:es[j]?=some ej) (hoj:ops[j]?=some oj) (hS:xr ops S) (hj:S j=false) (hr:∀ b∈lH oj,S b=true) :
  ∀ k∈acc ej,fold (im es) S 0 (look σ) k=look ej.σ k:=by
 intro k hk;rw [<- (H.run.sto).1 j ej hej];refine fold_congr rfl fun i τ hi hs=>?_
 obtain ⟨ei,hei,rfl⟩:=vH hi;rw [aW];have hil:i < es.length:=(af.1 hei).1;rcases Nat.lt_trichotomy i j with h | h | h
 ·simp only [lt,h,decide_true];cases hSi:S i with
  | true=>rfl
  | false =>
   have:=(H.free h hei hej hoj hS hSi hr).1 k hk;simp_all
 ·simp_all [lt,hj]
 ·have:¬ i < j:=by omega
  simp only [lt,this,decide_false];cases hSi:S i with
  | false=>rfl
  | true =>
   obtain ⟨oi,hoi⟩:=H.oper hil;have:=(H.free h hej hei hoi hS hj (hS i oi hSi hoi)).2 k hk;simp_all
theorem Std.grown {ej:Ent} (hej:es[j]?=some ej) (hoj:ops[j]?=some oj) (hS:xr ops S) (hj:S j=false) (hr:∀ b∈lH oj,S b=true) (hj':S' j=true) (hS':∀ k,k≠j->S' k=S k) :
  fold (im es) S' 0 (look σ)=cH (fold (im es) S 0 (look σ)) ej.eff.pt:=by
 rw [AU (fun k hk=>H.seen hej hoj hS hj hr k (bC _ hk))];funext k
 unfold ov;have hat:(im es)[j]?=some (lD ej):=by simp [im,hej]
 cases ht:lD ej k with
 | none =>
  refine fold_congr rfl fun i τ hi hs=>?_
  rw [aW];by_cases hij:i=j
  ·simp_all
  ·exact hS' i hij
 | some x =>
  refine rM hat ht (by rw [aW];exact hj') fun i τ hi hlt hs=>?_
  rw [aW,hS' i (by omega)];obtain ⟨ei,hei,rfl⟩:=vH hi;cases hSi:S i with
  | false=>rfl
  | true =>
   obtain ⟨oi,hoi⟩:=H.oper (af.1 hei).1;have hk:k∈acc ej:=bC _ (qE (by rw [ht];rfl));have:=(H.free hlt hej hei hoi hS hj (hS i oi hSi hoi)).2 k hk;rw [this] at hs;cases hs
theorem Std.slot {ej:Ent} (hej:es[j]?=some ej) (hoj:ops[j]?=some oj) (hij:is[j]?=some ij) (hS:xr ops S) (hj:S j=false) (hr:∀ b∈lH oj,S b=true) {t:Nat} (ht:t∈vB ij)
  {v:Value} (hv:b6 e F (fold (iF is es) S 0 (cP fr) t) v):b6 e F (cP ej.fr t) v:=by
 obtain ⟨h1,h2,h3,h4,h5,h6⟩:=H.parts;refine (H.run.frm).1 j ej hej e F t v ?_;have:fold (iF is es) (lt j) 0 (cP fr) t=fold (iF is es) S 0 (cP fr) t:=by
  refine fold_congr rfl fun k τ hk hs=>?_
  obtain ⟨ik,ek,hik,hek,rfl⟩:=vI hk;rw [aW];have hd:ik.dst=some t:=by
   unfold qF at hs;split at hs
   ·assumption
   ·cases hs
  have hkS:S k=true:=by
   rcases qU h5 j oj ij (by simpa using hoj) hij t ht k ik hik hd with h | h
   ·exact hr k h
   ·unfold nA at h;simp only [az] at h;cases ha:ij.anc with
    | nil=>rw [ha] at h;cases h
    | cons x xs=>rw [ha] at h;exact vo h4 h3 hS j oj ij x xs hoj hij ha hr k h
  have hlt:k < j:=by
   have hne:k≠j:=fun hh=>by rw [hh,hj] at hkS;cases hkS
   rcases qU h5 j oj ij (by simpa using hoj) hij t ht k ik hik hd with h | h
   ·have:=kz h3 j oj (by simpa using hoj) k h;omega
   ·unfold nA at h;simp only [az] at h;cases ha:ij.anc with
    | nil=>rw [ha] at h;cases h
    | cons x xs =>
     rw [ha] at h;have hshut:xr ops (lt j):=by
      intro p o hp ho b hb;have:=kz h3 p o (by simpa using ho) b hb;simp only [lt,ak] at hp ⊢;omega
     have:=vo h4 h3 hshut j oj ij x xs hoj hij ha (fun b hb=>by
      have:=kz h3 j oj (by simpa using hoj) b hb;simp only [lt,ak];omega) k h
     simpa only [lt,ak] using this
  simp [hkS,lt,hlt]
 simp_all
theorem Std.Fl {ej:Ent} (hej:es[j]?=some ej) (hij:is[j]?=some ij) (hj':S' j=true) (hS':∀ k,k≠j->S' k=S k) (t:Nat) :
  fold (iF is es) S' 0 (cP fr) t=if ij.dst=some t then ej.eff.v else fold (iF is es) S 0 (cP fr) t:=by
 obtain ⟨h1,h2,h3,h4,h5,h6⟩:=H.parts;have hat:(iF is es)[j]?=some (qF ij ej):=by simp [iF,List.getElem?_zipWith,hej,hij]
 by_cases hd:ij.dst=some t
 ·rw [aj hd];refine rM hat (by simp [qF,hd]) (by rw [aW];exact hj') fun k τ hk hlt hs=>?_
  obtain ⟨ik,ek,hik,hek,rfl⟩:=vI hk;have hdk:ik.dst=some t:=by
   unfold qF at hs;simp_all
  have:=wX h6 j k ij ik t hij hik hd hdk;omega
 ·rw [ab hd];refine fold_congr rfl fun k τ hk hs=>?_
  rw [aW];by_cases hkj:k=j
  ·subst hkj;rw [hat] at hk;cases hk;unfold qF at hs;simp_all
  ·exact hS' k hkj
theorem Std.step (hoj:ops[j]?=some oj) (hS:xr ops S) (hj:S j=false) (hr:∀ b∈lH oj,S b=true) (hj':S' j=true) (hS':∀ k,k≠j->S' k=S k)
  (hk:∀ a w,Inv C m nt ds e0 F0 g0 w0 is es fr σ nx S' a w->next a w) (hi:Inv C m nt ds e0 F0 g0 w0 is es fr σ nx S a w):wpOp C.P ops Q j next a w:=by
 obtain ⟨p1,p2,p3,p4,p5,p6⟩:=H.parts;have hl:=H.lens;have hjl:j < es.length:=by have:=(Array.getElem?_eq_some_iff.1 hoj).1;omega
 have hej:es[j]?=some es[j]:=aa hjl;have hij:is[j]?=some is[j]:=aa (by omega);generalize es[j]=ej at hej;generalize is[j]=ij at hij;obtain ⟨a1,a2,a3,a4⟩:=H.run.at j oj ij ej (by rw [Array.getElem?_toList];exact hoj) hij hej;obtain ⟨e,F,q1,q2,q3,q4,q5,q6,q7⟩:=hi;have hst:oj.dst=ij.dst/\rQ nt oj.dst=true/\okG ops nt oj.guard ij.g=true:=by
  have key:∀ (l:List Oper) (is:List Ir),iZ C.P ops nt l is=true->∀ (j:Nat) o i,l[j]?=some o->is[j]?=some i->xK C.P ops nt o i=true:=by
   intro l;induction l with
   | nil=>intro is _ j o i h;simp at h
   | cons x l ih =>
    intro is h j o i ho hi;cases is with
    | nil=>simp at hi
    | cons y is =>
     simp only [iZ,ag] at h
     grind
  have:=key ops.toList is p2 j oj ij (by rw [Array.getElem?_toList];exact hoj) hij;simp only [xK,ag,ak] at this
  grind
 have hdone:∀ (v:V) (x:Value) (e':Emb) (F':Fz) (w':World),v=ej.eff.v->Emb.le e e'->Fz.le F F'->b6 e' F' v x->∀ t,b6 e' F' (fold (iF is es) S' 0 (cP fr) t) ((a.put oj.dst x).tmps.getD t undef):=by
  intro v x e' F' w' hv h1 h2 h3 t;rw [H.Fl hej hij hj' hS' t];have hd:=hst.2.1;rw [hst.1] at hd ⊢;cases hdd:ij.dst with
  | none=>simp only [Act.put];rw [ab (by simp)];exact b6.mono h1 h2 (q1 t)
  | some d =>
   rw [hdd] at hd;have hd':d < a.tmps.size:=by rw [q4];simpa [rQ,Nat.blt_eq] using hd
   simp only [Act.put,aw];by_cases ht:d=t
   ·simp_all
   ·rw [ab ht];have:(a.tmps.setIfInBounds d x).getD t undef=a.tmps.getD t undef:=by
     simp_all
    rw [this]
    grind [b6.mono]
 have hnames:∀ (e':Emb),(∀ i,(i < ej.nx\/ej.nx+ej.eff.n<=i)->e' i=e i)->∀ k,nx<=k->(∀ (i:Nat) ent,es[i]?=some ent->S' i=true->¬(ent.nx<=k/\k < ent.nx+ent.eff.n))->e' k=none:=by
  grind
 have hgrown:=H.grown hej hoj hS hj hr hj' hS';have hguard:Region.wanted oj (yielded ops a.tmps)=ej.ran:=by
  have hg:=hst.2.2;cases hog:oj.guard with
  | none =>
   cases hig:ij.g with
   | some _=>rw [hog,hig] at hg;cases hg
   | none=>rw [hig] at a1;rw [show ej.ran=true from a1];simp [Region.wanted,hog]
  | some gb =>
   obtain ⟨jj,b⟩:=gb;cases hig:ij.g with
   | none=>rw [hog,hig] at hg;cases hg
   | some sb =>
    obtain ⟨s,b'⟩:=sb;rw [hog,hig] at hg;simp only [okG,ag,ak,Nat.blt_eq] at hg;obtain ⟨⟨rfl,hds⟩,hlt⟩:=hg;rw [hig] at a1;have hv:=H.slot hej hoj hij hS hj hr (t:=s) (by simp [vB,hig]) (q1 s);simp only [kA] at a1;rcases a1 with a1 | ⟨a1,a3'⟩
    rotate_left
    ·rw [a3'] at hv;obtain ⟨us,hus,hu⟩:=hv;cases hu;have hy:yielded ops a.tmps jj=none:=by
      unfold yielded;rw [hds];have:a.tmps[s]?=some (.tuple #[]):=by
       rw [cD] at hus;rw [dL (by rw [q4];exact hlt)] at hus ⊢;simpa using hus
      simp [this]
     simp only [Region.wanted,hog,hy,a1];rfl
    rw [a1] at hv;have hb:a.tmps.getD s undef= .bool (ej.ran == b):=by
     cases hr:ej.ran<;>cases b<;>rw [hr] at hv<;>exact hv
    simp only [Region.wanted,hog,qv hds (by rw [q4];exact hlt) hb];simp
 unfold wpOp;rw [hoj];simp only [hguard];cases hran:ej.ran with
 | true =>
  simp only [bo];refine .inl ?_;have hfr:FR e F (eB ej.fr (lC ij.op)) a:=by
   intro t;rcases o7 ej.fr (lC ij.op) t with h | h
   ·by_cases ht:t∈lC ij.op
    ·rw [h];refine H.slot hej hoj hij hS hj hr (t:=t) ?_ (q1 t);unfold vB;split
     ·exact ht
     ·exact aM _ ht
    ·have:∀ (ks:List Nat),¬ t∈ks->cP (eB ej.fr ks) t= .un:=by
      intro ks;induction ks with
      | nil=>intro _;rfl
      | cons d l ih =>
       intro hn;simp only [eB,cP,jk];have hd:¬ d=t:=fun hh=>hn (by rw [hh];exact List.mem_cons_self ..)
       simp only [hd,decide_false,cond_false];exact ih fun hh=>hn (aM _ hh)
     rw [this _ ht];trivial
   ·rw [h];trivial
  have hn:=H.run.nms;refine (a2 hran) e F _ w a hfr q2 ?_ ?_ next Q ?_
  ·intro p hp;rw [H.seen hej hoj hS hj hr p.1 (bW _ (wm.2 ⟨p,hp,rfl⟩))];exact a3 p hp
  ·intro k h1 h2;refine q3 k (by have:=(hn.2.1 j ej hej).1;omega) fun i ent hi hSi=>?_
   rcases Nat.lt_trichotomy i j with h | h | h
   ·have:=hn.2.2 i j ent ej h hi hej;omega
   ·subst h;rw [hj] at hSi;cases hSi
   ·have:=hn.2.2 j i ej ent h hej hi;omega
  ·intro x w' hres;obtain ⟨e',F',r1,r2,r3,r4,r5,r6,r7,r8⟩:=hres;refine hk _ _ ⟨e',F',hdone _ x e' F' w' rfl r1 r3 r4,by rw [hgrown];exact r5,hnames e' r2,by rw [nP];exact q4,by rw [put_defers];exact q5,?_,q7⟩;rw [hgrown];exact q6.trans ⟨fun i W _ hi=>r1 i W hi,r3,r6,r7,r8⟩
 | false =>
  simp only [bB,aV];have he:=a4 hran;rw [he] at hgrown;have hgs:fold (im es) S' 0 (look σ)=fold (im es) S 0 (look σ):=hgrown;refine hk _ _ ⟨e,F,hdone (.tup []) undef e F w (by rw [he]) (fun _ _ h=>h) (fun _ _ _ h=>h) ⟨[],rfl,.nil⟩,by rw [hgs];exact q2,hnames e (fun _ _=>rfl),by rw [nP];exact q4,by rw [put_defers];exact q5,by rw [hgs];exact q6,q7⟩
omit H in
theorem wu {o:Oper} {b:Nat}:b∈lH o↔∃ e∈o.after,Region.binds .any e=true/\e.on=b:=by
 grind [lH]
def left (listed:Array Bool):Nat:=(listed.toList.filter (! ·)).length
omit H in
theorem Bb (hj:listed[j]?=some false):left (listed.setIfInBounds j true)+1=left listed:=by
 have key:∀ (l:List Bool) (j:Nat),l[j]?=some false->((l.set j true).filter (! ·)).length+1=(l.filter (! ·)).length:=by
  intro l;induction l with
  | nil=>intro j h;simp at h
  | cons x l ih =>
   intro j h;cases j with
   | zero=>simp only [az,aw] at h;subst h;simp
   | succ j =>
    grind
 unfold left;simp_all
omit H in
theorem tI (h:left listed=0) (j:Nat):listed.getD j true=true:=by
 unfold left at h;have h:=cI.1 h;rw [List.filter_eq_nil_iff] at h;rw [cD];cases hj:listed[j]? with
 | none=>rfl
 | some b =>
  have:b∈listed.toList:=aP (by rw [Array.getElem?_toList];exact hj)
  grind
theorem Std.any (hQ:∀ S a w,(∀ j,j < ops.size->S j=true)->Inv C m nt ds e0 F0 g0 w0 is es fr σ nx S a w->Q .normal a w) :
  ∀ (n:Nat) (listed:Array Bool) (a:Act) (w:World),listed.size=ops.size->left listed=n->xr ops (fun j=>listed.getD j false)->Inv C m nt ds e0 F0 g0 w0 is es fr σ nx (fun j=>listed.getD j false) a w->wpAny C.P .any ops Q n listed a w:=by
 have hall:∀ (listed:Array Bool),listed.size=ops.size->(∀ j,listed.getD j true=true)->∀ j,j < ops.size->listed.getD j false=true:=by
  grind
 intro n;induction n with
 | zero =>
  intro listed a w hs hn hS hi;refine ⟨?_,hQ _ a w (hall listed hs (tI hn)) hi⟩;refine List.eq_nil_iff_forall_not_mem.2 fun j hj=>?_
  have:=(mem_ready.1 hj).1;rw [tI hn j] at this;cases this
 | succ n ih =>
  intro listed a w hs hn hS hi;refine ⟨fun hnil=>?_,fun j hj=>?_⟩
  ·exfalso;have hex:∃ j,j < ops.size/\listed.getD j false=false:=by
    refine Classical.byContradiction fun hne=>?_
    have hz:left listed=0:=by
     unfold left;rw [cI,List.filter_eq_nil_iff];intro b hb;obtain ⟨j,hj,hjb⟩:=List.mem_iff_getElem.1 hb;have hjs:j < listed.size:=by simpa using hj
     simp_all
    omega
   have hmin:∃ j,(j < ops.size/\listed.getD j false=false)/\∀ k,k < j->¬ (k < ops.size/\listed.getD k false=false):=by
    obtain ⟨j,hj⟩:=hex;induction j using Nat.strongRecOn with
    | _ j ihj =>
     grind
   obtain ⟨j,⟨h1,h2⟩,h3⟩:=hmin;obtain ⟨p1,p2,p3,p4,p5,p6⟩:=H.parts;have hoj:ops[j]?=some ops[j]:=dL h1;have:j∈Region.ready .any ops listed:=by
    refine mem_ready.2 ⟨?_,_,hoj,fun e he hb=>?_⟩
    ·simp_all
    ·have:=kz p3 j _ (by rw [Array.getElem?_toList];exact hoj) e.on (wu.2 ⟨e,he,hb,rfl⟩)
     grind
   simp_all
  ·obtain ⟨h0,oj,hoj,haft⟩:=mem_ready.1 hj;have hjs:j < listed.size:=by
    grind
   have hjf:listed[j]?=some false:=by
    simp_all
   have hr:∀ b∈lH oj,listed.getD b false=true:=by
    intro b hb;obtain ⟨e,he,hbi,rfl⟩:=wu.1 hb;simp_all
   have hset:∀ k,k≠j->(listed.setIfInBounds j true).getD k false=listed.getD k false:=fun k hk=>getD_set_ne false (fun h=>hk h.symm)
   have hsj:(listed.setIfInBounds j true).getD j false=true:=by simp [cD,hjs]
   refine H.step hoj hS (by rw [cD,hjf];rfl) hr (S':=fun k=>(listed.setIfInBounds j true).getD k false) hsj hset (fun a' w' hi'=>?_) hi;refine ih _ a' w' (by simpa using hs) (by have:=Bb hjf;omega) ?_ hi';intro k o hk ho b hb;by_cases hkj:k=j
   ·grind
   ·have hk':listed.getD k false=true:=by rw [<- hset k hkj];exact hk
    exact getD_set_true (hS k o hk' ho b hb)
omit H in
theorem x6 (hok:okD C.P ops nt is=true)
  (hQ:∀ fr σ nx a w,K fr σ nx->Sat C m nt ds e0 F0 g0 w0 fr σ nx a w->Q .normal a w) (hk:dt C is (.on []) fr σ nx K) (hs:Sat C m nt ds e0 F0 g0 w0 fr σ nx a w) :
  (Code.region id ops true).wp C.P Q a w:=by
 have hok':=hok;simp only [okD,ag] at hok';obtain ⟨es,tr',fr',σ',nx',hrun,hend⟩:=tj _ _ hok'.1.1.1.1.2 _ _ _ _ hk;cases tr' with
 | off =>
  exfalso;have:∀ {os is tr fr σ nx es tr' fr' σ' nx'},Run C os is tr fr σ nx es tr' fr' σ' nx'->tr≠ .off->tr'≠ .off:=by
   intro os is tr fr σ nx es tr' fr' σ' nx' h;induction h with
   | nil=>exact fun h=>h
   | @ran o l i is tr fr fr1 σ nx eff es tr' fr' σ' nx' h1 hg h2 h3 rest ih =>
    intro hne;refine ih ?_;cases tr with
    | off=>exact absurd rfl hne
    | bad=>simp [jf]
    | on l =>
     rcases zc (l:=l) (anc:=i.anc) (σ:=σ) (pt:=eff.pt) (rd:=eff.rd) with ⟨_,_,ht⟩ | ⟨_,⟨_,_,_,ht⟩ | ht⟩<;>rw [ht]<;>simp
   | skip h1 hg rest ih=>exact ih
  grind
 | bad=>exact hend.elim
 | on l' =>
  have H:Std C nt ops is es fr σ nx fr' σ' nx' l':=⟨hok,hrun,hend.1⟩
  refine wp_region_any H.parts.1 ?_;have hup:b9 (fun _ _=>False) w {w with drawn:=w.drawn+1}:=b9.drew w;obtain ⟨e,F,h1,h2,h3,h4,h5,h6,h7⟩:=hs;have hfalse:∀ {α:Type} (l:List (Nat->Option α)) (g:Nat->α),fold l (fun j=>(Array.replicate ops.size false).getD j false) 0 g=g:=by
   intro α l g;have:∀ j,(Array.replicate ops.size false).getD j false=false:=by
    intro j;rw [cD,Array.getElem?_replicate];split<;>rfl
   funext i
   rw [<- jQ l 0 g];exact fold_congr (by rw [jQ]) fun j τ _ _=>by rw [this];simp [lt]
  refine H.any (m:=m) (ds:=ds) (e0:=e0) (F0:=F0) (g0:=g0) (w0:=w0) ?_ ops.size _ a _ (by simp) ?_ ?_ ⟨e,F,?_,?_,fun k hk _=>h3 k hk,h4,h5,?_,h7⟩
  ·intro S a' w' hS hi;obtain ⟨e',F',q1,q2,q3,q4,q5,q6,q7⟩:=hi;have hl:=H.lens;have hsame:∀ {α:Type} (l:List (Nat->Option α)) (g:Nat->α),l.length<=es.length->fold l S 0 g=fold l (lt es.length) 0 g:=by
    intro α l g hll;funext i
    refine fold_congr rfl fun j τ hj _=>?_
    have:=(af.1 hj).1;rw [aW,hS j (by omega)]
    grind [lt]
   have hO:fold (im es) S 0 (look σ)=look σ':=by
    rw [hsame _ _ (by simp [im])];simp [H.run.sto]
   rw [hO] at q2 q6;refine hQ fr' σ' nx' a' w' hend.2 ⟨e',F',?_,q2,?_,q4,q5,q6,by have:=H.run.nms.1;omega⟩
   ·intro t;refine (H.run.frm).2 e' F' t _ ?_;rw [<- hsame _ _ (by simp [iF,hl])];exact q1 t
   ·intro k hk;refine q3 k (by have:=H.run.nms.1;omega) fun j ent hj _=>?_
    have:=(H.run.nms.2.1 j ent hj).2;omega
  ·unfold left;simp
  ·intro j o hj;dsimp only at hj;rw [cD,Array.getElem?_replicate] at hj
   grind
  ·intro t;rw [hfalse];exact h1 t
  ·simp_all [hfalse,h2.grow]
  ·rw [hfalse];exact h6.trans ⟨fun i W _ h=>h,fun _ _ _ h=>h,hup.mono (fun _ _ h=>h.elim),fun b o h=> .inl h,fun b o u h=> .inl ⟨u,h⟩⟩
end
end Go.Proofs.YtggoiofammbchaaGreatDoor.Loc
