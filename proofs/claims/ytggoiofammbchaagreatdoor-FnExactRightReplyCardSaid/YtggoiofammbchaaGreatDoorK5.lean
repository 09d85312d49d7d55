/- Part 5 of a chain that ends in the statement named in GOCLAIM.json; no condition. -/
import Derived.Test.YtggoiofammbchaaGreatDoorK4
set_option maxRecDepth 100000
set_option maxHeartbeats 2000000
set_option linter.all false
namespace Go.Proofs.YtggoiofammbchaaGreatDoor.Loc
open Go
variable {C:Ctx} {F F':Fz} {K:Eff->Prop} {M f i j m n nx r wd:Nat} {S:Nat->Nat->Prop} {W:Win} {as:List A} {c:V} {d:D} {dp:Bool} {e e':Emb} {eff:Eff} {fr:Fr} {g g':Sto} {rows:List (List D)} {u v:Value} {w w':World} {x:O} {xs:List V} {π:List Nat} {σ:Ob}
section
variable {e1 e2:Emb} {F:Fz} {π:List Nat} {m nx M:Nat} (h:∀ i,i < M->e1 i=e2 (gH π m nx i))
include h
theorem D4 {p:Nat×Nat×Nat} (hb:Nat.blt p.1 M=true):kJ e1 p v↔kJ e2 (gH π m nx p.1,p.2.1,p.2.2) v:=by
 simp_all [Nat.blt_eq,kJ]
theorem yC:∀ {ps:List (Nat×Nat×Nat)} {us:List Value},(ps.all fun p=>Nat.blt p.1 M)=true->(cK (kJ e1) ps us↔cK (kJ e2) (ps.map fun p=>(gH π m nx p.1,p.2.1,p.2.2)) us)
 | [],us,_=>⟨fun h=>by cases h;exact .nil,fun h=>by cases h;exact .nil⟩
 | p::ps,us,hb=>by
  simp only [List.all_cons,ag] at hb;constructor
  ·intro h';cases h' with
   | cons a b=>exact .cons ((D4 h hb.1).1 a) ((yC hb.2).1 b)
  ·intro h';cases h' with
   | cons a b=>exact .cons ((D4 h hb.1).2 a) ((yC hb.2).2 b)
theorem sO {x:V} (hb:x.bnd M=true):cj e1 F x v↔cj e2 F (x.ren π m nx) v:=by
 cases x with
 | ptr i r o=>exact D4 h (p:=(i,r,o)) hb
 | arr i off len =>
  simp_all [V.bnd,Nat.blt_eq,cj,V.ren]
 | fn f ps =>
  simp only [cj,V.ren];constructor
  ·rintro ⟨us,h1,h2⟩;exact ⟨us,h1,(yC h hb).1 h2⟩
  ·rintro ⟨us,h1,h2⟩;exact ⟨us,h1,(yC h hb).2 h2⟩
 | mp i =>
  simp_all [V.bnd,Nat.blt_eq,cj,V.ren]
 | _=>exact Iff.rfl
theorem y4:∀ {cs:List V} {us:List Value},sP M cs=true->(cK (cj e1 F) cs us↔cK (cj e2 F) (lQ π m nx cs) us)
 | [],us,_=>⟨fun h=>by cases h;exact .nil,fun h=>by cases h;exact .nil⟩
 | x::cs,us,hb=>by
  simp only [sP,ag] at hb;constructor
  ·intro h';cases h' with
   | cons a b=>exact .cons ((sO h hb.1).1 a) ((y4 hb.2).1 b)
  ·intro h';cases h' with
   | cons a b=>exact .cons ((sO h hb.1).2 a) ((y4 hb.2).2 b)
theorem xx {x:V} (hb:x.DB M=true):fu e1 F x v↔fu e2 F (x.AS π m nx) v:=by
 cases x with
 | agg cs =>
  simp only [fu,V.AS];constructor
  ·rintro ⟨us,h1,h2⟩;exact ⟨us,h1,(y4 h hb).1 h2⟩
  ·rintro ⟨us,h1,h2⟩;exact ⟨us,h1,(y4 h hb).2 h2⟩
 | d x=>exact Iff.rfl
 | ptr i r o=>exact sO (F:=F) h (x:= .ptr i r o) hb
 | iM=>exact Iff.rfl
 | tt=>exact Iff.rfl
 | ff=>exact Iff.rfl
 | arr i off len=>exact sO (F:=F) h (x:= .arr i off len) hb
 | fn f ps=>exact sO (F:=F) h (x:= .fn f ps) hb
 | mp i=>exact sO (F:=F) h (x:= .mp i) hb
 | nmp=>exact Iff.rfl
 | own=>exact Iff.rfl
 | rd row o=>exact Iff.rfl
 | tup vs=>exact Iff.rfl
 | un=>exact Iff.rfl
theorem qA {x:V} (hb:x.DB M=true):b6 e1 F x v↔b6 e2 F (x.AS π m nx) v:=by
 cases x with
 | agg cs=>exact xx (F:=F) h (x:= .agg cs) hb
 | d x=>exact Iff.rfl
 | ptr i r o=>exact xx (F:=F) h (x:= .ptr i r o) hb
 | iM=>exact Iff.rfl
 | tt=>exact Iff.rfl
 | ff=>exact Iff.rfl
 | arr i off len=>exact xx (F:=F) h (x:= .arr i off len) hb
 | fn f ps=>exact xx (F:=F) h (x:= .fn f ps) hb
 | mp i=>exact xx (F:=F) h (x:= .mp i) hb
 | nmp=>exact Iff.rfl
 | own=>exact Iff.rfl
 | rd row o=>exact Iff.rfl
 | tup vs=>cases hb
 | un=>exact Iff.rfl
theorem yk:∀ {cs:List V} {us:List Value},j9 M cs=true->(cK (fu e1 F) cs us↔cK (fu e2 F) (j2 π m nx cs) us)
 | [],us,_=>⟨fun h=>by cases h;exact .nil,fun h=>by cases h;exact .nil⟩
 | x::cs,us,hb=>by
  simp only [j9,ag] at hb;constructor
  ·intro h';cases h' with
   | cons a b=>exact .cons ((xx h hb.1).1 a) ((yk hb.2).1 b)
  ·intro h';cases h' with
   | cons a b=>exact .cons ((xx h hb.1).2 a) ((yk hb.2).2 b)
theorem GR {x:V} (hb:x.vj M=true):b6 e1 F x v↔b6 e2 F (x.nO π m nx) v:=by
 cases x with
 | tup vs =>
  simp only [b6,V.nO];constructor
  ·rintro ⟨us,h1,h2⟩;exact ⟨us,h1,(yk h hb).1 h2⟩
  ·rintro ⟨us,h1,h2⟩;exact ⟨us,h1,(yk h hb).2 h2⟩
 | d x=>exact Iff.rfl
 | agg cs=>exact qA (F:=F) h (x:= .agg cs) hb
 | ptr i r o=>exact qA (F:=F) h (x:= .ptr i r o) hb
 | iM=>exact Iff.rfl
 | tt=>exact Iff.rfl
 | ff=>exact Iff.rfl
 | arr i off len=>exact qA (F:=F) h (x:= .arr i off len) hb
 | fn f ps=>exact qA (F:=F) h (x:= .fn f ps) hb
 | mp i=>exact qA (F:=F) h (x:= .mp i) hb
 | nmp=>exact Iff.rfl
 | own=>exact Iff.rfl
 | rd row o=>exact Iff.rfl
 | un=>exact Iff.rfl
theorem qz:∀ {cs:List V} {us:List Value},j9 M cs=true->(cK (b6 e1 F) cs us↔cK (b6 e2 F) (j2 π m nx cs) us)
 | [],us,_=>⟨fun h=>by cases h;exact .nil,fun h=>by cases h;exact .nil⟩
 | x::cs,us,hb=>by
  simp only [j9,ag] at hb;constructor
  ·intro h';cases h' with
   | cons a b=>exact .cons ((qA h hb.1).1 a) ((qz hb.2).1 b)
  ·intro h';cases h' with
   | cons a b=>exact .cons ((qA h hb.1).2 a) ((qz hb.2).2 b)
end
theorem qQ (π:List Nat) (m nx:Nat):∀ (cs:List V) (j:Nat),(lQ π m nx cs)[j]?=(cs[j]?).map (V.ren π m nx)
 | [],j=>by simp [lQ]
 | c::cs,0=>by simp [lQ]
 | c::cs,j+1=>by simp [lQ,qQ π m nx cs j]
theorem qP (π:List Nat) (m nx:Nat):∀ (cs:List V),(lQ π m nx cs).length=cs.length
 | []=>rfl
 | c::cs=>by simp [lQ,qP π m nx cs]
theorem tu (π:List Nat) (m nx:Nat):∀ (cs:List O) (j:Nat),(gp π m nx cs)[j]?=(cs[j]?).map (O.ren π m nx)
 | [],j=>by simp [gp]
 | c::cs,0=>by simp [gp]
 | c::cs,j+1=>by simp [gp,tu π m nx cs j]
theorem jd (π:List Nat) (m nx:Nat) (x:O) (r j:Nat):(x.ren π m nx).cell r j=(x.cell r j).map (V.ren π m nx):=by
 cases x with
 | st cs =>
  simp only [O.ren,O.cell];split
  ·exact qQ π m nx cs j
  ·rfl
 | da w rows =>
  simp only [O.ren,O.cell];cases h:rows[r]?.bind (·[j]?)<;>rfl
 | va w rows =>
  grind [O.ren,O.cell,qQ]
 | mp es=>rfl
 | oa w rows =>
  simp only [O.ren,O.cell];cases h:rows[r]?.bind (·[j]?) with
  | none=>rfl
  | some d=>cases d<;>rfl
 | rest=>rfl
 | rst=>rfl
theorem qe :(c.ren π m nx).dW=c.dW:=by cases c<;>rfl
theorem pC :(x.ren π m nx).dU=x.dU:=by cases x<;>rfl
theorem vT :(x.ren π m nx).gone=x.gone:=by cases x<;>rfl
theorem tq :(x.ren π m nx).plain=x.plain:=by cases x<;>rfl
theorem pD {w:Nat}:c.ren π m nx= .own dp w rows↔c= .own dp w rows:=by cases c<;>simp [V.ren]
theorem zw {v:Nat} (h:x.ren π m nx= .da v rows):x= .da v rows:=by cases x<;>simp_all [O.ren]
theorem zv {v:Nat} (h:x.ren π m nx= .oa v rows):x= .oa v rows:=by cases x<;>simp_all [O.ren]
theorem fY {b o:Nat}:InR (x.ren π m nx) W b o↔InR x W b o:=by simp only [InR,vT]
theorem oq {M:Nat}:∀ {cs:List V} {j:Nat} {c:V},sP M cs=true->cs[j]?=some c->c.bnd M=true
 | [],j,c,_,h=>by simp at h
 | x::cs,0,c,hb,h=>by
  simp_all [sP,ag]
 | x::cs,j+1,c,hb,h=>by
  simp only [sP,ag] at hb;exact oq hb.2 (by simpa using h)
theorem yA (hb:x.bnd M=true) (he:∀ i,i < M->e' i=e (gH π m nx i)):Hid e F w S (x.ren π m nx) W↔Hid e' F w S x W:=by
 cases hg:x.gone with
 | false =>
  rw [Hid.plain (by rw [vT];exact hg),Hid.plain hg];constructor
  ·rintro ⟨Sub,h1,h2,h3⟩
   exact ⟨Sub,h1,h2,fun r j dp wd rows hc=>h3 r j dp wd rows (by rw [jd,hc];rfl)⟩
  ·rintro ⟨Sub,h1,h2,h3⟩
   refine ⟨Sub,h1,h2,fun r j dp wd rows hc=>h3 r j dp wd rows ?_⟩;rw [jd,ay] at hc;obtain ⟨c,hc1,hc2⟩:=hc;rw [hc1,pD.1 hc2]
 | true =>
  cases x with
  | rest wd rows r o n k =>
   have hk:k < M:=by simpa [O.bnd] using hb
   have key:∀ (e1 e2:Emb) (k1 k2:Nat),e2 k2=e1 k1->fw e1 F w S W (.oa wd rows) r o n k1->fw e2 F w S W (.oa wd rows) r o n k2:=by
    intro e1 e2 k1 k2 h h1;refine ⟨h.trans h1.kid,h1.inn,h1.fit,h1.wo,h1.reg,fun r' j c hc hno hown=>?_,h1.hid⟩;obtain ⟨u,h2,h3⟩:=h1.cells r' j c hc hno hown;refine ⟨u,h2,?_⟩;simp only [O.cell,ay] at hc;obtain ⟨d,_,rfl⟩:=hc;cases d<;>first | exact h3 | exact h3.elim
   exact ⟨key _ _ _ _ (he k hk),key _ _ _ _ (he k hk).symm⟩
  | rst cs o n k =>
   simp only [O.bnd,ag,Nat.blt_eq] at hb;obtain ⟨hbc,hk⟩:=hb;have hc1:∀ r j c,(O.st cs).cell r j=some c->c.bnd M=true:=by
    intro r j c hc;simp only [O.cell] at hc;split at hc
    ·exact oq hbc hc
    ·cases hc
   have hren:∀ r j,(O.st (lQ π m nx cs)).cell r j=((O.st cs).cell r j).map (V.ren π m nx):=fun r j=>jd π m nx (.st cs) r j
   constructor
   ·intro h;have h:fw e F w S W (.st (lQ π m nx cs)) 0 o n (gH π m nx k):=h;refine (show fw e' F w S W (.st cs) 0 o n k from ⟨(he k hk).trans h.kid,h.inn,fun r' j c hc=>h.fit r' j (c.ren π m nx) (by rw [hren,hc];rfl),nofun,h.reg,fun r' j c hc hno hown=>?_,?_⟩)
    ·obtain ⟨u,h2,h3⟩:=h.cells r' j (c.ren π m nx) (by rw [hren,hc];rfl) hno (by rw [qe];exact hown);exact ⟨u,h2,(sO he (hc1 _ _ _ hc)).2 h3⟩
    ·obtain ⟨Sub,q1,q2,q3⟩:=h.hid;refine ⟨Sub,q1,q2,fun r' j dp wd rows hc=>q3 r' j dp wd rows ?_⟩;dsimp only at hc ⊢;split at hc
     ·cases hc
     ·rename_i hno;rw [ab hno,hren,hc];rfl
   ·intro h;have h:fw e' F w S W (.st cs) 0 o n k:=h;refine (show fw e F w S W (.st (lQ π m nx cs)) 0 o n (gH π m nx k) from ⟨(he k hk).symm.trans h.kid,h.inn,fun r' j c hc=>?_,nofun,h.reg,fun r' j c hc hno hown=>?_,?_⟩)
    ·rw [hren,ay] at hc;obtain ⟨c0,hc0,rfl⟩:=hc;exact h.fit r' j c0 hc0
    ·rw [hren,ay] at hc;obtain ⟨c0,hc0,rfl⟩:=hc;obtain ⟨u,h2,h3⟩:=h.cells r' j c0 hc0 hno (by rw [<- qe];exact hown);exact ⟨u,h2,(sO he (hc1 _ _ _ hc0)).1 h3⟩
    ·obtain ⟨Sub,q1,q2,q3⟩:=h.hid;refine ⟨Sub,q1,q2,fun r' j dp wd rows hc=>q3 r' j dp wd rows ?_⟩;dsimp only at hc ⊢;split at hc
     ·cases hc
     ·rename_i hno;rw [ab hno];rw [hren,ay] at hc;obtain ⟨c0,hc0,hc2⟩:=hc;rw [hc0,pD.1 hc2]
  | _=>cases hg
theorem xm (hb:x.bnd M=true) (h:x.cell r j=some c):c.bnd M=true:=by
 cases x with
 | st cs =>
  simp only [O.cell] at h;split at h
  ·exact oq hb h
  ·cases h
 | da w rows =>
  simp only [O.cell,ay] at h;obtain ⟨d,_,rfl⟩:=h;rfl
 | va w rows =>
  simp only [O.cell,Option.bind_eq_some_iff] at h;obtain ⟨row,h1,h2⟩:=h;simp only [O.bnd,List.all_eq_true] at hb;exact oq (hb row (aP h1)) h2
 | mp es=>cases h
 | oa w rows =>
  simp only [O.cell,ay] at h;obtain ⟨d,_,rfl⟩:=h;cases d<;>rfl
 | rest=>cases h
 | rst=>cases h
theorem ph {M:Nat}:∀ {l:List O} {j:Nat} {c:O},oo M l=true->l[j]?=some c->c.bnd M=true
 | [],j,c,_,h=>by simp at h
 | x::cs,0,c,hb,h=>by
  simp_all [oo,ag]
 | x::cs,j+1,c,hb,h=>by
  simp only [oo,ag] at hb;exact ph hb.2 (by simpa using h)
theorem mF {M:Nat}:∀ {l:List (Option O)} {j:Nat} {c:O},mR M l=true->l[j]?=some (some c)->c.bnd M=true
 | [],j,c,_,h=>by simp at h
 | none::cs,0,c,hb,h=>by simp at h
 | none::cs,j+1,c,hb,h=>mF (l:=cs) hb (by simpa using h)
 | some x::cs,0,c,hb,h=>by
  simp_all [mR,ag]
 | some x::cs,j+1,c,hb,h=>by
  simp only [mR,ag] at hb;exact mF hb.2 (by simpa using h)
theorem fZ:∀ (l:Pt) (g:Sto) (j:Nat),(cH g l j=g j/\∀ p∈l,p.1≠j)\/∃ p∈l,p.1=j/\cH g l j=p.2
 | [],g,j=> .inl ⟨rfl,by simp⟩
 | (i,x)::l,g,j=>by
  rcases fZ l (upd g i x) j with ⟨h1,h2⟩ | ⟨p,h1,h2,h3⟩
  ·by_cases hi:i=j
   ·refine .inr ⟨(i,x),by simp,hi,?_⟩;show cH (upd g i x) l j=x;simp_all [h1,upd,hi]
   ·refine .inl ⟨?_,?_⟩
    ·have:¬ j=i:=fun h=>hi h.symm
     simp [cH,h1,upd,this,aV]
    ·grind
  ·exact .inr ⟨p,by simp [h1],h2,h3⟩
theorem jV (π:List Nat) (m nx:Nat):∀ (l:List (Option O)) (k:Nat) (p:Nat×Option O),p∈dQ π m nx k l->∃ i y,l[i]?=some y/\p=(gH π m nx (k+i),y.map (O.ren π m nx))
 | [],k,p,h=>by simp [dQ] at h
 | x::l,k,p,h=>by
  rcases aQ.1 h with rfl | h
  ·exact ⟨0,x,rfl,rfl⟩
  ·obtain ⟨i,y,h1,h2⟩:=jV π m nx l (k+1) p h;refine ⟨i+1,y,by simpa using h1,?_⟩
   grind
theorem sd (π:List Nat) (m nx:Nat):∀ (l:List (Option O)) (k i:Nat),i < l.length->∃ p∈dQ π m nx k l,p.1=gH π m nx (k+i)
 | [],k,i,h=>by simp at h
 | x::l,k,0,h=>⟨_,by simp only [dQ];exact List.mem_cons_self,rfl⟩
 | x::l,k,i+1,h=>by
  obtain ⟨p,h1,h2⟩:=sd π m nx l (k+1) i (by simpa using h);refine ⟨p,by simp [dQ,h1],?_⟩
  grind
theorem jz:∀ {l:List Nat} {i i' j:Nat},distinct l=true->l[i]?=some j->l[i']?=some j->i=i'
 | [],i,i',j,_,h,_=>by simp at h
 | x::l,i,i',j,hd,h,h'=>by
  simp only [distinct,ag,ey,List.contains_eq_mem,dC] at hd;cases i with
  | zero =>
   grind
  | succ i =>
   cases i' with
   | zero =>
    grind
   | succ i' =>
    have:=jz (i:=i) (i':=i') (j:=j) hd.2 (by simpa using h) (by simpa using h');omega
set_option maxHeartbeats 2000000 in
theorem pg (hr:Rel C e F g w) {os:List O} {os':List (Option O)}
  (hl:os.length=π.length) (hl':π.length<=os'.length) (hd:distinct π=true) (hrd:∀ p∈π.zip (gp π π.length nx os),g p.1=some p.2)
  (hn:∀ i,nx<=i->i < nx+(os'.length - π.length)->e i=none) (hb1:oo π.length os=true) (hb2:mR os'.length os'=true) :
  ∃ (e0:Emb) (F0:Fz),F0.f=F.f/\Rel C e0 F0 (fun i=>os[i]?) w/\(∀ i,π.length<=i->e0 i=none)/\(∀ i,i < π.length->e0 i=e (gH π π.length nx i)) /\
   ∀ (e1:Emb) (F1:Fz) (w':World) (v:V) (x:Value),v.vj os'.length=true->b6 e1 F1 v x->Rel C e1 F1 (fun i=>(os'[i]?).join) w'->Ext π.length e0 F0 (fun i=>os[i]?) w e1 F1 (fun i=>(os'[i]?).join) w' ->
    Res C e F g w nx (os'.length - π.length) (v.nO π π.length nx) (cH g (dQ π π.length nx 0 os')) x w':=by
 have hread:∀ (i:Nat) (x:O),os[i]?=some x->∃ j:Nat,π[i]?=some j/\g j=some (x.ren π π.length nx):=by
  intro i x hx;have hi:i < os.length:=(af.1 hx).1;have hj:π[i]?=some π[i]:=aa (by omega);refine ⟨_,hj,?_⟩;have hz:(π.zip (gp π π.length nx os))[i]?=some (π[i],O.ren π π.length nx x):=List.getElem?_zip_eq_some.2 ⟨hj,by rw [tu,hx];rfl⟩
  grind
 have hemb:∀ i,i < π.length->∃ (j:Nat) (W:Win) (x:O),π[i]?=some j/\os[i]?=some x/\g j=some (x.ren π π.length nx)/\e j=some W/\gH π π.length nx i=j:=by
  intro i hi;have hx:os[i]?=some os[i]:=aa (by omega);obtain ⟨j,h1,h2⟩:=hread i _ hx;obtain ⟨W,h3,_⟩:=hr.dom _ _ h2;simp_all [gH,h1]
 let F0:Fz:=⟨F.f,fun i=>match π[i]? with | some j=>F.H j | none=>noH⟩
 have hF0:Fz.le F F0:=fun _ _ _ h=>h
 have hH0:∀ {i j:Nat},π[i]?=some j->F0.H i=F.H j:=fun {i j} h=>by simp only [F0,h]
 refine ⟨fun i=>match π[i]? with | some j=>e j | none=>none,F0,rfl,?_,?_,?_,?_⟩
 ·have hloc:∀ i,i < π.length->(fun i=>match π[i]? with | some j=>e j | none=>none:Emb) i=e (gH π π.length nx i):=by
   simp_all
  have hold:∀ (i:Nat) (x:O) (W:Win),os[i]?=some x->(fun i=>match π[i]? with | some j=>e j | none=>none:Emb) i=some W->∃ j:Nat,π[i]?=some j/\g j=some (x.ren π π.length nx)/\e j=some W:=by
   grind
  refine ⟨hr.np,hr.ng,?_,?_,?_,?_,?_,?_,?_,?_,?_,?_,?_,?_,hr.fz,?_⟩
  ·intro i x hx;obtain ⟨j,h1,h2⟩:=hread i x hx;obtain ⟨W,h3,h4⟩:=hr.dom _ _ h2;simp_all
  ·intro i x W hx he r k c hc;obtain ⟨j,h1,h2,h3⟩:=hold i x W hx he;exact hr.fit j _ W h2 h3 r k (c.ren π π.length nx) (by rw [jd,hc];rfl)
  ·intro i x W hx he r k c hc hoc;obtain ⟨j,h1,h2,h3⟩:=hold i x W hx he;obtain ⟨u,h4,h5⟩:=hr.cells j _ W h2 h3 r k (c.ren π π.length nx) (by rw [jd,hc];rfl) (by rw [pC,qe];exact hoc);exact ⟨u,h4,((sO hloc (xm (ph hb1 hx) hc)).2 h5).mono (fun _ _ y=>y) hF0⟩
  ·intro i x W hx he;obtain ⟨j,h1,h2,h3⟩:=hold i x W hx he;intro hpl;exact hr.own j _ W h2 h3 (by rw [tq];exact hpl)
  ·intro i es W hx he;obtain ⟨j,h1,h2,h3⟩:=hold i _ W hx he;exact hr.mp j es W h2 h3
  ·intro i x W hx he v rows hv;obtain ⟨j,h1,h2,h3⟩:=hold i x W hx he;exact hr.wd j _ W h2 h3 v rows (by rw [hv];rfl)
  ·intro i x W hx he v rows hv;obtain ⟨j,h1,h2,h3⟩:=hold i x W hx he;obtain ⟨h4,h5,h6⟩:=hr.wv j _ W h2 h3 v (rows.map (lQ π π.length nx)) (by rw [hv];rfl);refine ⟨h4,by simpa using h5,fun row hrow=>?_⟩;have:=h6 (lQ π π.length nx row) (List.mem_map_of_mem hrow)
   rwa [qP] at this
  ·intro i x W i' x' W' hx he hx' he' hne;obtain ⟨j,h1,h2,h3⟩:=hold i x W hx he;obtain ⟨j',h1',h2',h3'⟩:=hold i' x' W' hx' he';exact fun b o h4 h5=>hr.apart j _ W j' _ W' h2 h3 h2' h3' (fun hjj=>hne (jz hd h1 (hjj▸h1'))) b o (fY.2 h4) (fY.2 h5)
  ·intro i x W hx he;obtain ⟨j,h1,h2,h3⟩:=hold i x W hx he;have:=(yA (e':=fun i=>match π[i]? with | some j=>e j | none=>none) (ph hb1 hx) hloc).1 (hr.hid j _ W h2 h3);rw [hH0 h1];exact this.mono (T:=fun _ _=>False) (fun _ _ y=>y) hF0 (b9.refl _ _) (fun r k c hc=>hr.fit j _ W h2 h3 r k (c.ren π π.length nx) (by rw [jd,hc];rfl)) (fun _ _ x=>x.elim)
  ·intro i x hx b o hh;obtain ⟨j,h1,h2⟩:=hread i x hx;rw [hH0 h1] at hh;exact hr.dY j _ h2 b o hh
  ·intro i x i' x' W' hx hx' he' b o hh;obtain ⟨j,h1,h2⟩:=hread i x hx;obtain ⟨j',h1',h2',h3'⟩:=hold i' x' W' hx' he';rw [hH0 h1] at hh;rw [hH0 h1'];have:=hr.hap j _ j' _ W' h2 h2' h3' b o hh;exact ⟨fun hne=>this.1 (fun hjj=>hne (jz hd h1 (hjj▸h1'))),fun h4=>this.2 (fY.2 h4)⟩
  ·intro i x W hx he v rows hv;obtain ⟨j,h1,h2,h3⟩:=hold i x W hx he;exact hr.wo j _ W h2 h3 v rows (by rw [hv];rfl)
  ·intro b o u hu ho;obtain ⟨i,x,W,hx,he,hw⟩:=ho;obtain ⟨j,h1,h2,h3⟩:=hold i x W hx he;rw [hH0 h1] at hw;exact hr.dJ b o u hu ⟨j,_,W,h2,h3,hw.imp fY.2 id⟩
 ·simp_all
 ·simp_all
 ·intro e1 F1 w' v x hbv hv hr1 hx1;have hown0:∀ b o,Own (fun i=>match π[i]? with | some j=>e j | none=>none) F0 (fun i=>os[i]?) b o->∃ (i j:Nat) (y:O) (W:Win),π[i]?=some j/\g j=some y/\e j=some W/\(InR y W b o\/F.H j b o):=by
   intro b o ho;obtain ⟨i,y,W,hy,he,hw⟩:=ho;obtain ⟨j,h1,h2⟩:=hread i y hy;simp only [h1] at he;rw [hH0 h1] at hw;exact ⟨i,j,_,W,h1,h2,he,hw.imp fY.2 id⟩
  have hfresh:∀ j W,e j=some W->¬ (nx<=j/\j < nx+(os'.length - π.length)):=by
   grind
  generalize he':(fun i=>if nx<=i/\i < nx+(os'.length - π.length) then e1 (π.length+(i - nx)) else e i:Emb)=e';have hold':∀ j W,e j=some W->e' j=some W:=by
   grind
  have hren:∀ i,i < os'.length->e1 i=e' (gH π π.length nx i):=by
   intro i hi;by_cases him:i < π.length
   ·obtain ⟨j,W,y,h1,_,_,h3,h2⟩:=hemb i him;simp_all [h2,h1,hx1.ee,h3]
   ·have:π[i]?=none:=bF (by omega);simp only [gH,this,<- he']
    grind
  have hle:Emb.le e e':=hold';have hcase:∀ j y W,cH g (dQ π π.length nx 0 os') j=some y->e' j=some W ->
    (g j=some y/\e j=some W/\(∀ i k:Nat,π[i]?=some k->k≠j))\/∃ (i:Nat) (y':O),(os'[i]?).join=some y'/\os'[i]?=some (some y')/\y=y'.ren π π.length nx/\j=gH π π.length nx i/\e1 i=some W:=by
   intro j y W hj hW;rcases fZ (dQ π π.length nx 0 os') g j with ⟨h1,h2⟩ | ⟨p,h1,h2,h3⟩
   ·left;rw [h1] at hj;obtain ⟨W',h3,_⟩:=hr.dom _ _ hj;have:=hold' j W' h3;rw [hW] at this;cases this;refine ⟨hj,h3,fun i k hk hkj=>?_⟩;have hi:i < π.length:=(af.1 hk).1;obtain ⟨p,hp,hp1⟩:=sd π π.length nx os' 0 i (by omega)
    grind
   ·right;obtain ⟨i,z,h4,h5⟩:=jV _ _ _ _ _ _ h1;rw [h5] at h2 h3;rw [h3] at hj;simp only [ay] at hj
    grind
  have hapart:∀ j y W,g j=some y->e j=some W->(∀ i k:Nat,π[i]?=some k->k≠j)->∀ b o,(InR y W b o\/F.H j b o)->¬ Own (fun i=>match π[i]? with | some j=>e j | none=>none) F0 (fun i=>os[i]?) b o:=by
   intro j y W hj he hk b o hw ho;obtain ⟨i,j',y',W',h1,h2,h3,h4⟩:=hown0 b o ho;exact hr.sep hj he h2 h3 (fun h=>hk i j' h1 h.symm) hw h4
  have hcell:∀ j y W,g j=some y->e j=some W->y.gone=false->(∀ i k:Nat,π[i]?=some k->k≠j)->∀ k,k < W.cap->w'.cell? ⟨W.b,W.base+k,none⟩=w.cell? ⟨W.b,W.base+k,none⟩/\w'.frozen? ⟨W.b,W.base+k,none⟩=w.frozen? ⟨W.b,W.base+k,none⟩:=by
   intro j y W hj he hgn hk k hkc;have hin:InR y W W.b (W.base+k):=⟨hgn,rfl,by omega,by omega⟩
   have hlt:=hr.jL (b:=W.b) (o:=W.base+k) ⟨j,y,W,hj,he,.inl hin⟩;exact ⟨hx1.up.cell _ _ hlt (hapart j y W hj he hk _ _ (.inl hin)),hx1.up.frz _ _ hlt⟩
  have hsep:∀ j y W i y' W',g j=some y->e j=some W->(∀ i k:Nat,π[i]?=some k->k≠j)->(os'[i]?).join=some y'->e1 i=some W'->∀ b o,(InR y W b o\/F.H j b o)->¬ (InR y' W' b o\/F1.H i b o):=by
   intro j y W i y' W' hj he hk hi he1 b o hw hw';rcases hx1.own b o ⟨i,y',W',hi,he1,hw'⟩ with h | h
   ·exact hapart j y W hj he hk b o hw h
   ·have:=hr.jL (b:=b) (o:=o) ⟨j,y,W,hj,he,hw⟩;omega
  have hownS:∀ b o,Own (fun i=>match π[i]? with | some j=>e j | none=>none) F0 (fun i=>os[i]?) b o->Own e F g b o:=by
   intro b o ho;obtain ⟨i,j,y,W,_,h2,h3,h4⟩:=hown0 b o ho;exact ⟨j,y,W,h2,h3,h4⟩
  let F':Fz:=⟨F1.f,fun j b o=>(g j≠none/\(∀ i k:Nat,π[i]?=some k->k≠j)/\F.H j b o)\/∃ (i:Nat) (y':O),(os'[i]?).join=some y'/\j=gH π π.length nx i/\F1.H i b o⟩
  have hF1:Fz.le F1 F':=fun _ _ _ h=>h
  have hinj:∀ (i i':Nat),i < os'.length->i' < os'.length->gH π π.length nx i=gH π π.length nx i'->i=i':=by
   intro i i' hi hi' hh;by_cases him:i < π.length
   ·obtain ⟨j,W,y,h1,_,_,h3,h2⟩:=hemb i him;by_cases him':i' < π.length
    ·obtain ⟨j',W',y',h1',_,_,h3',h2'⟩:=hemb i' him';rw [h2,h2'] at hh;subst hh;exact jz hd h1 h1'
    ·have:π[i']?=none:=bF (by omega);rw [h2] at hh;simp only [gH,this] at hh;exact absurd ⟨by omega,by omega⟩ (hfresh j W h3)
   ·have h0:π[i]?=none:=bF (by omega);by_cases him':i' < π.length
    ·obtain ⟨j',W',y',h1',_,_,h3',h2'⟩:=hemb i' him';rw [h2'] at hh;simp only [gH,h0] at hh;exact absurd ⟨by omega,by omega⟩ (hfresh j' W' h3')
    ·have h0':π[i']?=none:=bF (by omega);simp only [gH,h0,h0'] at hh;omega
  have hHold:∀ j y,g j=some y->(∀ i k:Nat,π[i]?=some k->k≠j)->F'.H j=F.H j:=by
   intro j y hj hk;funext b o
   refine propext ⟨fun h=>?_,fun h=> .inl ⟨by rw [hj];simp,hk,h⟩⟩;rcases h with h | ⟨i,y',h1,h2,h3⟩
   ·exact h.2.2
   ·exfalso;have hi:i < os'.length:=by
     by_cases hi:i < os'.length
     ·exact hi
     ·rw [bF (by omega)] at h1;cases h1
    by_cases him:i < π.length
    ·obtain ⟨j',_,_,h4,_,_,_,h5⟩:=hemb i him;exact hk i j' h4 (by rw [<- h5,<- h2])
    ·have h0:π[i]?=none:=bF (by omega);obtain ⟨W,hW,_⟩:=hr.dom _ _ hj;simp only [gH,h0] at h2;exact hfresh j W hW ⟨by omega,by omega⟩
  have hHnew:∀ i y',(os'[i]?).join=some y'->F'.H (gH π π.length nx i)=F1.H i:=by
   intro i y' hi;have hlt:i < os'.length:=by
    by_cases hi':i < os'.length
    ·exact hi'
    ·rw [bF (by omega)] at hi;cases hi
   funext b o
   refine propext ⟨fun h=>?_,fun h=> .inr ⟨i,y',hi,rfl,h⟩⟩;rcases h with ⟨h1,h2,h3⟩ | ⟨i',y2,h1,h2,h3⟩
   ·exfalso;by_cases him:i < π.length
    ·obtain ⟨j',_,_,h4,_,_,_,h5⟩:=hemb i him;exact h2 i j' h4 h5.symm
    ·have h0:π[i]?=none:=bF (by omega);obtain ⟨y3,hy3⟩:=Option.ne_none_iff_exists'.1 h1;obtain ⟨W,hW,_⟩:=hr.dom _ _ hy3;simp only [gH,h0] at hW;exact hfresh _ W hW ⟨by omega,by omega⟩
   ·have hlt':i' < os'.length:=by
     by_cases hi':i' < os'.length
     ·exact hi'
     ·rw [bF (by omega)] at h1;cases h1
    rw [hinj i i' hlt hlt' h2];exact h3
  refine ⟨e',F',hle,?_,fun b o u hu=>hx1.ff b o u hu,((GR hren hbv).1 hv).mono (fun _ _ y=>y) hF1,?_,hx1.up.mono hownS,?_,?_⟩
  ·intro i hi;rw [<- he'];simp only;rw [ab (by omega)]
  ·refine ⟨hr1.np,hr1.ng,?_,?_,?_,?_,?_,?_,?_,?_,?_,?_,?_,?_,hr1.fz,?_⟩
   ·intro j y hj;rcases fZ (dQ π π.length nx 0 os') g j with ⟨h1,h2⟩ | ⟨p,h1,h2,h3⟩
    ·rw [h1] at hj;obtain ⟨W,h3,h4⟩:=hr.dom _ _ hj;exact ⟨W,hold' _ _ h3,h4⟩
    ·obtain ⟨i,z,h4,h5⟩:=jV _ _ _ _ _ _ h1;rw [h5] at h2 h3;rw [h3] at hj;simp only [ay] at hj;obtain ⟨y',rfl,h6⟩:=hj;simp only [aW] at h2;have hi:i < os'.length:=(af.1 h4).1;obtain ⟨W,h7,h8⟩:=hr1.dom i y' (by simp only [h4];rfl);exact ⟨W,by rw [<- h2,<- hren i hi];exact h7,h8⟩
   ·intro j y W hj he r k c hc;rcases hcase j y W hj he with ⟨h1,h2,h3⟩ | ⟨i,y',h1,h1',rfl,rfl,h4⟩
    ·exact hr.fit j y W h1 h2 r k c hc
    ·rw [jd,ay] at hc;obtain ⟨c',hc',_⟩:=hc;exact hr1.fit i y' W h1 h4 r k c' hc'
   ·intro j y W hj he r k c hc hoc;rcases hcase j y W hj he with ⟨h1,h2,h3⟩ | ⟨i,y',h1,h1',rfl,rfl,h4⟩
    ·obtain ⟨u,h5,h6⟩:=hr.cells j y W h1 h2 r k c hc hoc;have hfit:=(hr.fit j y W h1 h2 r k c hc).2;refine ⟨u,?_,cj.mono hle (show Fz.le F F' from hx1.ff) h6⟩;rw [cS,(hcell j y W h1 h2 (pf hc) h3 _ hfit).1,<- cS];exact h5
    ·rw [jd,ay] at hc;obtain ⟨c',hc',rfl⟩:=hc;rw [pC,qe] at hoc;obtain ⟨u,h5,h6⟩:=hr1.cells i y' W h1 h4 r k c' hc' hoc;exact ⟨u,h5,((sO hren (xm (mF hb2 h1') hc')).1 h6).mono (fun _ _ y=>y) hF1⟩
   ·intro j y W hj he hpl k hk;rcases hcase j y W hj he with ⟨h1,h2,h3⟩ | ⟨i,y',h1,h1',rfl,rfl,h4⟩
    ·rw [(hcell j y W h1 h2 (fP hpl) h3 k hk).1,(hcell j y W h1 h2 (fP hpl) h3 k hk).2];exact hr.own j y W h1 h2 hpl k hk
    ·exact hr1.own i y' W h1 h4 (by rw [<- tq];exact hpl) k hk
   ·intro j es W hj he;rcases hcase j _ W hj he with ⟨h1,h2,h3⟩ | ⟨i,y',h1,h1',hy,rfl,h4⟩
    ·obtain ⟨h5,h6,me,ck,h7,h8⟩:=hr.mp j es W h1 h2;refine ⟨h5,h6,me,ck,(hx1.up.blk W.b (n4 h7) fun o ho=>?_).trans h7,h8⟩;obtain ⟨i',j',y',W',g1,g2,g3,g4⟩:=hown0 W.b o ho;exact hr.tH h1 h2 g2 g3 (fun hh=>h3 i' j' g1 hh.symm) g4 rfl
    ·cases y' with
     | mp es' =>
      simp only [O.ren,O.mp.injEq] at hy;subst hy;exact hr1.mp i es W h1 h4
     | st cs=>simp [O.ren] at hy
     | da v' rows'=>simp [O.ren] at hy
     | va v' rows'=>simp [O.ren] at hy
     | oa v' rows'=>simp [O.ren] at hy
     | rest=>simp [O.ren] at hy
     | rst=>simp [O.ren] at hy
   ·intro j y W hj he v rows hv;rcases hcase j y W hj he with ⟨h1,h2,h3⟩ | ⟨i,y',h1,h1',hy,rfl,h4⟩
    ·exact hr.wd j y W h1 h2 v rows hv
    ·exact hr1.wd i y' W h1 h4 v rows (zw (hy.symm.trans hv))
   ·intro j y W hj he v rows hv;rcases hcase j y W hj he with ⟨h1,h2,h3⟩ | ⟨i,y',h1,h1',hy,rfl,h4⟩
    ·exact hr.wv j y W h1 h2 v rows hv
    ·rw [hv] at hy;cases y' with
     | st cs=>simp [O.ren] at hy
     | da v' rows'=>simp [O.ren] at hy
     | va v' rows' =>
      simp only [O.ren,O.va.injEq] at hy;obtain ⟨rfl,rfl⟩:=hy;obtain ⟨h5,h6,h7⟩:=hr1.wv i _ W h1 h4 _ rows' rfl;refine ⟨h5,by simpa using h6,fun row hrow=>?_⟩;obtain ⟨row',hrow',rfl⟩:=List.mem_map.1 hrow;rw [qP];exact h7 row' hrow'
     | mp es=>simp [O.ren] at hy
     | oa v' rows'=>simp [O.ren] at hy
     | rest=>simp [O.ren] at hy
     | rst=>simp [O.ren] at hy
   ·intro j y W j' y' W' hj he hj' he' hne;rcases hcase j y W hj he with ⟨h1,h2,h3⟩ | ⟨i,z,h1,h1',rfl,rfl,h4⟩
    ·rcases hcase j' y' W' hj' he' with ⟨h1b,h2b,h3b⟩ | ⟨i',z',h1b,h1b',rfl,rfl,h4b⟩
     ·exact hr.apart j y W j' y' W' h1 h2 h1b h2b hne
     ·exact fun b o h5 h6=>hsep j y W i' z' W' h1 h2 h3 h1b h4b b o (.inl h5) (.inl (fY.1 h6))
    ·rcases hcase j' y' W' hj' he' with ⟨h1b,h2b,h3b⟩ | ⟨i',z',h1b,h1b',rfl,rfl,h4b⟩
     ·exact fun b o h5 h6=>hsep j' y' W' i z W h1b h2b h3b h1 h4 b o (.inl h6) (.inl (fY.1 h5))
     ·exact fun b o h5 h6=>hr1.apart i z W i' z' W' h1 h4 h1b h4b (fun h=>hne (by rw [h])) b o (fY.1 h5) (fY.1 h6)
   ·intro j y W hj he;rcases hcase j y W hj he with ⟨h1,h2,h3⟩ | ⟨i,y',h1,h1',rfl,rfl,h4⟩
    ·rw [hHold j y h1 h3];exact (hr.hid j y W h1 h2).mono hle (show Fz.le F F' from hx1.ff) hx1.up (hr.fit j y W h1 h2) (fun b o ht hh=>hapart j y W h1 h2 h3 b o hh ht)
    ·rw [hHnew i y' h1,yA (mF hb2 h1') (e':=e1) hren];exact (hr1.hid i y' W h1 h4).mono (T:=fun _ _=>False) (fun _ _ y=>y) hF1 (b9.refl _ _) (hr1.fit i y' W h1 h4) (fun _ _ x=>x.elim)
   ·intro j y hj b o hh;obtain ⟨W,hW⟩:∃ W,e' j=some W:=by
     rcases fZ (dQ π π.length nx 0 os') g j with ⟨h1,h2⟩ | ⟨p,h1,h2,h3⟩
     ·rw [h1] at hj;obtain ⟨W,h3,h4⟩:=hr.dom _ _ hj;exact ⟨W,hold' _ _ h3⟩
     ·obtain ⟨i,z,h4,h5⟩:=jV _ _ _ _ _ _ h1;rw [h5] at h2 h3;rw [h3] at hj;simp only [ay] at hj;obtain ⟨y',rfl,h6⟩:=hj;simp only [aW] at h2;have hi:i < os'.length:=(af.1 h4).1;obtain ⟨W,h7,h8⟩:=hr1.dom i y' (by simp only [h4];rfl);exact ⟨W,by rw [<- h2,<- hren i hi];exact h7⟩
    rcases hcase j y W hj hW with ⟨h1,h2,h3⟩ | ⟨i,y',h1,h1',rfl,rfl,h4⟩
    ·rw [hHold j y h1 h3] at hh;obtain ⟨h5,h6,h7⟩:=hr.dY j y h1 b o hh;have hlt:=df h6;rw [hx1.up.cell _ _ hlt (hapart j y W h1 h2 h3 _ _ (.inr hh)),hx1.up.frz _ _ hlt];exact ⟨h5,h6,h7⟩
    ·rw [hHnew i y' h1] at hh;exact hr1.dY i y' h1 b o hh
   ·intro j y j' y' W' hj hj' he' b o hh;obtain ⟨W,hW⟩:∃ W,e' j=some W:=by
     rcases fZ (dQ π π.length nx 0 os') g j with ⟨h1,h2⟩ | ⟨p,h1,h2,h3⟩
     ·rw [h1] at hj;obtain ⟨W,h3,h4⟩:=hr.dom _ _ hj;exact ⟨W,hold' _ _ h3⟩
     ·obtain ⟨i,z,h4,h5⟩:=jV _ _ _ _ _ _ h1;rw [h5] at h2 h3;rw [h3] at hj;simp only [ay] at hj;obtain ⟨y',rfl,h6⟩:=hj;simp only [aW] at h2;have hi:i < os'.length:=(af.1 h4).1;obtain ⟨W,h7,h8⟩:=hr1.dom i y' (by simp only [h4];rfl);exact ⟨W,by rw [<- h2,<- hren i hi];exact h7⟩
    rcases hcase j y W hj hW with ⟨h1,h2,h3⟩ | ⟨i,z,h1,h1',rfl,rfl,h4⟩
    ·rw [hHold j y h1 h3] at hh;rcases hcase j' y' W' hj' he' with ⟨h1b,h2b,h3b⟩ | ⟨i',z',h1b,h1b',rfl,rfl,h4b⟩
     ·rw [hHold j' y' h1b h3b];exact hr.hap j y j' y' W' h1 h1b h2b b o hh
     ·rw [hHnew i' z' h1b];have:=hsep j y W i' z' W' h1 h2 h3 h1b h4b b o (.inr hh);exact ⟨fun _ h5=>this (.inr h5),fun h5=>this (.inl (fY.1 h5))⟩
    ·rw [hHnew i z h1] at hh;rcases hcase j' y' W' hj' he' with ⟨h1b,h2b,h3b⟩ | ⟨i',z',h1b,h1b',rfl,rfl,h4b⟩
     ·rw [hHold j' y' h1b h3b];exact ⟨fun _ h5=>hsep j' y' W' i z W h1b h2b h3b h1 h4 b o (.inr h5) (.inr hh),fun h5=>hsep j' y' W' i z W h1b h2b h3b h1 h4 b o (.inl h5) (.inr hh)⟩
     ·rw [hHnew i' z' h1b];have:=hr1.hap i z i' z' W' h1 h1b h4b b o hh;exact ⟨fun hne=>this.1 (fun h=>hne (by rw [h])),fun h5=>this.2 (fY.1 h5)⟩
   ·intro j y W hj he v rows hv;rcases hcase j y W hj he with ⟨h1,h2,h3⟩ | ⟨i,y',h1,h1',hy,rfl,h4⟩
    ·exact hr.wo j y W h1 h2 v rows hv
    ·exact hr1.wo i y' W h1 h4 v rows (zv (hy.symm.trans hv))
   ·intro b o u hu ho;have hu:F1 b o=some u:=hu;obtain ⟨j,y,W,hj,he,hw⟩:=ho;rcases hcase j y W hj he with ⟨h1,h2,h3⟩ | ⟨i,y',h1,h1',rfl,rfl,h4⟩
    ·rw [hHold j y h1 h3] at hw;rcases hx1.fz b o u hu with ⟨u',h5⟩ | h5 | h5
     ·exact hr.dJ b o u' h5 ⟨j,y,W,h1,h2,hw⟩
     ·exact hapart j y W h1 h2 h3 b o hw h5
     ·have:=hr.jL (b:=b) (o:=o) ⟨j,y,W,h1,h2,hw⟩;omega
    ·rw [hHnew i y' h1] at hw;exact hr1.dJ b o u hu ⟨i,y',W,h1,h4,hw.imp fY.1 id⟩
  ·intro b o ho;obtain ⟨j,y,W,hj,he,hw⟩:=ho;rcases hcase j y W hj he with ⟨h1,h2,h3⟩ | ⟨i,y',h1,h1',rfl,rfl,h4⟩
   ·rw [hHold j y h1 h3] at hw;exact .inl ⟨j,y,W,h1,h2,hw⟩
   ·rw [hHnew i y' h1] at hw;rcases hx1.own b o ⟨i,y',W,h1,h4,hw.imp fY.1 id⟩ with h | h
    ·exact .inl (hownS b o h)
    ·exact .inr h
  ·intro b o u hu;rcases hx1.fz b o u hu with h | h | h
   ·exact .inl h
   ·exact .inr (.inl (hownS b o h))
   ·exact .inr (.inr h)
def uy:List Operand->List A->Bool
 | [],[]=>true
 | x::l,y::m=>okA x y&&uy l m
 | _,_=>false
theorem kU:∀ {l:List Operand} {m:List A},uy l m=true->∀ {e:Emb} {F:Fz} {fr:Fr} {a:Act},FR e F fr a->cK (b6 e F) (eva fr m) (l.map a.eval)
 | [],[],_,_,_,_,_,_=> .nil
 | x::l,y::m,h,e,F,fr,a,hf=>by
  simp only [uy,ag] at h;exact .cons (aO h.1 hf) (kU h.2 hf)
 | [],_::_,h,_,_,_,_,_=>by cases h
 | _::_,[],h,_,_,_,_,_=>by cases h
theorem oM {P:Program} (h:km P f) (args:Array Value) (w:World):(callFunc f args).run P w= .ok (.enter f args) w:=by
 obtain ⟨fn,c,h1,h2,h3⟩:=h;have h4:fn.name≠ "runtime.NumGoroutine":=by simpa using h2
 simp [callFunc,h1,h4,h3]
theorem sa (hc:oy C f xs σ nx eff):km C.P f:=by
 obtain ⟨args,π,os,v,os',hok,_⟩:=hc;exact hok.1
theorem tO {o:Oper} (hc:oy C f xs σ nx eff)
  (hrun:∀ (e:Emb) (F:Fz) (a:Act) (w:World),FR e F fr a->∃ us:List Value,(execOp a.eval o).run C.P w= .ok (.enter f us.toArray) w/\cK (b6 e F) xs us):Good C o fr nx eff:=by
 obtain ⟨args,π,os,v,os',hok,hl,hl',hd,hx,hlook,hb,hv,hpt,hn,hrd⟩:=hc;simp only [ag] at hb;obtain ⟨⟨⟨hb1,hb2⟩,hb3⟩,hb4⟩:=hb;intro e F g w a hf hr hreads hfresh next Q hk;rw [hn] at hfresh hk;rw [hrd] at hreads;obtain ⟨e0,F0,hf0,hr0,h0,h1,hfin⟩:=pg hr hl hl' hd hreads hfresh hb2 hb4;obtain ⟨us,hrun,hus⟩:=hrun e F a w hf;unfold Oper.wp;rw [hrun,Oper.upon_enter];have hargs:cK (b6 e0 F) args us:=by
  rw [hx] at hus;exact (qz h1 hb1).2 hus
 refine (hok.2 e0 F0 w us hr0 h0 (e6 (fun _ _=>b6.mono (fun _ _ y=>y) (fun b o u hu=>by rw [<- hf0] at hu;exact hu)) hargs)).mono ?_
 grind
theorem AN {o:Oper} {c:Call} (ho:o.op= .call c) (hc:c.callee= .value (.func f))
  (has:uy c.args.toList as=true) (hk:wpR C σ nx K (sem (.call f as) fr σ nx)):∃ eff,K eff/\Good C o fr nx eff:=by
 obtain ⟨eff,h1,h2⟩:=hk;refine ⟨eff,h2,tO h1 fun e F a w hfr=>⟨c.args.toList.map a.eval,?_,kU has hfr⟩⟩;have:(c.args.toList.map a.eval).toArray=c.args.map a.eval:=by rw [<- Array.toList_map,Array.toArray_toList]
 rw [this];simp [execOp,ho,resolve,hc,ax,Deferred.ofValue,Act.eval,invoke,oM (sa h1)]
theorem qS {e:Emb} {F:Fz}:∀ {ps:List (Nat×Nat×Nat)} {us:List Value},cK (kJ e) ps us->cK (b6 e F) (ps.map fun p=>V.ptr p.1 p.2.1 p.2.2) us
 | _,_,.nil=> .nil
 | _,_,.cons a b=> .cons a (qS b)
theorem cK.app {α β:Type} {R:α->β->Prop}:∀ {l l':List α} {m m':List β},cK R l m->cK R l' m'->cK R (l++l') (m++m')
 | _,_,_,_,.nil,h=>h
 | _,_,_,_,.cons a b,h=> .cons a (b.app h)
theorem zr {o:Oper} {c:Call} {f:Operand} {f':A} (ho:o.op= .call c) (hc:c.callee= .value f) (hf:okA f f'=true)
  (has:uy c.args.toList as=true) (hk:wpR C σ nx K (sem (.r0 f' as) fr σ nx)):∃ eff,K eff/\Good C o fr nx eff:=by
 simp only [sem] at hk;split at hk
 ·rename_i g caps hv;obtain ⟨eff,h1,h2⟩:=hk;refine ⟨eff,h2,tO h1 fun e F a w hfr=>?_⟩;have hx:=aO hf hfr;rw [hv] at hx;obtain ⟨us,h3,h4⟩:=hx;refine ⟨c.args.toList.map a.eval++us,?_,(kU has hfr).app (qS h4)⟩;have:(c.args.toList.map a.eval++us).toArray=c.args.map a.eval++us.toArray:=by rw [<- Array.toList_map];simp
  rw [this];simp [execOp,ho,resolve,hc,ax,Deferred.ofValue,h3,invoke,oM (sa h1)]
 ·exact hk.elim
structure lA (C:Ctx) (e:Emb) (F:Fz) (w:World) (S:Nat->Nat->Prop) (x:O) (W:Win):Prop where
 ng:C.ng<=W.b
 fit:∀ r j c,x.cell r j=some c->j < W.wd/\r * W.wd+j < W.cap
 cells:∀ r j c,x.cell r j=some c->(x.dU=false\/c.dW=false)->∃ u,w.cell? ⟨W.b,W.base+r * W.wd+j,none⟩=some u/\cj e F c u
 own:x.plain=true->∀ k,k < W.cap->(w.cell? ⟨W.b,W.base+k,none⟩).isSome=true/\w.frozen? ⟨W.b,W.base+k,none⟩=false
 mp:∀ es,x= .mp es->W.base=0/\W.cap=1/\∃ me ck,w.heap[W.b]?=some (.map me ck)/\Am es me
 wd:∀ v rows,x= .da v rows->v=W.wd/\rows.length=W.n/\∀ row∈rows,row.length=v
 wv:∀ v rows,x= .va v rows->v=W.wd/\rows.length=W.n/\∀ row∈rows,row.length=v
 wo:∀ v rows,x= .oa v rows->v=W.wd/\rows.length=W.n/\∀ row∈rows,row.length=v
 hid:Hid e F w S x W
 dY:∀ b o,S b o->C.ng<=b/\(w.cell? ⟨b,o,none⟩).isSome=true/\w.frozen? ⟨b,o,none⟩=false
 hsw:∀ b o,S b o->¬ InR x W b o
theorem Rel.obj (h:Rel C e F g w) (hi:g i=some x) (he:e i=some W):lA C e F w (F.H i) x W where
 ng:=by obtain ⟨W',h1,h2⟩:=h.dom i x hi;rw [he] at h1;cases h1;exact h2
 fit:=h.fit i x W hi he
 cells:=h.cells i x W hi he
 own:=h.own i x W hi he
 mp:=fun es hx=>by subst hx;exact h.mp i es W hi he
 wd:=h.wd i x W hi he
 wv:=h.wv i x W hi he
 wo:=h.wo i x W hi he
 hid:=h.hid i x W hi he
 dY:=h.dY i x hi
 hsw:=fun b o hh=>(h.hap i x i x W hi hi he b o hh).2
theorem lA.mono {T:Nat->Nat->Prop} (h:lA C e F w S x W) (he:Emb.le e e') (hF:Fz.le F F') (hup:b9 T w w') (hT:∀ b o,T b o->¬ (InR x W b o\/S b o))
  (hm:∀ es,x= .mp es->∀ o,¬ T W.b o):lA C e' F' w' S x W where
 ng:=h.ng
 fit:=h.fit
 cells:=fun r j c hc ho=>by
  obtain ⟨u,h1,h2⟩:=h.cells r j c hc ho;refine ⟨u,?_,cj.mono he hF h2⟩;have:=h.fit r j c hc;rw [hup.cell _ _ (iE h1) (fun ht=>hT _ _ ht (.inl ⟨pf hc,rfl,by omega,by omega⟩))];exact h1
 own:=fun hp k hk=>by
  obtain ⟨h1,h2⟩:=h.own hp k hk;rw [hup.cell _ _ (df h1) (fun ht=>hT _ _ ht (.inl (.of hp ⟨rfl,by omega,by omega⟩))),hup.frz _ _ (df h1)];exact ⟨h1,h2⟩
 mp:=fun es hx=>by
  obtain ⟨h1,h2,me,ck,h3,h4⟩:=h.mp es hx;exact ⟨h1,h2,me,ck,(hup.blk W.b (n4 h3) (hm es hx)).trans h3,h4⟩
 wd:=h.wd
 wv:=h.wv
 wo:=h.wo
 hid:=h.hid.mono he hF hup h.fit hT
 dY:=fun b o hh=>by
  obtain ⟨h1,h2,h3⟩:=h.dY b o hh;rw [hup.cell _ _ (df h2) (fun ht=>hT _ _ ht (.inr hh)),hup.frz _ _ (df h2)];exact ⟨h1,h2,h3⟩
 hsw:=h.hsw
theorem Rel.many (h:Rel C e F g w) (T:Nat->Prop)
  (hup:b9 S w w') (hng:∀ b,b < C.ng->∀ o,¬ S b o) (hle:Emb.le e e') (hf:F'.f=F.f)
  (hold:∀ i x,g' i=some x->¬ T i->g i=some x/\F'.H i=F.H i)
  (hnew:∀ i x,g' i=some x->T i->∃ W,e' i=some W/\lA C e' F' w' (F'.H i) x W)
  (hS:∀ b o,S b o->(w.cell? ⟨b,o,none⟩).isSome=true/\(∃ i x W,T i/\g i=some x/\e i=some W/\(InR x W b o\/F.H i b o)))
  (dY:∀ i x W,T i->g' i=some x->e' i=some W->∀ b o,(InR x W b o\/F'.H i b o)->(∃ i0 x0 W0,T i0/\g i0=some x0/\e i0=some W0/\(InR x0 W0 b o\/F.H i0 b o))\/w.heap.size<=b)
  (hdis:∀ i x W i' x' W',T i->T i'->i≠i'->g' i=some x->e' i=some W->g' i'=some x'->e' i'=some W'->∀ b o,(InR x W b o\/F'.H i b o)->¬ (InR x' W' b o\/F'.H i' b o)) :
  Rel C e' F' g' w'/\∀ b o,Own e' F' g' b o->Own e F g b o\/w.heap.size<=b:=by
 have hF:Fz.le F F':=fun b o u hu=>by rw [hf];exact hu
 have hFb:∀ b o u,F' b o=some u->F b o=some u:=fun b o u hu=>by rw [<- hf];exact hu
 have hemb:∀ i x W,g' i=some x->¬ T i->e' i=some W->e i=some W:=fun i x W hi ht he=>h.emb hle (hold i x hi ht).1 he
 have obj:∀ i x W,g' i=some x->e' i=some W->lA C e' F' w' (F'.H i) x W:=by
  intro i x W hi he;by_cases ht:T i
  ·obtain ⟨W',h1,h2⟩:=hnew i x hi ht;rw [he] at h1;cases h1;exact h2
  ·obtain ⟨h1,h2⟩:=hold i x hi ht;have he0:=hemb i x W hi ht he;rw [h2];refine (h.obj h1 he0).mono hle hF hup (fun b o hs hr=>?_) (fun es hx o hs=>?_)
   ·obtain ⟨_,i0,x0,W0,h3,h4,h5,h6⟩:=hS b o hs;exact h.sep h4 h5 h1 he0 (fun hh=>ht (hh▸h3)) h6 hr
   ·obtain ⟨h3,_⟩:=hS _ o hs;obtain ⟨u,hu⟩:=bX.1 h3;subst hx;exact h.uI hu h1 he0 rfl
 have reg:∀ i x W,g' i=some x->e' i=some W->∀ b o,(InR x W b o\/F'.H i b o)->(∃ i0 x0 W0,(i0=i/\¬ T i\/T i0/\T i)/\g i0=some x0/\e i0=some W0/\(InR x0 W0 b o\/F.H i0 b o))\/(T i/\w.heap.size<=b):=by
  intro i x W hi he b o hr;by_cases ht:T i
  ·rcases dY i x W ht hi he b o hr with ⟨i0,x0,W0,h1,h2⟩ | h1
   ·exact .inl ⟨i0,x0,W0,.inr ⟨h1,ht⟩,h2⟩
   ·exact .inr ⟨ht,h1⟩
  ·obtain ⟨h1,h2⟩:=hold i x hi ht;rw [h2] at hr;exact .inl ⟨i,x,W,.inl ⟨rfl,ht⟩,h1,hemb i x W hi ht he,hr⟩
 have dis:∀ i x W i' x' W',g' i=some x->e' i=some W->g' i'=some x'->e' i'=some W'->i≠i'->∀ b o,(InR x W b o\/F'.H i b o)->¬ (InR x' W' b o\/F'.H i' b o):=by
  intro i x W i' x' W' hi he hi' he' hne b o h1 h2;by_cases ht:T i<;>by_cases ht':T i'
  ·exact hdis i x W i' x' W' ht ht' hne hi he hi' he' b o h1 h2
  ·obtain ⟨h3,h4⟩:=hold i' x' hi' ht';have he0:=hemb i' x' W' hi' ht' he';rw [h4] at h2;rcases dY i x W ht hi he b o h1 with ⟨i0,x0,W0,h5,h6,h7,h8⟩ | h5
   ·exact h.sep h6 h7 h3 he0 (fun hh=>ht' (hh▸h5)) h8 h2
   ·have:=h.jL (b:=b) (o:=o) ⟨i',x',W',h3,he0,h2⟩;omega
  ·obtain ⟨h3,h4⟩:=hold i x hi ht;have he0:=hemb i x W hi ht he;rw [h4] at h1;rcases dY i' x' W' ht' hi' he' b o h2 with ⟨i0,x0,W0,h5,h6,h7,h8⟩ | h5
   ·exact h.sep h6 h7 h3 he0 (fun hh=>ht (hh▸h5)) h8 h1
   ·have:=h.jL (b:=b) (o:=o) ⟨i,x,W,h3,he0,h1⟩;omega
  ·obtain ⟨h3,h4⟩:=hold i x hi ht;obtain ⟨h5,h6⟩:=hold i' x' hi' ht';rw [h4] at h1;rw [h6] at h2;exact h.sep h3 (hemb i x W hi ht he) h5 (hemb i' x' W' hi' ht' he') hne h1 h2
 have dom:∀ i x,g' i=some x->∃ W,e' i=some W:=by
  intro i x hi;by_cases ht:T i
  ·obtain ⟨W,h1,_⟩:=hnew i x hi ht;exact ⟨W,h1⟩
  ·obtain ⟨h1,_⟩:=hold i x hi ht;obtain ⟨W,h2,_⟩:=h.dom i x h1;exact ⟨W,hle _ _ h2⟩
 have hown:∀ b o,Own e' F' g' b o->Own e F g b o\/w.heap.size<=b:=by
  rintro b o ⟨i,x,W,hi,he,hr⟩
  rcases reg i x W hi he b o hr with ⟨i0,x0,W0,_,h1,h2,h3⟩ | ⟨_,h1⟩
  ·exact .inl ⟨i0,x0,W0,h1,h2,h3⟩
  ·exact .inr h1
 refine ⟨⟨C.uj w w' (fun b hb=>hup.blk b (eT hb h.ng) (hng b hb)) h.np,bG h.ng hup.size,?_,fun i x W hi he=>(obj i x W hi he).fit,fun i x W hi he=>(obj i x W hi he).cells,fun i x W hi he=>(obj i x W hi he).own,
  fun i es W hi he=>(obj i _ W hi he).mp es rfl,fun i x W hi he=>(obj i x W hi he).wd,fun i x W hi he=>(obj i x W hi he).wv,fun i x W i' x' W' hi he hi' he' hne b o h1 h2=>dis i x W i' x' W' hi he hi' he' hne b o (.inl h1) (.inl h2),
  fun i x W hi he=>(obj i x W hi he).hid,?_,?_,fun i x W hi he=>(obj i x W hi he).wo,?_,?_⟩,hown⟩
 ·intro i x hi;obtain ⟨W,hW⟩:=dom i x hi;exact ⟨W,hW,(obj i x W hi hW).ng⟩
 ·intro i x hi;obtain ⟨W,hW⟩:=dom i x hi;exact (obj i x W hi hW).dY
 ·intro i x i' x' W' hi hi' he' b o hh;obtain ⟨W,hW⟩:=dom i x hi;refine ⟨fun hne h2=>dis i x W i' x' W' hi hW hi' he' hne b o (.inr hh) (.inr h2),fun h2=>?_⟩;by_cases hne:i=i'
  ·subst hne;rw [hi] at hi';cases hi';exact (obj i x W' hi he').hsw b o hh h2
  ·exact dis i x W i' x' W' hi hW hi' he' hne b o (.inr hh) (.inl h2)
 ·intro b o u hu;have hu:=hFb b o u hu;rw [hup.cell b o (h.n5 hu) (fun hs=>?_)]
  ·exact h.fz b o u hu
  ·obtain ⟨_,i0,x0,W0,_,h1,h2,h3⟩:=hS b o hs;exact h.dJ b o u hu ⟨i0,x0,W0,h1,h2,h3⟩
 ·intro b o u hu ho;have hu:=hFb b o u hu;rcases hown b o ho with h1 | h1
  ·exact h.dJ b o u hu h1
  ·have:=h.n5 hu;omega
theorem ja (i:Nat):∀ (l:List Nat),kh i l=true↔i∈l
 | []=>by simp [kh]
 | j::l=>by
  simp only [kh,jk];by_cases h:j=i
  ·subst h;simp
  ·have:¬ i=j:=fun x=>h x.symm
   simp [h,this,ja i l]
def lq (dp:Bool) (wd:Nat) (rows:List (List D)):O:=match dp with
 | true=> .oa wd rows
 | false=> .da wd rows
theorem jH (dp:Bool) (wd:Nat) (rows:List (List D)):(lq dp wd rows).gone=false:=by cases dp<;>rfl
theorem mG (h:(lq dp wd rows).cell r j=some c):∃ d,(rows[r]?.bind (·[j]?))=some d/\(c= .d d\/dp=true/\c=d.toV):=by
 cases dp with
 | false =>
  grind [lq,O.cell,Option.map_eq_some_iff]
 | true =>
  grind [lq,O.cell,Option.map_eq_some_iff]
theorem mw (hw:∀ row∈rows,row.length=wd) (h:(rows[r]?.bind (·[j]?))=some d):r < rows.length/\j < wd:=by
 grind
theorem oW (hr:r < n) (hj:j < wd):r * wd+j < n * wd:=by
 have:=bw wd (show r+1<=n from hr)
 grind
theorem ml:(d.toV.dW=false->d.dW=false/\d.toV= .d d)/\(∀ dp w rows,d.toV= .own dp w rows->d= .own dp w rows):=by
 cases d<;>simp [D.toV,V.dW,D.dW]
theorem HT.open (h:HT F w dp wd rows u S)
  (hS:∀ b o,S b o->C.ng<=b/\(w.cell? ⟨b,o,none⟩).isSome=true/\w.frozen? ⟨b,o,none⟩=false) :
  ∃ (W':Win) (S':Nat->Nat->Prop),W'.n=rows.length/\(∃ a cap,u= .slice a rows.length cap/\rows.length<=cap/\(cap=0\/a=some ⟨W'.b,W'.base,none⟩/\cap * W'.wd<=W'.cap))/\lA C e F w S' (lq dp wd rows) W' /\
   ∀ b o,(InW W' b o\/S' b o)->S b o:=by
 cases h with
 | nil dp wd a S =>
  have hz:∀ r j c,(lq dp wd []).cell r j≠some c:=by
   intro r j c hc;obtain ⟨d,h1,_⟩:=mG hc;simp at h1
  refine ⟨⟨C.ng,0,0,wd,0⟩,noH,rfl,⟨a,0,rfl,al _,.inl rfl⟩,⟨al _,fun r j c hc=>absurd hc (hz r j c),fun r j c hc=>absurd hc (hz r j c),fun _ k hk=>absurd hk (Nat.not_lt_zero _),?_,?_,?_,?_,?_,fun _ _ hh=>hh.elim,fun _ _ hh=>hh.elim⟩,?_⟩
  ·intro es he;cases dp<;>cases he
  ·intro v rows hv;cases dp<;>cases hv;exact ⟨rfl,rfl,by simp⟩
  ·intro v rows hv;cases dp<;>cases hv
  ·intro v rows hv;cases dp<;>cases hv;exact ⟨rfl,rfl,by simp⟩
  ·exact Hid.none (jH _ _ _) fun r j dp' wd' rows'=>hz r j _
  ·rintro b o (⟨_,h1,h2⟩ | hh)
   ·simp_all
   ·exact hh.elim
 | mk dp wd rows b p cap S Sub us h0 hc hw hSw hu hd hp ho hs ha =>
  have hb:=hS _ _ (hSw 0 h0);have hone:∀ r j d,(rows[r]?.bind (·[j]?))=some d->r < cap/\j < wd:=fun r j d h1=>by
   grind
  refine ⟨⟨b,p,cap * wd,wd,rows.length⟩,fun b' o=>∃ r j,Sub r j b' o,rfl,⟨_,cap,rfl,hc,.inr ⟨rfl,al _⟩⟩,⟨hb.1,?_,?_,?_,?_,?_,?_,?_,?_,?_,?_⟩,?_⟩
  ·intro r j c hcc;obtain ⟨d,h1,_⟩:=mG hcc;have h2:=hone r j d h1;exact ⟨h2.2,oW h2.1 h2.2⟩
  ·intro r j c hcc hoc;obtain ⟨d,h1,h2⟩:=mG hcc;refine ⟨us r j,hu r j d h1,?_⟩;have hdo:d.dW=false/\c= .d d:=by
    rcases h2 with rfl | ⟨rfl,rfl⟩
    ·refine ⟨?_,rfl⟩;cases d with
     | own dp' wd' rows' =>
      have:=hp r j dp' wd' rows' h1;subst this;simp only [lq,O.cell,ay] at hcc;obtain ⟨d',h3,h4⟩:=hcc;rw [h1] at h3;cases h3;cases h4
     | _=>rfl
    ·exact ml.1 (hoc.resolve_left (by simp [lq,O.dU]))
   rw [hdo.2];exact hd r j d h1 hdo.1
  ·simp_all
  ·intro es he;cases dp<;>cases he
  ·intro v rows hv;cases dp<;>cases hv;exact ⟨rfl,rfl,hw⟩
  ·intro v rows hv;cases dp<;>cases hv
  ·intro v rows hv;cases dp<;>cases hv;exact ⟨rfl,rfl,hw⟩
  ·rw [Hid.plain (jH _ _ _)];refine ⟨Sub,fun r j b' o hh=>⟨⟨r,j,hh⟩,fun hin=>(hs r j b' o hh).2 hin⟩,ha,fun r j dp' wd' rows' hcc=>?_⟩;obtain ⟨d,h1,h2⟩:=mG hcc;have:d= .own dp' wd' rows':=by
    rcases h2 with h2 | ⟨_,h2⟩
    ·cases h2
    ·exact ml.2 _ _ _ h2.symm
   subst this;exact ⟨us r j,hu r j _ h1,ho r j _ _ _ h1⟩
  ·grind
  ·rintro b' o ⟨r,j,hh⟩ hin
   exact (hs r j b' o hh).2 hin.2
  ·rintro b' o (⟨rfl,h1,h2⟩ | ⟨r,j,hh⟩)
   ·have:=hSw (o - p) (by dsimp only at h1 h2;omega)
    rwa [show p+(o - p)=o by dsimp only at h1;omega] at this
   ·grind
theorem HT.shut {dq:Bool} {off len:Nat} (h:lA C e F w S (lq dq wd rows) W) (he:e j=some W) (hd:dq=true->dp=true) (h0:0 < wd) (hu:cj e F (.arr j off len) u) :
  HT F w dp wd ((rows.drop off).take len) u (fun b o=>InW W b o\/S b o):=by
 obtain ⟨W',a,cap,hW,rfl,hn,hlc,hcap⟩:=hu;rw [he] at hW;cases hW;have hwd:wd=W.wd/\rows.length=W.n/\∀ row∈rows,row.length=wd:=by
  cases dq with
  | true=>exact h.wo _ _ rfl
  | false=>exact h.wd _ _ rfl
 have hlen:((rows.drop off).take len).length=len:=by rw [bh,bD];omega
 have hget:∀ (r k:Nat) d,(((rows.drop off).take len)[r]?.bind (·[k]?))=some d->(rows[off+r]?.bind (·[k]?))=some d:=by
  grind
 by_cases hc0:cap=0
 ·have:len=0:=by omega
  subst this;subst hc0;simp only [List.take_zero];exact .nil dp wd a _
 ·obtain ⟨rfl,hcw⟩:=hcap.resolve_left hc0;have hcp:0 < cap * wd:=Nat.mul_pos (by omega) h0;rw [<- hwd.1] at hcw;have hadd:(off+cap) * wd=off * wd+cap * wd:=bK ..;have hcell:∀ (r k:Nat) d,(rows[r]?.bind (·[k]?))=some d->(lq dq wd rows).cell r k=some (match dq with | true=>d.toV | false=> .d d):=by
   intro r k d hh;cases dq<;>simp only [lq,O.cell,hh,aS]
  have haddr:∀ r k:Nat,W.base+off * wd+r * wd+k=W.base+(off+r) * W.wd+k:=by
   grind
  have hinw:∀ k,k < cap * wd->InW W W.b (W.base+off * wd+k):=fun k hk=>⟨rfl,by omega,by omega⟩
  obtain ⟨Sub,s1,s2,s3⟩:=(Hid.plain (jH _ _ _)).1 h.hid;have hval:∀ (r k:Nat) d,(rows[r]?.bind (·[k]?))=some d->∃ v,w.cell? ⟨W.b,W.base+r * W.wd+k,none⟩=some v/\(d.dW=false->bj F d v)/\∀ dp' wd' rows',d= .own dp' wd' rows'->dq=true/\HT F w dp' wd' rows' v (Sub r k):=by
   intro r k d hh;have hc:=hcell r k d hh;cases hdo:d.dW with
   | false =>
    cases dq with
    | false =>
     obtain ⟨v,h1,h2⟩:=h.cells r k _ hc (.inl rfl);exact ⟨v,h1,fun _=>h2,fun dp' wd' rows' hd'=>by rw [hd'] at hdo;cases hdo⟩
    | true =>
     have hv:d.toV= .d d:=by cases d<;>first | rfl | cases hdo
     dsimp only at hc;rw [hv] at hc;obtain ⟨v,h1,h2⟩:=h.cells r k _ hc (.inr rfl);exact ⟨v,h1,fun _=>h2,fun dp' wd' rows' hd'=>by rw [hd'] at hdo;cases hdo⟩
   | true =>
    cases d with
    | own dp' wd' rows' =>
     cases dq with
     | false =>
      obtain ⟨v,h1,h2⟩:=h.cells r k _ hc (.inl rfl);exact nomatch (show bj F (.own dp' wd' rows') v from h2)
     | true =>
      obtain ⟨v,h1,h2⟩:=s3 r k dp' wd' rows' hc;simp_all
    | _=>cases hdo
  have hvd:∀ (r k:Nat) d,(rows[r]?.bind (·[k]?))=some d->w.cell? ⟨W.b,W.base+r * W.wd+k,none⟩=some ((w.cell? ⟨W.b,W.base+r * W.wd+k,none⟩).getD undef):=by
   intro r k d hh;obtain ⟨v,h1,_⟩:=hval r k d hh;rw [h1];rfl
  have key:=HT.mk (F:=F) (w:=w) dp wd ((rows.drop off).take len) W.b (W.base+off * wd) cap (fun b o=>InW W b o\/S b o) (fun r k=>Sub (off+r) k) (fun r k=>(w.cell? ⟨W.b,W.base+(off+r) * W.wd+k,none⟩).getD undef) hcp (by rw [hlen];exact hlc)
   (fun row hr=>hwd.2.2 row (br (cw hr))) (fun k hk=> .inl (hinw k hk)) (fun r k d hh=>by rw [haddr];exact hvd _ _ d (hget r k d hh)) (fun r k d hh hdo=>by
    obtain ⟨v,h1,h2,_⟩:=hval _ _ d (hget r k d hh);rw [h1];exact h2 hdo) (fun r k dp' wd' rows' hh=>by
    obtain ⟨v,h1,_,h2⟩:=hval _ _ _ (hget r k _ hh);exact hd (h2 _ _ _ rfl).1) (fun r k dp' wd' rows' hh=>by
    obtain ⟨v,h1,_,h2⟩:=hval _ _ _ (hget r k _ hh);rw [h1];exact (h2 _ _ _ rfl).2) (fun r k b o hh=>⟨.inr (s1 _ _ b o hh).1,fun hin=>(s1 _ _ b o hh).2 ⟨hin.1,by omega,by omega⟩⟩) (fun r k r' k' b o hne h1=>s2 _ _ _ _ b o (by omega) h1)
  rw [hlen,hwd.1] at key;rw [hwd.1];exact key
theorem Res.tell {v:V} {x:Value} (hr:Rel C e F g w) (T:Nat->Prop) (hle:Emb.le e e') (hee:∀ i,(i < nx\/nx+n<=i)->e' i=e i) (hf:F'.f=F.f)
  (hold:∀ i x,g' i=some x->¬ T i->g i=some x/\F'.H i=F.H i)
  (hnew:∀ i x,g' i=some x->T i->∃ W,e' i=some W/\lA C e' F' w (F'.H i) x W)
  (dY:∀ i x W,T i->g' i=some x->e' i=some W->∀ b o,(InR x W b o\/F'.H i b o)->∃ i0 x0 W0,T i0/\g i0=some x0/\e i0=some W0/\(InR x0 W0 b o\/F.H i0 b o))
  (hdis:∀ i x W i' x' W',T i->T i'->i≠i'->g' i=some x->e' i=some W->g' i'=some x'->e' i'=some W'->∀ b o,(InR x W b o\/F'.H i b o)->¬ (InR x' W' b o\/F'.H i' b o))
  (hv:b6 e' F' v x):Res C e F g w nx n v g' x w:=by
 obtain ⟨h1,h2⟩:=hr.many (S:=fun _ _=>False) T (b9.refl _ w) (fun _ _ _ x=>x) hle hf hold hnew (fun _ _ hh=>hh.elim) (fun i x W ht hi he b o hh=> .inl (dY i x W ht hi he b o hh)) hdis;exact ⟨e',F',hle,hee,fun b o u hu=>by rw [hf];exact hu,hv,h1,b9.refl _ w,h2,fun b o u hu=> .inl ⟨u,by rw [<- hf];exact hu⟩⟩
theorem kR {α:Type}:∀ {cs cs':List α} {j:Nat} {y:α},cu cs j [y]=some cs'->cs'[j]?=some y/\∀ k,k≠j->cs'[k]?=cs[k]?
 | [],cs',j,y,h=>by cases j<;>simp [cu] at h
 | c::cs,cs',0,y,h=>by
  grind [cu,Option.map_eq_some_iff]
 | c::cs,cs',j+1,y,h=>by
  simp only [cu,ay] at h;obtain ⟨t,h1,rfl⟩:=h;obtain ⟨h2,h3⟩:=kR h1
  grind
theorem cR {cs:List V} :(O.st cs).cell r j=some c↔r=0/\cs[j]?=some c:=by
 simp only [O.cell];simp
section
variable {C:Ctx} {e:Emb} {F:Fz} {g:Sto} {w:World} {nx:Nat}
theorem nb {an:Option (Bool×Nat)} {m:List (Nat×O)} (h:tB σ c an=some (d,m)) :
  (m=[]/\c.asD=some d)\/(m=[]/\∃ dp w,d= .own dp w []/\c= .d .nil) \/
   ∃ j off len dq dp w rows,c= .arr j off len/\m=[(j,lq dq w rows)]/\d= .own dp w ((rows.drop off).take len)/\0 < w/\(dq=true->dp=true):=by
 unfold tB at h;split at h
 ·grind
 ·rename_i dp w;split at h
  ·grind
  ·split at h
   ·rename_i w' rows hj;split at h
    ·rename_i hb;cases h;simp only [ag,Nat.blt_eq] at hb;have:=aN hb.1;subst this;exact .inr (.inr ⟨_,_,_,false,dp,w,rows,rfl,rfl,rfl,hb.2,nofun⟩)
    ·cases h
   ·rename_i w' rows hj;split at h
    ·rename_i hb;cases h;simp only [ag,Nat.blt_eq] at hb;have:=aN hb.1;subst this;exact .inr (.inr ⟨_,_,_,true,true,w,rows,rfl,rfl,rfl,hb.2,fun _=>rfl⟩)
    ·cases h
   ·cases h
  ·cases h
theorem nQ {σ:Ob}:∀ {row:List V} {ws:List (Option (Bool×Nat))} {ds:List D} {mv:List (Nat×O)},j3 σ row ws=some (ds,mv) ->
  ds.length=row.length/\∃ ms:List (List (Nat×O)),ms.length=ds.length/\mv=ms.flatten/\∀ (q:Nat) d,ds[q]?=some d->∃ c an m,row[q]?=some c/\ms[q]?=some m/\tB σ c an=some (d,m)
 | [],[],ds,mv,h=>by cases h;exact ⟨rfl,[],rfl,rfl,by simp⟩
 | [],_::_,ds,mv,h=>by cases h
 | x::l,[],ds,mv,h=>by cases h
 | x::l,c::ws,ds,mv,h=>by
  simp only [j3] at h;split at h
  ·rename_i d m ds' mv' h1 h2;cases h;obtain ⟨h3,ms,h5,rfl,h4⟩:=nQ h2;refine ⟨by simp [h3],m::ms,by simp [h5],by simp,fun q d' hq=>?_⟩
   grind
  ·cases h
theorem jR:∀ {l m:List Nat},kG (l++m)=true->∀ i,i∈l->¬ i∈m
 | [],m,h,i,hi=>by cases hi
 | x::l,m,h,i,hi=>by
  simp only [cN,kG] at h;cases hm:kh x (l++m) with
  | true=>rw [hm] at h;cases h
  | false =>
   rw [hm] at h;have hx:¬ x∈l++m:=fun hh=>by rw [(ja x _).2 hh] at hm;cases hm
   rcases aQ.1 hi with rfl | hi
   ·simp_all
   ·exact jR h i hi
theorem mD:∀ {l m:List Nat},kG (l++m)=true->kG m=true
 | [],m,h=>h
 | x::l,m,h=>by
  simp only [cN,kG] at h;cases hm:kh x (l++m) with
  | true=>rw [hm] at h;cases h
  | false=>rw [hm] at h;exact mD h
theorem tQ:∀ {ms:List (List (Nat×O))},kG (ms.flatten.map (·.1))=true->∀ {q q':Nat} {m m':List (Nat×O)},q≠q'->ms[q]?=some m->ms[q']?=some m'->∀ p∈m,∀ p'∈m',p.1≠p'.1
 | [],_,q,q',m,m',_,h,_,_,_,_,_=>by simp at h
 | a::ms,hd,q,q',m,m',hne,h,h',p,hp,p',hp'=>by
  simp only [List.flatten_cons,fa] at hd;have hin:∀ (q:Nat) (m:List (Nat×O)) p,ms[q]?=some m->p∈m->p.1∈ms.flatten.map (·.1):=fun q m p hq hp=>List.mem_map_of_mem (List.mem_flatten.2 ⟨m,aP hq,hp⟩)
  cases q with
  | zero =>
   simp only [az,aw] at h;subst h;cases q' with
   | zero=>exact absurd rfl hne
   | succ q' =>
    intro hh;exact jR hd p.1 (List.mem_map_of_mem hp) (hh▸hin q' m' p' (by simpa using h') hp')
  | succ q =>
   cases q' with
   | zero =>
    simp only [az,aw] at h';subst h';intro hh;exact jR hd p'.1 (List.mem_map_of_mem hp') (hh▸hin q m p (by simpa using h) hp)
   | succ q'=>exact tQ (q:=q) (q':=q') (mD hd) (fun hh=>hne (by rw [hh])) (by simpa using h) (by simpa using h') p hp p' hp'
theorem jK:∀ (l:List (Nat×O)) (g:Sto) (r:Pt) (k:Nat),cH g (l.map (fun p=>(p.1,none))++r) k=cH (fun q=>if q∈l.map (·.1) then none else g q) r k
 | [],g,r,k=>by simp
 | p::l,g,r,k=>by
  simp only [cT,cN,cH,jK l];congr 1;funext q
  by_cases h1:q∈l.map (·.1)
  ·simp [h1]
  ·by_cases h2:q=p.1
   ·simp [h1,h2,upd]
   ·simp [h1,h2,upd]
theorem vZ (hr:Rel C e F g w) {row:List V} {ws:List (Option (Bool×Nat))} {ds:List D} {mv:List (Nat×O)} (hi:g i=some (.va wd [row])) (hp:j3 σ row ws=some (ds,mv)) (hm:∀ p∈mv,g p.1=some p.2) (hd:kG (i::mv.map (·.1))=true)
  {v:V} {x:Value} (hv:b6 e F v x):Res C e F g w nx 0 v (cH g (mv.map (fun p=>(p.1,none))++[(i,some (.oa wd [ds]))])) x w:=by
 obtain ⟨W,hW,_⟩:=hr.dom i _ hi;have ob:=hr.obj hi hW;obtain ⟨hlen,ms,hml,rfl,hget⟩:=nQ hp;have hdm:kG (ms.flatten.map (·.1))=true:=mD (l:=[i]) hd;have him:¬ i∈ms.flatten.map (·.1):=fun hh=>jR (l:=[i]) hd i (by simp) hh
 obtain ⟨v1,v2,v3⟩:=ob.wv _ _ rfl;have hrow:row.length=wd:=v3 row (by simp)
 let Rg:Nat->Nat->Nat->Prop:=fun k b o=>∃ y Wk,g k=some y/\e k=some Wk/\(InR y Wk b o\/F.H k b o)
 have hRg:∀ {k k' b o},k≠k'->Rg k b o->¬ Rg k' b o:=fun hne ⟨y,Wk,h1,h2,h3⟩ ⟨y',Wk',h1',h2',h3'⟩=>hr.sep h1 h2 h1' h2' hne h3 h3'
 let Sub:Nat->Nat->Nat->Nat->Prop:=fun r q b o=>r=0/\∃ m,ms[q]?=some m/\∃ p∈m,Rg p.1 b o
 let S':Nat->Nat->Prop:=fun b o=>∃ p∈ms.flatten,Rg p.1 b o
 let F':Fz:=⟨F.f,fun k=>if k=i then S' else F.H k⟩
 have hF:Fz.le F F':=fun _ _ _ h=>h
 have hHi:F'.H i=S':=by simp [F']
 have hg':∀ k y,cH g (ms.flatten.map (fun p=>(p.1,none))++[(i,some (.oa wd [ds]))]) k=some y->(k=i/\y= .oa wd [ds])\/(k≠i/\¬ k∈ms.flatten.map (·.1)/\g k=some y):=by
  intro k y hk;rw [jK] at hk;simp only [cH,upd] at hk
  grind
 have hSi:∀ b o,S' b o->¬ InW W b o:=by
  rintro b o ⟨p,hp1,hh⟩ h2
  have hne:p.1≠i:=fun h=>him (h▸List.mem_map_of_mem hp1)
  exact hRg hne hh ⟨_,W,hi,hW,.inl ⟨rfl,h2⟩⟩
 have hcellv:∀ q c,row[q]?=some c->(O.va wd [row]).cell 0 q=some c:=fun q c h=>by simp [O.cell,h]
 have hcello:∀ r q c,(O.oa wd [ds]).cell r q=some c->r=0/\∃ d,ds[q]?=some d/\c=d.toV:=by
  intro r q c h;simp only [O.cell,ay] at h;obtain ⟨d,h1,rfl⟩:=h;cases r with
  | zero=>exact ⟨rfl,d,by simpa using h1,rfl⟩
  | succ r=>simp at h1
 refine Res.tell hr (e':=e) (F':=F') (fun k=>k=i\/k∈ms.flatten.map (·.1)) (fun _ _ h=>h) (fun _ _=>rfl) rfl (fun k y hk ht=>?_) ?_ ?_ ?_ (hv.mono (fun _ _ h=>h) hF)
 ·have h1:k≠i:=fun h=>ht (.inl h)
  rcases hg' k y hk with ⟨h,_⟩ | ⟨_,_,h⟩
  ·exact absurd h h1
  ·exact ⟨h,by simp only [F',h1,aV]⟩
 ·intro k y hk ht;rcases hg' k y hk with ⟨rfl,rfl⟩ | ⟨h1,h2,_⟩
  ·refine ⟨W,hW,⟨ob.ng,?_,?_,fun _=>ob.own rfl,nofun,nofun,nofun,?_,?_,?_,?_⟩⟩
   ·intro r q c hc;obtain ⟨rfl,d,h1,rfl⟩:=hcello r q c hc;obtain ⟨c,an,m,h2,h3,h4⟩:=hget q d h1;exact ob.fit 0 q c (hcellv q c h2)
   ·intro r q c hc hoc;obtain ⟨rfl,d,h1,rfl⟩:=hcello r q c hc;obtain ⟨c,an,m,h2,h3,h4⟩:=hget q d h1;obtain ⟨u,h5,h6⟩:=ob.cells 0 q c (hcellv q c h2) (.inl rfl);obtain ⟨h7,h8⟩:=ml.1 (hoc.resolve_left (by simp [O.dU]));refine ⟨u,h5,?_⟩;rw [h8];rcases nb h4 with ⟨_,h9⟩ | ⟨_,dp,w',rfl,_⟩ | ⟨_,_,_,_,dp,w',rows',_,_,rfl,_⟩
    ·exact (jD (b6.lF (fu.lR h6)) h9).mono hF
    ·cases h7
    ·cases h7
   ·intro v rows hx;cases hx;exact ⟨v1,by simpa using v2,fun r hr'=>by simp only [bA] at hr';subst hr';rw [hlen];exact hrow⟩
   ·rw [hHi,Hid.plain rfl];refine ⟨Sub,?_,?_,?_⟩
    ·rintro r q b o ⟨rfl,m,h1,p,h2,h3⟩
     have hm':p∈ms.flatten:=List.mem_flatten.2 ⟨m,aP h1,h2⟩;exact ⟨⟨p,hm',h3⟩,hSi b o ⟨p,hm',h3⟩⟩
    ·rintro r q r' q' b o hne ⟨rfl,m,h1,p,h2,h3⟩ ⟨rfl,m',h1',p',h2',h3'⟩
     exact hRg (tQ hdm (show q≠q' by omega) h1 h1' p h2 p' h2') h3 h3'
    ·intro r q dp wd' rows hc;obtain ⟨rfl,d,h1,hdv⟩:=hcello r q _ hc;have:=ml.2 _ _ _ hdv.symm;subst this;obtain ⟨c,an,m,h2,h3,h4⟩:=hget q _ h1;obtain ⟨u,h5,h6⟩:=ob.cells 0 q c (hcellv q c h2) (.inl rfl);refine ⟨u,h5,?_⟩;rcases nb h4 with ⟨_,h9⟩ | ⟨_,dp',w',h9,rfl⟩ | ⟨j,off,len,dq,dp',w',rows',rfl,rfl,h9,h10,h11⟩
     ·exact nomatch jD (b6.lF (fu.lR h6)) h9
     ·cases h9;obtain ⟨a,rfl⟩:=bj.iQ h6;exact .nil _ _ _ _
     ·cases h9;have hjm:(j,lq dq wd' rows')∈ms.flatten:=List.mem_flatten.2 ⟨_,aP h3,by simp⟩;have hgj:=hm _ hjm;obtain ⟨Wj,hWj,_⟩:=hr.dom j _ hgj;have:=HT.shut (dp:=dp) (hr.obj hgj hWj) hWj h11 h10 h6;refine (this.mono (T:=fun _ _=>False) hF (b9.refl _ _) fun _ _ x=>x.elim).sub fun b o hh=>⟨rfl,_,h3,_,bA.2 rfl,_,Wj,hgj,hWj,hh.imp (fun h=>⟨jH _ _ _,h⟩) id⟩
   ·rw [hHi];rintro b o ⟨p,h1,y,Wk,h2,h3,h4⟩
    have obk:=hr.obj h2 h3;rcases h4 with h4 | h4
    ·obtain ⟨_,_,m,h5,h6⟩:True/\True/\∃ m,m∈ms/\p∈m:=⟨trivial,trivial,List.mem_flatten.1 h1⟩
     obtain ⟨q,hq⟩:=List.mem_iff_getElem?.1 h5;have hgp:=hm p h1;rw [h2] at hgp;have hpl:y.plain=true:=by
      have hql:∃ d,ds[q]?=some d:=by
       by_cases hql:q < ds.length
       ·exact ⟨_,aa hql⟩
       ·exfalso;have:=(af.1 hq).1;omega
      obtain ⟨d,hd1⟩:=hql;obtain ⟨c,an,m',_,h7,h8⟩:=hget q d hd1;rw [hq] at h7;cases h7;rcases nb h8 with ⟨rfl,_⟩ | ⟨rfl,_⟩ | ⟨j,off,len,dq,dp,w',rows',_,rfl,_⟩
      ·cases h6
      ·cases h6
      ·simp only [bA] at h6;subst h6;cases hgp;cases dq<;>rfl
     obtain ⟨_,rfl,h9,h10⟩:=h4;refine ⟨obk.ng,?_⟩;have:=obk.own hpl (o - Wk.base) (by omega)
     rwa [show Wk.base+(o - Wk.base)=o by omega] at this
    ·exact obk.dY b o h4
   ·rw [hHi];exact fun b o hh h2=>hSi b o hh h2.2
  ·exact absurd (ht.resolve_left h1) h2
 ·intro k y Wk ht hk hek b o hh;rcases hg' k y hk with ⟨rfl,rfl⟩ | ⟨h1,h2,_⟩
  ·rw [hW] at hek;cases hek;rw [hHi] at hh;rcases hh with hh | ⟨p,h1,y,Wk,h2,h3,h4⟩
   ·exact ⟨k,_,W,.inl rfl,hi,hW,.inl ⟨rfl,hh.2⟩⟩
   ·exact ⟨p.1,y,Wk,.inr (List.mem_map_of_mem h1),h2,h3,h4⟩
  ·exact absurd (ht.resolve_left h1) h2
 ·intro k y Wk k' y' Wk' ht ht' hne hk hek hk' hek';rcases hg' k y hk with ⟨rfl,rfl⟩ | ⟨h1,h2,_⟩
  ·rcases hg' k' y' hk' with ⟨h,_⟩ | ⟨h1,h2,_⟩
   ·exact absurd h.symm hne
   ·exact absurd (ht'.resolve_left h1) h2
  ·exact absurd (ht.resolve_left h1) h2
end
end Go.Proofs.YtggoiofammbchaaGreatDoor.Loc
