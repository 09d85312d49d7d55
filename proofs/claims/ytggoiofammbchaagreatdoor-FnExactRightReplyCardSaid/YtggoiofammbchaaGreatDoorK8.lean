/- Part 8 of a chain that ends in the statement named in GOCLAIM.json; no condition. -/
import Derived.Test.YtggoiofammbchaaGreatDoorK7
import Derived.Defers
set_option maxRecDepth 100000
set_option maxHeartbeats 2000000
set_option linter.all false
namespace Go.Proofs.YtggoiofammbchaaGreatDoor.Loc
open Go
variable {C:Ctx} {F:Fz} {P:Program} {a:Act} {args cs cs' vs:List V} {c i j k k0 len m n nt nx off s wd:Nat} {dp:Bool} {e:Emb} {f:FuncId} {fn:Func} {fr fr':Fr} {g g':Sto} {l:L} {op:I} {rows:List (List D)} {rv:ResultVar} {v x':V} {val x:Value} {w:World} {y:O} {σ σ':Ob}
theorem sS (σ:Ob) (i:Nat):look (fS σ i)=upd (look σ) i none:=by
 funext j
 rw [kX];rfl
theorem nq (hr:Rel C e F (look σ) w) {v':V} (h:sI σ v=some (v',i)) (hv:cj e F v x) :
  ∃ F',Fz.le F F'/\cj e F' v' x/\Rel C e F' (look (fS σ i)) w/\(∀ b o,Own e F' (look (fS σ i)) b o->Own e F (look σ) b o)/\(∀ b o u,F' b o=some u->(∃ u',F b o=some u')\/Own e F (look σ) b o\/w.heap.size<=b):=by
 unfold sI at h;split at h
 ·rename_i j off len;split at h
  ·rename_i wd rows hl;cases h;have:=Res.freeze (Res.same (nx:=0) hr (v:= .arr i off len) (b6.lF (fu.lR hv))) hl;obtain ⟨e',F',h1,h2,h3,h4,h5,h6,h7,h8⟩:=this;have he:e'=e:=by
    grind
   subst he;rw [<- sS] at h5 h7;refine ⟨F',h3,h4,h5,?_,h8⟩;intro b o ho;rcases h7 b o ho with h | h
   ·exact h
   ·have:=h5.jL ho;omega
  ·cases h
 ·cases h
theorem qI {e:Emb} {F:Fz}:∀ {cs cs':List V} {us:List Value} {j:Nat} {y:V} {u:Value},cu cs j [y]=some cs'->cK (cj e F) cs us->us[j]?=some u->cj e F y u->cK (cj e F) cs' us
 | [],cs',us,j,y,u,h,_,_,_=>by cases j<;>simp [cu] at h
 | c::cs,cs',us,0,y,u,h,ha,hu,hy=>by
  simp only [cu,ay] at h;obtain ⟨t,h1,rfl⟩:=h;have:t=cs:=by cases cs<;>simpa [cu] using h1.symm
  subst this;cases ha with
  | cons p q =>
   simp only [az,aw] at hu;subst hu;exact .cons hy q
 | c::cs,cs',us,j+1,y,u,h,ha,hu,hy=>by
  simp only [cu,ay] at h;obtain ⟨t,h1,rfl⟩:=h;cases ha with
  | cons p q=>exact .cons p (qI h1 q (by simpa using hu) hy)
theorem Sat.frz {ds e0 F0 g0 w0 fr σ nx a w} (h:Sat C m nt ds e0 F0 g0 w0 fr σ nx a w) {c:Option Nat} (hf:yR σ c (cP fr s)=some (v,i)):Sat C m nt ds e0 F0 g0 w0 ((s,v)::fr) (fS σ i) nx a w:=by
 obtain ⟨e,F,h1,h2,h3,h4,h5,h6,h7⟩:=h;have key:∃ F',Fz.le F F'/\b6 e F' v (a.tmps.getD s undef)/\Rel C e F' (look (fS σ i)) w/\(∀ b o,Own e F' (look (fS σ i)) b o->Own e F (look σ) b o)/\(∀ b o u,F' b o=some u->(∃ u',F b o=some u')\/Own e F (look σ) b o\/w.heap.size<=b):=by
  have hv:=h1 s;generalize cP fr s=v0 at hf hv;cases c with
  | none =>
   simp only [yR] at hf;have hv':cj e F v0 (a.tmps.getD s undef):=by
    cases v0 with
    | arr j off len=>exact hv
    | _=>cases hf
   obtain ⟨F',k1,k2,k3⟩:=nq h2 hf hv';exact ⟨F',k1,b6.lF (fu.lR k2),k3⟩
  | some j =>
   cases v0 with
   | agg cs =>
    simp only [yR] at hf;split at hf
    ·rename_i x hx;split at hf
     ·rename_i x' i' hz;split at hf
      ·rename_i cs' hs;cases hf;obtain ⟨us,hu,ha⟩:=hv;obtain ⟨u,hju,hcu⟩:=ha.get j _ hx;obtain ⟨F',k1,k2,k3⟩:=nq h2 hz hcu;exact ⟨F',k1,⟨us,hu,qI hs (e6 (fun _ _=>cj.mono (fun _ _ y=>y) k1) ha) hju k2⟩,k3⟩
      ·cases hf
     ·cases hf
    ·cases hf
   | _=>cases hf
 obtain ⟨F',k1,k2,k3,k4,k5⟩:=key;exact ⟨e,F',(h1.mono (fun _ _ y=>y) k1).Be k2,k3,h3,h4,h5,h6.trans ⟨fun i W _ hi=>hi,k1,b9.refl _ _,fun b o ho=> .inl (k4 b o ho),k5⟩,h7⟩
theorem nR {x:O} (h:g i=some x) (hx:x.gone=false) (hy:y.gone=false) {b o:Nat}:Own e F (upd g i (some y)) b o↔Own e F g b o:=by
 constructor
 ·rintro ⟨k,z,W,h1,h2,h3⟩
  unfold upd at h1;by_cases hk:k=i
  ·subst hk;rw [aj rfl] at h1;cases h1;exact ⟨k,x,W,h,h2,h3.imp (fun hh=>⟨hx,hh.2⟩) id⟩
  ·rw [ab hk] at h1;exact ⟨k,z,W,h1,h2,h3⟩
 ·rintro ⟨k,z,W,h1,h2,h3⟩
  by_cases hk:k=i
  ·subst hk;rw [h] at h1;cases h1;exact ⟨k,y,W,by simp [upd],h2,h3.imp (fun hh=>⟨hy,hh.2⟩) id⟩
  ·exact ⟨k,z,W,by simp [upd,hk,h1],h2,h3⟩
theorem Rel.qR (h:Rel C e F g w) (hi:g i=some (.st cs))
  (hc:∀ (j:Nat) c',cs'[j]?=some c'->∃ c,cs[j]?=some c/\(c'=c\/c.dW=false/\∀ W u,e i=some W->w.cell? ⟨W.b,W.base+j,none⟩=some u->cj e F c u->cj e F c' u)):Rel C e F (upd g i (some (.st cs'))) w:=by
 obtain ⟨W,hW,hng⟩:=h.dom i _ hi;have hcell:∀ (j:Nat) c',cs'[j]?=some c'->c'.dW=false->∃ u,w.cell? ⟨W.b,W.base+j,none⟩=some u/\cj e F c' u:=by
  intro j c' hj ho;obtain ⟨c,h1,h2⟩:=hc j c' hj;have hco:c.dW=false:=by
   grind
  obtain ⟨u,h3,h4⟩:=h.cells i _ W hi hW 0 j c (by simp [O.cell,h1]) (.inr hco)
  grind
 have hsame:∀ (j:Nat) dp wd rows,cs'[j]?=some (.own dp wd rows)->cs[j]?=some (.own dp wd rows):=by
  intro j dp wd rows hj;obtain ⟨c,h1,h2⟩:=hc j _ hj;rcases h2 with rfl | h2
  ·exact h1
  ·obtain ⟨u,h3,h4⟩:=h.cells i _ W hi hW 0 j c (by simp [O.cell,h1]) (.inr h2.1);simp only [Nat.zero_mul,cr] at h3;exact (h2.2 W u hW h3 h4).elim
 rw [<- oJ F i];refine h.put (S:=fun _ _=>False) (j:=i) (x':= .st cs') (W':=W) (b9.refl _ w) (fun _ _ _ x=>x) (by simp [upd]) hW (fun _ _ y=>y) (fun k x hk hx=>by simpa [upd,hk] using hx) (fun _ _ hh=>hh.elim) (fun _ _ _ hh=>hh.elim) hng ?_ ?_ ?_ (by intro v rows h;cases h) (by intro v rows h;cases h) (by intro v rows h;cases h) ?_ ?_ rfl (fun _ _ hh=>hh.elim) ?_ ?_ ?_
 ·intro r k c hcc;simp only [O.cell] at hcc;split at hcc
  ·rename_i hr;obtain ⟨c0,h1,_⟩:=hc k c hcc;exact h.fit i _ W hi hW r k c0 (by simp [O.cell,hr,h1])
  ·cases hcc
 ·simp_all [O.cell,O.dU]
 ·exact h.own i _ W hi hW rfl
 ·intro k x W' hk hx he b o h1 h2;exact h.sep (by simpa [upd,hk] using hx) he hi hW hk h1 (h2.imp (fun hh=>⟨rfl,hh.2⟩) id)
 ·intro b o u hu hh;exact h.dJ b o u hu ⟨i,_,W,hi,hW,hh.imp (fun hh=>⟨rfl,hh.2⟩) id⟩
 ·obtain ⟨Sub,h1,h2,h3⟩:=(Hid.plain (x:= .st cs) rfl).1 (h.hid i _ W hi hW);refine (Hid.plain (x:= .st cs') rfl).2 ⟨Sub,h1,h2,fun r j dp wd rows hcc=>h3 r j dp wd rows ?_⟩;simp only [O.cell] at hcc ⊢
  grind
 ·exact h.dY i _ hi
 ·exact fun b o hh h2=>(h.hap i _ i _ W hi hi hW b o hh).2 ⟨rfl,h2.2⟩
theorem jI {α:Type} {y:α}:∀ {cs cs':List α} {j:Nat},cu cs j [y]=some cs'->∀ (k:Nat) c',cs'[k]?=some c'->∃ c,cs[k]?=some c/\(k=j/\c'=y\/k≠j/\c'=c)
 | [],cs',j,h,k,c',hk=>by cases j<;>simp [cu] at h
 | c::cs,cs',0,h,k,c',hk=>by
  grind [cu,Option.map_eq_some_iff,List.getElem?_cons_zero,Option.some.injEq]
 | c::cs,cs',j+1,h,k,c',hk=>by
  simp only [cu,ay] at h;obtain ⟨t,h1,rfl⟩:=h;cases k with
  | zero=>simp only [az,aw] at hk;subst hk;exact ⟨c,rfl,.inr ⟨by omega,rfl⟩⟩
  | succ k =>
   obtain ⟨c0,h2,h3⟩:=jI h1 k c' (by simpa using hk);simp_all
theorem lj (h:cellAt σ v=some (i,cs)):v= .ptr i 0 0/\look σ i=some (.st cs):=by
 unfold cellAt at h
 grind
theorem BL {x:V} (h:sI σ x=some (x',j)):∃ w rows,look σ j=some (.da w rows):=by
 unfold sI at h
 grind
theorem Sat.BK {ds e0 F0 g0 w0 fr σ nx a w} (h:Sat C m nt ds e0 F0 g0 w0 fr σ nx a w) {x:V} (h1:cellAt σ (cP fr s)=some (i,cs)) (h2:cs[c]?=some x) (h3:sI σ x=some (x',j)) (h4:cu cs c [x']=some cs') :
  Sat C m nt ds e0 F0 g0 w0 fr (kS (fS σ j) i (some (.st cs'))) nx a w:=by
 obtain ⟨e,F,q1,q2,q3,q4,q5,q6,q7⟩:=h;obtain ⟨hp,hl⟩:=lj h1;obtain ⟨w',rows,hj⟩:=BL h3;have hij:i≠j:=by
  grind
 have hv:=q1 s;rw [hp] at hv;obtain ⟨W,hW,_⟩:=hv;have hxo:x.dW=false:=by
  unfold sI at h3;split at h3
  ·rfl
  ·cases h3
 obtain ⟨u,hu1,hu2⟩:=q2.cells i _ W hl hW 0 c x (by simp [O.cell,h2]) (.inr hxo);obtain ⟨F',k1,k2,k3,k4,k5⟩:=nq q2 h3 hu2;have hl':look (fS σ j) i=some (.st cs):=by rw [kX,ab hij];exact hl
 have hr:=k3.qR hl' (cs':=cs') (by
  intro k c' hk;obtain ⟨c0,hc0,hcase⟩:=jI h4 k c' hk;rcases hcase with ⟨rfl,rfl⟩ | ⟨_,rfl⟩
  ·grind
  ·exact ⟨_,hc0,.inl rfl⟩)
 rw [<- iO] at hr;have hown:∀ b o,Own e F' (look (kS (fS σ j) i (some (.st cs')))) b o->Own e F (look σ) b o:=by
  intro b o ho;rw [iO,nR hl' rfl rfl] at ho;exact k4 b o ho
 exact ⟨e,F',q1.mono (fun _ _ y=>y) k1,hr,q3,q4,q5,q6.trans ⟨fun i W _ hi=>hi,k1,b9.refl _ _,fun b o ho=> .inl (hown b o ho),k5⟩,q7⟩
theorem Rel.empty (h:Rel C e F g w) (hn:e nx=none) :
  ∃ e' F' W',Emb.le e e'/\(∀ i,i≠nx->e' i=e i)/\e' nx=some W'/\W'.n=0/\F'.f=F.f/\Rel C e' F' (upd g nx (some (.da wd []))) w/\(∀ b o,Own e' F' (upd g nx (some (.da wd []))) b o->Own e F g b o):=by
 have hg:g nx=none:=by
  cases hx:g nx with
  | none=>rfl
  | some x=>obtain ⟨W,hW,_⟩:=h.dom nx x hx;rw [hn] at hW;cases hW
 have hz:∀ b o,¬ (InR (.da wd []) ⟨w.heap.size,0,0,wd,0⟩ b o\/noH b o):=by
  rintro b o (⟨_,_,h1,h2⟩ | h1)
  ·simp_all
  ·exact h1
 refine ⟨fun k=>if k=nx then some ⟨w.heap.size,0,0,wd,0⟩ else e k,F.ke nx noH,⟨w.heap.size,0,0,wd,0⟩,?_,?_,by simp,rfl,rfl,?_,?_⟩
 ·intro i W hi
  grind
 ·simp_all
 ·refine h.put (j:=nx) (x':= .da wd []) (W':=⟨w.heap.size,0,0,wd,0⟩) (S:=fun _ _=>False) (b9.refl _ w) (fun _ _ _ x=>x) (by simp [upd]) (by simp) ?_ ?_ (fun _ _ hh=>hh.elim) (fun _ _ _ hh=>hh.elim) h.ng ?_ ?_ ?_ ?_ ?_ (by intro v rows h;cases h) ?_ ?_ rfl (fun _ _ hh=>hh.elim) (Hid.none rfl fun r j dp wd rows hc=>by simp [O.cell] at hc) (fun _ _ hh=>hh.elim) (fun _ _ hh=>hh.elim)
  ·intro i W hi
   grind
  ·intro i x hi hx;simp_all [upd,hi]
  ·simp [O.cell]
  ·simp [O.cell]
  ·simp
  ·simp
  ·simp
  ·simp_all
  ·simp_all
 ·rintro b o ⟨k,x,W,h1,h2,h3⟩
  by_cases hk:k=nx
  ·simp_all [bo,aw,er,upd,hz]
  ·simp only [hk,aV] at h2;simp only [upd,hk,aV] at h1;rw [fW _ _ hk] at h3;exact ⟨k,x,W,h1,h2,h3⟩
theorem tS {W':Win} (he:e nx=some W') (hn:W'.n=0) {u:Value} (h:bj F .nil u):cj e F (.arr nx 0 0) u:=by
 obtain ⟨a,rfl⟩:=h.iQ;exact ⟨W',a,0,he,rfl,by omega,al _,.inl rfl⟩
theorem oV (σ:Ob) (i:Nat) (x:O):look ((i,x)::σ)=upd (look σ) i (some x):=by
 funext k
 simp only [look,jk,upd]
 grind
theorem Sat.emp {ds e0 F0 g0 w0 fr σ nx a w} (h:Sat C m nt ds e0 F0 g0 w0 fr σ nx a w) (h1:cP fr s= .d .nil):Sat C m nt ds e0 F0 g0 w0 ((s,.arr nx 0 0)::fr) ((nx,.da wd [])::σ) (nx+1) a w:=by
 obtain ⟨e,F,q1,q2,q3,q4,q5,q6,q7⟩:=h;obtain ⟨e',F',W',k1,k2,k3,k4,kF,k5,k6⟩:=q2.empty (wd:=wd) (q3 nx (al _));have hF:Fz.le F F':=fun b o u hu=>by rw [kF];exact hu
 have hv:=q1 s;rw [h1] at hv;rw [<- oV] at k5 k6;refine ⟨e',F',(q1.mono k1 hF).Be (b6.lF (fu.lR (tS k3 k4 (hv.mono k1 hF)))),k5,?_,q4,q5,?_,by omega⟩
 ·grind
 ·exact q6.trans ⟨fun i W _ hi=>k1 i W hi,hF,b9.refl _ _,fun b o ho=> .inl (k6 b o ho),fun b o u hu=> .inl ⟨u,by rw [<- kF];exact hu⟩⟩
theorem Sat.sL {ds e0 F0 g0 w0 fr σ nx a w} (h:Sat C m nt ds e0 F0 g0 w0 fr σ nx a w) (h1:cellAt σ (cP fr s)=some (i,cs)) (h2:cs[c]?=some (.d .nil)) (h4:cu cs c [.arr nx 0 0]=some cs') :
  Sat C m nt ds e0 F0 g0 w0 fr ((nx,.da wd [])::kS σ i (some (.st cs'))) (nx+1) a w:=by
 obtain ⟨e,F,q1,q2,q3,q4,q5,q6,q7⟩:=h;obtain ⟨hp,hl⟩:=lj h1;have hv:=q1 s;rw [hp] at hv;obtain ⟨W,hW,_⟩:=hv;have hin:i≠nx:=fun hh=>by rw [hh,q3 nx (al _)] at hW;cases hW
 obtain ⟨e',F',W',k1,k2,k3,k4,kF,k5,k6⟩:=q2.empty (wd:=wd) (q3 nx (al _));have hF:Fz.le F F':=fun b o u hu=>by rw [kF];exact hu
 have hl':upd (look σ) nx (some (.da wd [])) i=some (.st cs):=by simp [upd,hin,hl]
 have hr:=k5.qR hl' (cs':=cs') (by
  intro k c' hk;obtain ⟨c0,hc0,hcase⟩:=jI h4 k c' hk;rcases hcase with ⟨rfl,rfl⟩ | ⟨_,rfl⟩
  ·rw [h2] at hc0;cases hc0;exact ⟨_,h2,.inr ⟨rfl,fun W1 u1 hW1 hu hcu=>tS k3 k4 hcu⟩⟩
  ·exact ⟨_,hc0,.inl rfl⟩)
 have hlook:look ((nx,O.da wd [])::kS σ i (some (.st cs')))=upd (upd (look σ) nx (some (.da wd []))) i (some (.st cs')):=by
  rw [oV,iO];funext k
  unfold upd
  grind
 rw [<- hlook] at hr;have hown:∀ b o,Own e' F' (look ((nx,O.da wd [])::kS σ i (some (.st cs')))) b o->Own e F (look σ) b o:=by
  intro b o ho;rw [hlook,nR hl' rfl rfl] at ho;exact k6 b o ho
 refine ⟨e',F',q1.mono k1 hF,hr,?_,q4,q5,?_,by omega⟩
 ·grind
 ·exact q6.trans ⟨fun i W _ hi=>k1 i W hi,hF,b9.refl _ _,fun b o ho=> .inl (hown b o ho),fun b o u hu=> .inl ⟨u,by rw [<- kF];exact hu⟩⟩
theorem Rel.fresh (h:Rel C e F g w) {W:Win} (hj:g j=some y) (hW:e j=some W) (hn:e nx=none) :
  Rel C (fun k=>if k=nx then some W else e k) (F.ke nx (F.H j)) (upd (upd g j none) nx (some y)) w/\(∀ b o,Own (fun k=>if k=nx then some W else e k) (F.ke nx (F.H j)) (upd (upd g j none) nx (some y)) b o->Own e F g b o):=by
 have hjn:j≠nx:=fun hh=>by rw [hh,hn] at hW;cases hW
 have hle:Emb.le e (fun k=>if k=nx then some W else e k):=by
  intro i W' hi
  grind
 have hless:∀ i x,upd g j none i=some x->g i=some x/\i≠j:=by
  intro i x hi;unfold upd at hi;simp_all
 have hold:∀ i x,i≠nx->upd (upd g j none) nx (some y) i=some x->g i=some x/\i≠j:=by
  intro i x hne hi;simp_all [upd,hne,hless]
 obtain ⟨W0,hW0,hng⟩:=h.dom j y hj;rw [hW] at hW0;cases hW0;refine ⟨?_,?_⟩
 ·refine (h.less fun i x hi=>(hless i x hi).1).CR (S:=fun _ _=>False) (j:=nx) (x':=y) (W':=W) (b9.refl _ w) (fun _ _ _ x=>x) (by simp [upd]) (by simp) hle (fun i x hne hi=>by simpa [upd,hne] using hi) (fun _ _ hh=>hh.elim) (fun _ _ _ hh=>hh.elim) hng
   (h.fit j y W hj hW) (fun r k c hc hoc=>by obtain ⟨u,h1,h2⟩:=h.cells j y W hj hW r k c hc hoc;exact ⟨u,h1,cj.mono hle (fun _ _ _ y=>y) h2⟩) (h.own j y W hj hW) (fun _ _ hh=>hh.elim) (fun es he=>by subst he;exact h.mp j es W hj hW) (h.wd j y W hj hW) (h.wv j y W hj hW) (h.wo j y W hj hW) ?_ ?_ ?_ ?_ ?_
  ·grind [h.sep]
  ·exact fun b o u hu hh=>h.dJ b o u hu ⟨j,y,W,hj,hW,hh⟩
  ·exact (h.hid j y W hj hW).mono (T:=fun _ _=>False) hle (fun _ _ _ y=>y) (b9.refl _ _) (h.fit j y W hj hW) (fun _ _ x=>x.elim)
  ·exact h.dY j y hj
  ·exact fun b o hh=>(h.hap j y j y W hj hj hW b o hh).2
 ·rintro b o ⟨k,x,W',h1,h2,h3⟩
  by_cases hk:k=nx
  ·subst hk;simp only [bo,aw] at h2;subst h2;rw [er] at h3;simp only [upd,bo,aw] at h1;subst h1;exact ⟨j,_,W,hj,hW,h3⟩
  ·simp only [hk,aV] at h2;rw [fW _ _ hk] at h3;exact ⟨k,x,W',(hold k x hk h1).1,h2,h3⟩
theorem Sat.fF {ds e0 F0 g0 w0 fr σ nx a w} (h:Sat C m nt ds e0 F0 g0 w0 fr σ nx a w) (h1:cellAt σ (cP fr s)=some (i,cs)) (h2:cs[c]?=some (.arr j off len)) (h3:look σ j=some (.da wd rows)) (h4:cu cs c [.arr nx off len]=some cs') :
  Sat C m nt ds e0 F0 g0 w0 fr ((nx,.da wd rows)::kS (fS σ j) i (some (.st cs'))) (nx+1) a w:=by
 obtain ⟨e,F,q1,q2,q3,q4,q5,q6,q7⟩:=h;obtain ⟨hp,hl⟩:=lj h1;have hij:i≠j:=by
  grind
 obtain ⟨W,hW,_⟩:=q2.dom j _ h3;have hv:=q1 s;rw [hp] at hv;obtain ⟨Wi,hWi,_⟩:=hv;have hnx:=q3 nx (al _);have hin:i≠nx:=fun hh=>by rw [hh,hnx] at hWi;cases hWi
 have hjn:j≠nx:=fun hh=>by rw [hh,hnx] at hW;cases hW
 obtain ⟨hr,hown⟩:=q2.fresh h3 hW hnx;have hl':upd (upd (look σ) j none) nx (some (.da wd rows)) i=some (.st cs):=by simp [upd,hin,hij,hl]
 have hr2:=hr.qR hl' (cs':=cs') (by
  intro k c' hk;obtain ⟨c0,hc0,hcase⟩:=jI h4 k c' hk;rcases hcase with ⟨rfl,rfl⟩ | ⟨_,rfl⟩
  ·rw [h2] at hc0;cases hc0;refine ⟨_,h2,.inr ⟨rfl,fun W1 u1 hW1 hu hcu=>?_⟩⟩;obtain ⟨W2,a2,cap,p1,p2⟩:=hcu;simp only [hjn,aV] at p1;rw [hW] at p1;cases p1;exact ⟨W,a2,cap,by simp,p2⟩
  ·exact ⟨_,hc0,.inl rfl⟩)
 have hlook:look ((nx,O.da wd rows)::kS (fS σ j) i (some (.st cs')))=upd (upd (upd (look σ) j none) nx (some (.da wd rows))) i (some (.st cs')):=by
  rw [oV,iO,sS];funext k
  unfold upd
  grind
 rw [<- hlook] at hr2;have hle:Emb.le e (fun k=>if k=nx then some W else e k):=by
  intro i W' hi
  grind
 have hown2:∀ b o,Own (fun k=>if k=nx then some W else e k) (F.ke nx (F.H j)) (look ((nx,O.da wd rows)::kS (fS σ j) i (some (.st cs')))) b o->Own e F (look σ) b o:=by
  intro b o ho;rw [hlook,nR hl' rfl rfl] at ho;simp_all
 refine ⟨_,F.ke nx (F.H j),q1.mono hle (fX _ _ _),hr2,?_,q4,q5,?_,by omega⟩
 ·grind
 ·exact q6.trans ⟨fun i W _ hi=>hle i W hi,fun _ _ _ y=>y,b9.refl _ _,fun b o ho=> .inl (hown2 b o ho),fun b o u hu=> .inl ⟨u,hu⟩⟩
theorem Sat.imo {ds e0 F0 g0 w0 fr σ nx a w} (h:Sat C m nt ds e0 F0 g0 w0 fr σ nx a w) (h1:cellAt σ (cP fr s)=some (i,cs)) (h2:cs[c]?=some (.d .nil)) (h4:cu cs c [.d (.imm wd [])]=some cs') :
  Sat C m nt ds e0 F0 g0 w0 fr (kS σ i (some (.st cs'))) nx a w:=by
 obtain ⟨e,F,q1,q2,q3,q4,q5,q6,q7⟩:=h;obtain ⟨hp,hl⟩:=lj h1;have hr:=q2.qR hl (cs':=cs') (by
  intro k c' hk;obtain ⟨c0,hc0,hcase⟩:=jI h4 k c' hk;rcases hcase with ⟨rfl,rfl⟩ | ⟨_,rfl⟩
  ·rw [h2] at hc0;cases hc0;refine ⟨_,h2,.inr ⟨rfl,fun W1 u1 hW1 hu hcu=>?_⟩⟩;obtain ⟨a,rfl⟩:=bj.iQ hcu;exact bj.wG wd a 0
  ·exact ⟨_,hc0,.inl rfl⟩)
 rw [<- iO] at hr;have hown:∀ b o,Own e F (look (kS σ i (some (.st cs')))) b o->Own e F (look σ) b o:=by
  intro b o ho;rw [iO,nR hl rfl rfl] at ho;exact ho
 exact ⟨e,F,q1,hr,q3,q4,q5,q6.trans ⟨fun i W _ hi=>hi,fun _ _ _ y=>y,b9.refl _ _,fun b o ho=> .inl (hown b o ho),fun b o u hu=> .inl ⟨u,hu⟩⟩,q7⟩
theorem Sat.ghost {ds e0 F0 g0 w0 fr σ nx a w} (h:Sat C m nt ds e0 F0 g0 w0 fr σ nx a w) {g:Gst} {nx':Nat} (hg:Loc.ghost g fr σ nx=some (fr',σ',nx')):Sat C m nt ds e0 F0 g0 w0 fr' σ' nx' a w:=by
 cases g with
 | frz s c =>
  simp only [Loc.ghost] at hg;split at hg
  ·simp_all
  ·grind [h.frz]
 | BK s c =>
  simp only [Loc.ghost] at hg;split at hg<;>try (cases hg;done)
  rename_i i cs h1;split at hg<;>try (cases hg;done)
  rename_i x h2;split at hg
  ·simp_all
  ·grind [h.BK]
 | emp s wd =>
  simp only [Loc.ghost] at hg;split at hg
  ·grind [h.emp]
  ·simp_all
  ·cases hg
 | sL s c wd =>
  simp only [Loc.ghost] at hg;split at hg<;>try (cases hg;done)
  rename_i i cs h1;split at hg
  ·grind [h.sL]
  ·simp_all
  ·cases hg
 | imo s c wd =>
  simp only [Loc.ghost] at hg;split at hg<;>try (cases hg;done)
  rename_i i cs h1;split at hg
  ·grind [h.imo]
  ·rename_i x hx h2;split at hg
   ·simp_all
   ·grind [h.BK]
  ·cases hg
 | fF s c =>
  simp only [Loc.ghost] at hg;split at hg<;>try (cases hg;done)
  grind [h.fF]
section
variable {C:Ctx} {e:Emb} {F:Fz} {g:Sto} {w:World} {nx:Nat}
theorem AZ (hr:Rel C e F g w) (hi:g i=some (.st cs)) (hn:e nx=none) (hc:cs[k0]?=some (.own dp wd rows)) (hs:cu cs k0 [.arr nx 0 rows.length]=some cs')
  (hv:b6 e F v x):Res C e F g w nx 1 v (upd (upd g i (some (.st cs'))) nx (some (lq dp wd rows))) x w:=by
 obtain ⟨W,hW,_⟩:=hr.dom i _ hi;have hinx:i≠nx:=fun hh=>by rw [hh,hn] at hW;cases hW
 have ob:=hr.obj hi hW;obtain ⟨Sub,s1,s2,s3⟩:=(Hid.plain (x:= .st cs) rfl).1 ob.hid;obtain ⟨u,hu,ht⟩:=s3 0 k0 dp wd rows (cR.2 ⟨rfl,hc⟩);obtain ⟨W',S',hn',⟨a,cap,rfl,hlc,hcap⟩,ok',hsub⟩:=ht.open (C:=C) (e:=e) (fun b o hh=>ob.dY b o (s1 _ _ b o hh).1);obtain ⟨g1,g2⟩:=kR hs
 let e':Emb:=fun k=>if k=nx then some W' else e k
 let F':Fz:=⟨F.f,fun k=>if k=nx then S' else if k=i then (fun b o=>F.H i b o/\¬ Sub 0 k0 b o) else F.H k⟩
 have hle:Emb.le e e':=fun k Wk hk=>by
  grind
 have hF:Fz.le F F':=fun _ _ _ h=>h
 have hHn:F'.H nx=S':=by simp [F']
 have hHi:F'.H i=fun b o=>F.H i b o/\¬ Sub 0 k0 b o:=by simp [F',hinx]
 have hgn:upd (upd g i (some (.st cs'))) nx (some (lq dp wd rows)) nx=some (lq dp wd rows):=by simp [upd]
 have hgi:upd (upd g i (some (.st cs'))) nx (some (lq dp wd rows)) i=some (.st cs'):=by simp [upd,hinx]
 have hrel:cj e' F' (.arr nx 0 rows.length) (.slice a rows.length cap):=by
  refine ⟨W',a,cap,by simp [e'],rfl,by omega,hlc,hcap.imp id fun h=>⟨by rw [h.1];simp,by rw [aW];exact h.2⟩⟩
 refine Res.tell hr (e':=e') (F':=F') (fun k=>k=i\/k=nx) hle (fun k hk=>?_) rfl (fun k y hk ht=>?_) ?_ ?_ ?_ (hv.mono hle hF)
 ·grind
 ·have h1:k≠i:=fun h=>ht (.inl h)
  have h2:k≠nx:=fun h=>ht (.inr h)
  simp_all [upd,h1,h2,aV,F']
 ·intro k y hk ht;rcases ht with rfl | rfl
  ·rw [hgi] at hk;cases hk;refine ⟨W,hle _ _ hW,⟨ob.ng,?_,?_,ob.own,nofun,nofun,nofun,nofun,?_,?_,?_⟩⟩
   ·intro r j c hcc;rw [cR] at hcc;obtain ⟨rfl,hcc⟩:=hcc;by_cases hj:j=k0
    ·subst hj;exact ob.fit 0 j _ (cR.2 ⟨rfl,hc⟩)
    ·rw [g2 j hj] at hcc;exact ob.fit 0 j c (cR.2 ⟨rfl,hcc⟩)
   ·intro r j c hcc hoc;rw [cR] at hcc;obtain ⟨rfl,hcc⟩:=hcc;by_cases hj:j=k0
    ·simp_all
    ·rw [g2 j hj] at hcc;obtain ⟨u1,h1,h2⟩:=ob.cells 0 j c (cR.2 ⟨rfl,hcc⟩) hoc;exact ⟨u1,h1,cj.mono hle hF h2⟩
   ·rw [hHi,Hid.plain rfl];refine ⟨fun r j b o=>Sub r j b o/\¬ Sub 0 k0 b o,fun r j b o hh=>⟨⟨(s1 r j b o hh.1).1,hh.2⟩,(s1 r j b o hh.1).2⟩,fun r j r' j' b o hne h1 h2=>s2 r j r' j' b o hne h1.1 h2.1,?_⟩;intro r j dp' wd' rows' hcc;rw [cR] at hcc;obtain ⟨rfl,hcc⟩:=hcc;by_cases hj:j=k0
    ·simp_all
    ·rw [g2 j hj] at hcc;obtain ⟨u1,h1,h2⟩:=s3 0 j dp' wd' rows' (cR.2 ⟨rfl,hcc⟩);refine ⟨u1,h1,(h2.mono (T:=fun _ _=>False) hF (b9.refl _ _) fun _ _ x=>x.elim).sub fun b o hh=>⟨hh,fun hh2=>s2 0 j 0 k0 b o (.inr hj) hh hh2⟩⟩
   ·rw [hHi];exact fun b o hh=>ob.dY b o hh.1
   ·rw [hHi];exact fun b o hh h2=>ob.hsw b o hh.1 ⟨rfl,h2.2⟩
  ·rw [hgn] at hk;cases hk;refine ⟨W',by simp [e'],?_⟩;rw [hHn];exact ok'.mono (T:=fun _ _=>False) hle hF (b9.refl _ _) (fun _ _ x=>x.elim) (fun _ _ _ x=>x)
 ·intro k y Wk ht hk hek b o hh;refine ⟨i,_,W,.inl rfl,hi,hW,?_⟩;rcases ht with rfl | rfl
  ·rw [hgi] at hk;cases hk;have:e' k=e k:=by simp only [e',hinx,aV]
   rw [this,hW] at hek;cases hek;rw [hHi] at hh;exact hh.imp (fun h=>⟨rfl,h.2⟩) (fun h=>h.1)
  ·rw [hgn] at hk;cases hk;simp only [e',bo,aw] at hek;subst hek;rw [hHn] at hh;exact .inr (s1 _ _ b o (hsub b o (hh.imp (fun h=>h.2) id))).1
 ·have key:∀ Wk Wk' b o,e' i=some Wk->e' nx=some Wk'->(InR (.st cs') Wk b o\/F'.H i b o)->¬ (InR (lq dp wd rows) Wk' b o\/F'.H nx b o):=by
   intro Wk Wk' b o hk hk' h1 h2;simp only [e',bo,aw] at hk';subst hk';have:e' i=e i:=by simp only [e',hinx,aV]
   rw [this,hW] at hk;cases hk;rw [hHn] at h2;rw [hHi] at h1;have h3:=hsub b o (h2.imp (fun h=>h.2) id);rcases h1 with h1 | h1
   ·exact ob.hsw b o (s1 _ _ b o h3).1 ⟨rfl,h1.2⟩
   ·exact h1.2 h3
  intro k y Wk k' y' Wk' ht ht' hne hk hek hk' hek' b o h1 h2
  grind
theorem vN (hr:Rel C e F g w) {dq:Bool} (hi:g i=some (.st cs)) (hj:g j=some (lq dq wd rows)) (hd:dq=true->dp=true) (h0:0 < wd)
  (hc:cs[k0]?=some (.arr j off len)) (hs:cu cs k0 [.own dp wd ((rows.drop off).take len)]=some cs') (hv:b6 e F v x):Res C e F g w nx 0 v (upd (upd g j none) i (some (.st cs'))) x w:=by
 obtain ⟨W,hW,_⟩:=hr.dom i _ hi;obtain ⟨Wj,hWj,_⟩:=hr.dom j _ hj;have hij:i≠j:=fun hh=>by rw [hh,hj] at hi;cases dq<;>cases hi
 have ob:=hr.obj hi hW;have obj:=hr.obj hj hWj;obtain ⟨Sub,s1,s2,s3⟩:=(Hid.plain (x:= .st cs) rfl).1 ob.hid;obtain ⟨u,hu,hcr⟩:=ob.cells 0 k0 _ (cR.2 ⟨rfl,hc⟩) (.inr rfl);have hht:=HT.shut (dp:=dp) obj hWj hd h0 hcr;obtain ⟨g1,g2⟩:=kR hs;have hsep:∀ b o,(InR (.st cs) W b o\/F.H i b o)->¬ (InW Wj b o\/F.H j b o):=fun b o h1 h2=>hr.sep hi hW hj hWj hij h1 (h2.imp (fun h=>⟨jH _ _ _,h⟩) id)
 let F':Fz:=⟨F.f,fun k=>if k=i then (fun b o=>F.H i b o\/InW Wj b o\/F.H j b o) else F.H k⟩
 have hF:Fz.le F F':=fun _ _ _ h=>h
 have hHi:F'.H i=fun b o=>F.H i b o\/InW Wj b o\/F.H j b o:=by simp [F']
 have hgi:upd (upd g j none) i (some (.st cs')) i=some (.st cs'):=by simp [upd]
 have hjreg:∀ b o,(InW Wj b o\/F.H j b o)->C.ng<=b/\(w.cell? ⟨b,o,none⟩).isSome=true/\w.frozen? ⟨b,o,none⟩=false:=by
  rintro b o (⟨rfl,h1,h2⟩ | h1)
  ·refine ⟨obj.ng,?_⟩;have:=obj.own (by cases dq<;>rfl) (o - Wj.base) (by omega)
   rwa [show Wj.base+(o - Wj.base)=o by omega] at this
  ·exact obj.dY b o h1
 refine Res.tell hr (e':=e) (F':=F') (fun k=>k=i\/k=j) (fun _ _ h=>h) (fun _ _=>rfl) rfl (fun k y hk ht=>?_) ?_ ?_ ?_ (hv.mono (fun _ _ h=>h) hF)
 ·have h1:k≠i:=fun h=>ht (.inl h)
  have h2:k≠j:=fun h=>ht (.inr h)
  simp_all [upd,h1,h2,aV,F']
 ·intro k y hk ht;by_cases hki:k=i
  ·subst hki;rw [hgi] at hk;cases hk;refine ⟨W,hW,⟨ob.ng,?_,?_,ob.own,nofun,nofun,nofun,nofun,?_,?_,?_⟩⟩
   ·intro r q c hcc;rw [cR] at hcc;obtain ⟨rfl,hcc⟩:=hcc;by_cases hq:q=k0
    ·subst hq;exact ob.fit 0 q _ (cR.2 ⟨rfl,hc⟩)
    ·rw [g2 q hq] at hcc;exact ob.fit 0 q c (cR.2 ⟨rfl,hcc⟩)
   ·intro r q c hcc hoc;rw [cR] at hcc;obtain ⟨rfl,hcc⟩:=hcc;by_cases hq:q=k0
    ·subst hq;rw [g1] at hcc;cases hcc;rcases hoc with h | h<;>cases h
    ·rw [g2 q hq] at hcc;obtain ⟨u1,h1,h2⟩:=ob.cells 0 q c (cR.2 ⟨rfl,hcc⟩) hoc;exact ⟨u1,h1,cj.mono (fun _ _ h=>h) hF h2⟩
   ·rw [hHi,Hid.plain rfl];refine ⟨fun r q b o=>if r=0/\q=k0 then (InW Wj b o\/F.H j b o) else Sub r q b o,?_,?_,?_⟩
    ·intro r q b o hh;split at hh
     ·exact ⟨.inr hh,fun h=>hsep b o (.inl ⟨rfl,h⟩) hh⟩
     ·grind
    ·grind
    ·intro r q dp' wd' rows' hcc;rw [cR] at hcc;obtain ⟨rfl,hcc⟩:=hcc;by_cases hq:q=k0
     ·subst hq;rw [g1] at hcc;cases hcc;simp only [and_self,bo];exact ⟨u,hu,hht.mono (T:=fun _ _=>False) hF (b9.refl _ _) fun _ _ x=>x.elim⟩
     ·rw [g2 q hq] at hcc;simp only [hq,and_false,aV];obtain ⟨u1,h1,h2⟩:=s3 0 q dp' wd' rows' (cR.2 ⟨rfl,hcc⟩);exact ⟨u1,h1,h2.mono (T:=fun _ _=>False) hF (b9.refl _ _) fun _ _ x=>x.elim⟩
   ·rw [hHi];rintro b o (h1 | h1)
    ·grind [ob.dY]
    ·grind
   ·rw [hHi];rintro b o (h1 | h1) h2
    ·exact ob.hsw b o h1 ⟨rfl,h2.2⟩
    ·exact hsep b o (.inl ⟨rfl,h2.2⟩) h1
  ·simp_all [upd,hki,aV,bo]
 ·intro k y Wk ht hk hek b o hh;by_cases hki:k=i
  ·subst hki;rw [hgi] at hk;cases hk;rw [hW] at hek;cases hek;rw [hHi] at hh;rcases hh with hh | hh | hh
   ·exact ⟨k,_,W,.inl rfl,hi,hW,.inl ⟨rfl,hh.2⟩⟩
   ·simp_all
   ·exact ⟨j,_,Wj,.inr rfl,hj,hWj,hh.imp (fun h=>⟨jH _ _ _,h⟩) id⟩
  ·simp_all [upd,hki,aV,bo]
 ·intro k y Wk k' y' Wk' ht ht' hne hk hek hk' hek' b o h1 h2;by_cases hki:k=i
  ·have hkj:k'=j:=ht'.resolve_left (fun h=>hne (hki.trans h.symm));simp_all [upd,aV,bo]
  ·simp_all [upd,hki,aV,bo]
theorem zn (hr:Rel C e F g w) (hi:g i=some (.st cs)) (hc:cs[k0]?=some (.d .nil)) (hs:cu cs k0 [.own dp wd []]=some cs') (hv:b6 e F v x):Res C e F g w nx 0 v (upd g i (some (.st cs'))) x w:=by
 obtain ⟨W,hW,_⟩:=hr.dom i _ hi;have ob:=hr.obj hi hW;obtain ⟨Sub,s1,s2,s3⟩:=(Hid.plain (x:= .st cs) rfl).1 ob.hid;obtain ⟨u,hu,hcr⟩:=ob.cells 0 k0 _ (cR.2 ⟨rfl,hc⟩) (.inr rfl);obtain ⟨a,rfl⟩:=bj.iQ hcr;obtain ⟨g1,g2⟩:=kR hs;have hgi:upd g i (some (.st cs')) i=some (.st cs'):=by simp [upd]
 refine Res.tell hr (e':=e) (F':=F) (fun k=>k=i) (fun _ _ h=>h) (fun _ _=>rfl) rfl (fun k y hk ht=>?_) ?_ ?_ ?_ hv
 ·simp_all [upd,ht,aV]
 ·intro k y hk ht;subst ht;rw [hgi] at hk;cases hk;refine ⟨W,hW,⟨ob.ng,?_,?_,ob.own,nofun,nofun,nofun,nofun,?_,ob.dY,fun b o hh h2=>ob.hsw b o hh ⟨rfl,h2.2⟩⟩⟩
  ·intro r q c hcc;rw [cR] at hcc;obtain ⟨rfl,hcc⟩:=hcc;by_cases hq:q=k0
   ·subst hq;exact ob.fit 0 q _ (cR.2 ⟨rfl,hc⟩)
   ·rw [g2 q hq] at hcc;exact ob.fit 0 q c (cR.2 ⟨rfl,hcc⟩)
  ·intro r q c hcc hoc;rw [cR] at hcc;obtain ⟨rfl,hcc⟩:=hcc;by_cases hq:q=k0
   ·subst hq;rw [g1] at hcc;cases hcc;rcases hoc with h | h<;>cases h
   ·rw [g2 q hq] at hcc;exact ob.cells 0 q c (cR.2 ⟨rfl,hcc⟩) hoc
  ·rw [Hid.plain rfl];refine ⟨fun r q b o=>q≠k0/\Sub r q b o,fun r q b o hh=>s1 r q b o hh.2,fun r q r' q' b o hne h1 h2=>s2 r q r' q' b o hne h1.2 h2.2,?_⟩;intro r q dp' wd' rows' hcc;rw [cR] at hcc;obtain ⟨rfl,hcc⟩:=hcc;by_cases hq:q=k0
   ·subst hq;rw [g1] at hcc;cases hcc;exact ⟨_,hu,.nil _ _ _ _⟩
   ·rw [g2 q hq] at hcc;obtain ⟨u1,h1,h2⟩:=s3 0 q dp' wd' rows' (cR.2 ⟨rfl,hcc⟩);simp_all
 ·intro k y Wk ht hk hek b o hh;subst ht;rw [hgi] at hk;cases hk;rw [hW] at hek;cases hek;exact ⟨k,_,W,rfl,hi,hW,hh.imp (fun h=>⟨rfl,h.2⟩) id⟩
 ·omega
theorem ux (hr:Rel C e F g w) {i r o n:Nat} {x:O} (hi:g i=some x) (hxo:x.dU=true) (hn:e nx=none) (hn0:0 < n) (hvl:vs.length=n) (hvs:∀ q c,vs[q]?=some c->x.cell r (o+q)=some c)
  (hy:∀ e F w S W,fw e F w S W x r o n nx->Hid e F w S y W) (hyg:y.gone=true) (hv:kJ e (i,r,o) val):Res C e F g w nx 1 (.ptr nx 0 0) (upd (upd g i (some y)) nx (some (.st vs))) val w:=by
 obtain ⟨W,hW,rfl⟩:=hv;have hxg:x.gone=false:=by cases x<;>first | rfl | cases hxo
 have hxp:x.plain=true:=by cases x<;>first | rfl | cases hxo
 have hyc:∀ a b,y.cell a b=none:=by intro a b;cases y<;>first | rfl | cases hyg
 have hyp:y.plain=false:=by cases y<;>first | rfl | cases hyg
 have hym:(∀ es,y≠ .mp es)/\(∀ v rows,y≠ .da v rows)/\(∀ v rows,y≠ .va v rows)/\∀ v rows,y≠ .oa v rows:=by cases y<;>first | (cases hyg;done) | simp
 have hinx:i≠nx:=fun hh=>by rw [hh,hn] at hW;cases hW
 have ob:=hr.obj hi hW;obtain ⟨Sub,s1,s2,s3⟩:=(Hid.plain hxg).1 ob.hid;have hlast:∃ c,x.cell r (o+(n - 1))=some c:=by
  have:n - 1 < vs.length:=by omega
  simp_all
 obtain ⟨cl,hcl⟩:=hlast;have hfl:=ob.fit r _ cl hcl;have hin1:o+n<=W.wd/\r * W.wd+o+n<=W.cap:=⟨by omega,by omega⟩
 let W':Win:=⟨W.b,W.base+r * W.wd+o,n,n,1⟩
 let e':Emb:=fun k=>if k=nx then some W' else e k
 let Hn:Nat->Nat->Prop:=fun b p=>∃ q,q < n/\Sub r (o+q) b p
 let F':Fz:=⟨F.f,fun k=>if k=nx then Hn else if k=i then (fun b p=>F.H i b p/\¬ Hn b p\/InW W b p/\¬ InW W' b p) else F.H k⟩
 have hle:Emb.le e e':=fun k Wk hk=>by
  grind
 have hF:Fz.le F F':=fun _ _ _ h=>h
 have hHn:F'.H nx=Hn:=by simp [F']
 have hHi:F'.H i=fun b p=>F.H i b p/\¬ Hn b p\/InW W b p/\¬ InW W' b p:=by simp [F',hinx]
 have hgn:upd (upd g i (some y)) nx (some (.st vs)) nx=some (.st vs):=by simp [upd]
 have hgi:upd (upd g i (some y)) nx (some (.st vs)) i=some y:=by simp [upd,hinx]
 have hHnS:∀ b p,Hn b p->F.H i b p/\¬ InW W b p:=fun b p ⟨q,_,hh⟩=>s1 _ _ b p hh
 have hW'W:∀ b p,InW W' b p->InW W b p:=fun b p ⟨h1,h2,h3⟩=>⟨h1,by dsimp only [W'] at h2;omega,by dsimp only [W'] at h3;omega⟩
 refine Res.tell hr (e':=e') (F':=F') (fun k=>k=i\/k=nx) hle (fun k hk=>?_) rfl (fun k z hk ht=>?_) ?_ ?_ ?_ ⟨W',by simp [e'],by simp [W']⟩
 ·grind
 ·have h1:k≠i:=fun h=>ht (.inl h)
  have h2:k≠nx:=fun h=>ht (.inr h)
  simp_all [upd,h1,h2,aV,F']
 ·intro k z hk ht;rcases ht with rfl | rfl
  ·rw [hgi] at hk;cases hk;refine ⟨W,hle _ _ hW,⟨ob.ng,(fun a b c hc=>by rw [hyc] at hc;cases hc),(fun a b c hc=>by rw [hyc] at hc;cases hc),(fun hp=>by rw [hyp] at hp;cases hp),fun es h=>absurd h (hym.1 es),fun v rows h=>absurd h (hym.2.1 v rows),fun v rows h=>absurd h (hym.2.2.1 v rows),fun v rows h=>absurd h (hym.2.2.2 v rows),hy _ _ _ _ _ ?_,?_,?_⟩⟩
   ·rw [hHi];refine ⟨by simp [e',W'],hin1,ob.fit,ob.wo,?_,?_,?_⟩
    ·intro q hq hno;refine .inr ⟨⟨rfl,by omega,by omega⟩,fun hh=>hno ?_⟩;have:=hh.2.1;have:=hh.2.2
     grind
    ·intro r' j c hc _ hco;obtain ⟨u,h1,h2⟩:=ob.cells r' j c hc (.inr hco);exact ⟨u,h1,cj.mono hle hF h2⟩
    ·refine ⟨fun r' j b p=>Sub r' j b p/\¬ (r'=r/\o<=j/\j < o+n),?_,fun a b a' b' c d hne h1 h2=>s2 a b a' b' c d hne h1.1 h2.1,?_⟩
     ·grind
     ·intro r' j dp wd rows hc;dsimp only at hc;split at hc
      ·cases hc
      ·rename_i hno;obtain ⟨u,h1,h2⟩:=s3 r' j dp wd rows hc;exact ⟨u,h1,(h2.mono (T:=fun _ _=>False) hF (b9.refl _ _) fun _ _ x=>x.elim).sub fun b p hh=>⟨hh,hno⟩⟩
   ·rw [hHi];rintro b p (h1 | h1)
    ·exact ob.dY b p h1.1
    ·obtain ⟨⟨rfl,h2,h3⟩,_⟩:=h1;refine ⟨ob.ng,?_⟩;have:=ob.own hxp (p - W.base) (by omega)
     rwa [show W.base+(p - W.base)=p by omega] at this
   ·intro b p _ h2;simp_all [h2.1]
  ·rw [hgn] at hk;cases hk;refine ⟨W',by simp [e'],⟨ob.ng,?_,?_,?_,nofun,nofun,nofun,nofun,?_,?_,?_⟩⟩
   ·grind [cR]
   ·intro a b c hc hoc;rw [cR] at hc;obtain ⟨rfl,hc⟩:=hc;obtain ⟨u,h1,h2⟩:=ob.cells r (o+b) c (hvs b c hc) (.inr (hoc.resolve_left (by simp [O.dU])));refine ⟨u,?_,cj.mono hle hF h2⟩
    grind
   ·intro _ q hq;have hq:q < n:=hq;have:=ob.own hxp (r * W.wd+o+q) (by omega)
    rwa [show W.base+(r * W.wd+o+q)=W.base+r * W.wd+o+q by omega] at this
   ·rw [hHn,Hid.plain rfl];refine ⟨fun a b c d=>a=0/\b < n/\Sub r (o+b) c d,fun a b c d hh=>⟨⟨b,hh.2.1,hh.2.2⟩,fun h=>(s1 _ _ c d hh.2.2).2 (hW'W c d h)⟩,fun a b a' b' c d hne h1 h2=>s2 r (o+b) r (o+b') c d (.inr (by have:=h1.1;have:=h2.1;omega)) h1.2.2 h2.2.2,?_⟩;intro a b dp wd rows hc;rw [cR] at hc;obtain ⟨rfl,hc⟩:=hc;obtain ⟨u,h1,h2⟩:=s3 r (o+b) dp wd rows (hvs b _ hc);have hb:=(af.1 hc).1;refine ⟨u,?_,(h2.mono (T:=fun _ _=>False) hF (b9.refl _ _) fun _ _ x=>x.elim).sub fun c d hh=>⟨rfl,by omega,hh⟩⟩
    grind
   ·rw [hHn];exact fun b p hh=>ob.dY b p (hHnS b p hh).1
   ·rw [hHn];exact fun b p hh h2=>(hHnS b p hh).2 (hW'W b p h2.2)
 ·intro k z Wk ht hk hek b p hh;refine ⟨i,_,W,.inl rfl,hi,hW,?_⟩;rcases ht with rfl | rfl
  ·rw [hgi] at hk;cases hk;rw [hHi] at hh;rcases hh with hh | hh | hh
   ·simp_all [hh.1]
   ·exact .inr hh.1
   ·exact .inl ⟨hxg,hh.1⟩
  ·rw [hgn] at hk;cases hk;simp only [e',bo,aw] at hek;subst hek;rw [hHn] at hh;rcases hh with hh | hh
   ·exact .inl ⟨hxg,hW'W b p hh.2⟩
   ·simp_all
 ·have key:∀ Wk' b p,e' nx=some Wk'->F'.H i b p->¬ (InR (.st vs) Wk' b p\/F'.H nx b p):=by
   intro Wk' b p hk' h1 h2;simp only [e',bo,aw] at hk';subst hk';rw [hHn] at h2;rw [hHi] at h1;rcases h1 with h1 | h1<;>rcases h2 with h2 | h2
   ·exact ob.hsw b p h1.1 ⟨hxg,hW'W b p h2.2⟩
   ·exact h1.2 h2
   ·exact h1.2 h2.2
   ·simp_all
  have hyR:∀ Wk b p,(InR y Wk b p\/F'.H i b p)->F'.H i b p:=fun Wk b p h=>h.resolve_left (fun h=>by rw [h.1] at hyg;cases hyg)
  intro k z Wk k' z' Wk' ht ht' hne hk hek hk' hek' b p h1 h2
  grind
theorem uX (hr:Rel C e F g w) {i k r o n:Nat} {x x':O} (hk:g k=some (.st vs)) (hi:g i=some y) (hyg:y.gone=true) (hyr:∀ W,Hid e F w (F.H i) y W->fw e F w (F.H i) W x r o n k) (hvl:vs.length=n)
  (hx':∀ r' j,x'.cell r' j=if r'=r/\o<=j/\j < o+n then vs[j - o]? else x.cell r' j) (hxo:x'.dU=true)
  (hwo:∀ v rows,x'= .oa v rows->∃ rows0,x= .oa v rows0/\rows0.length=rows.length/\((∀ row∈rows0,row.length=v)->∀ row∈rows,row.length=v))
  (hv:kJ e (k,0,0) val):Res C e F g w nx 0 (.ptr i r o) (upd (upd g k none) i (some x')) val w:=by
 obtain ⟨Wk,hWk,rfl⟩:=hv;obtain ⟨W,hW,hng⟩:=hr.dom i _ hi;have hki:k≠i:=fun hh=>by rw [hh,hi] at hk;cases hk;cases hyg
 have ob:=hr.obj hi hW;have obk:=hr.obj hk hWk;have rok:=hyr W ob.hid;have hkid:=rok.kid;rw [hWk] at hkid;cases hkid;have hxg:x'.gone=false:=by cases x'<;>first | rfl | cases hxo
 have hxp:x'.plain=true:=by cases x'<;>first | rfl | cases hxo
 have hxm:(∀ es,x'≠ .mp es)/\(∀ v rows,x'≠ .da v rows)/\(∀ v rows,x'≠ .va v rows):=by cases x'<;>first | (cases hxo;done) | simp
 obtain ⟨Sub,s1,s2,s3⟩:=rok.hid;obtain ⟨Suk,k1,k2,k3⟩:=(Hid.plain (x:= .st vs) rfl).1 obk.hid
 let S':Nat->Nat->Prop:=fun b p=>F.H i b p/\¬ InW W b p\/F.H k b p
 let F':Fz:=⟨F.f,fun q=>if q=i then S' else F.H q⟩
 have hF:Fz.le F F':=fun _ _ _ h=>h
 have hHi:F'.H i=S':=by simp [F']
 have hgi:upd (upd g k none) i (some x') i=some x':=by simp [upd]
 have hin:=rok.inn;have hsep:∀ b p,F.H i b p->¬ (InR (.st vs) ⟨W.b,W.base+r * W.wd+o,n,n,1⟩ b p\/F.H k b p):=fun b p h1 h2=>hr.sep hi hW hk hWk (Ne.symm hki) (.inr h1) h2
 have hwin:∀ b p,InW W b p->F.H i b p\/InR (.st vs) ⟨W.b,W.base+r * W.wd+o,n,n,1⟩ b p:=by
  rintro b p ⟨rfl,h1,h2⟩
  by_cases hh:r * W.wd+o<=p - W.base/\p - W.base < r * W.wd+o+n
  ·right;refine ⟨rfl,rfl,?_,?_⟩
   ·grind
   ·grind
  ·left;have:=rok.reg (p - W.base) (by omega) hh
   rwa [show W.base+(p - W.base)=p by omega] at this
 have hkW:∀ b p,F.H k b p->¬ InW W b p:=by
  intro b p h1 h2;rcases hwin b p h2 with h3 | h3
  ·simp_all
  ·simp_all [obk.hsw]
 have hfit:∀ r' j c,x'.cell r' j=some c->j < W.wd/\r' * W.wd+j < W.cap:=by
  intro r' j c hc;rw [hx'] at hc;split at hc
  ·grind
  ·exact rok.fit r' j c hc
 refine Res.tell hr (e':=e) (F':=F') (fun q=>q=i\/q=k) (fun _ _ h=>h) (fun _ _=>rfl) rfl (fun q z hq ht=>?_) ?_ ?_ ?_ ⟨W,hW,by simp only [Nat.zero_mul,cr,aW]⟩
 ·have h1:q≠i:=fun h=>ht (.inl h)
  have h2:q≠k:=fun h=>ht (.inr h)
  simp_all [upd,h1,h2,aV,F']
 ·intro q z hq ht;by_cases hqi:q=i
  ·subst hqi;rw [hgi] at hq;cases hq;refine ⟨W,hW,⟨hng,hfit,?_,?_,fun es h=>absurd h (hxm.1 es),fun v rows h=>absurd h (hxm.2.1 v rows),fun v rows h=>absurd h (hxm.2.2 v rows),?_,?_,?_,?_⟩⟩
   ·intro r' j c hc hoc;have hco:c.dW=false:=hoc.resolve_left (by rw [hxo];decide);rw [hx'] at hc;split at hc
    ·rename_i hh;obtain ⟨rfl,h1,h2⟩:=hh;obtain ⟨u,h3,h4⟩:=obk.cells 0 (j - o) c (cR.2 ⟨rfl,hc⟩) (.inr hco);refine ⟨u,?_,cj.mono (fun _ _ h=>h) hF h4⟩
     grind
    ·rename_i hh;obtain ⟨u,h3,h4⟩:=rok.cells r' j c hc hh hco;exact ⟨u,h3,cj.mono (fun _ _ h=>h) hF h4⟩
   ·intro _ p hp;rcases hwin W.b (W.base+p) ⟨rfl,by omega,by omega⟩ with h1 | h1
    ·simp_all [ob.dY]
    ·have h2:=h1.2.2.1;have h3:=h1.2.2.2;dsimp only at h2 h3;have:=obk.own rfl (W.base+p - (W.base+r * W.wd+o)) (by show _ < n;omega);simp_all
   ·intro v rows hx;obtain ⟨rows0,h1,h2,h3⟩:=hwo v rows hx;obtain ⟨h4,h5,h6⟩:=rok.wo v rows0 h1;simp_all
   ·rw [hHi,Hid.plain hxg];refine ⟨fun r' j b p=>if r'=r/\o<=j/\j < o+n then Suk 0 (j - o) b p else Sub r' j b p,?_,?_,?_⟩
    ·grind
    ·grind
    ·intro r' j dp wd rows hc;rw [hx'] at hc;split at hc
     ·rename_i hh;simp only [hh,and_self,bo];obtain ⟨rfl,h1,h2⟩:=hh;obtain ⟨u,h3,h4⟩:=k3 0 (j - o) dp wd rows (cR.2 ⟨rfl,hc⟩);refine ⟨u,?_,h4.mono (T:=fun _ _=>False) hF (b9.refl _ _) fun _ _ x=>x.elim⟩
      grind
     ·rename_i hh;simp only [hh,aV];obtain ⟨u,h3,h4⟩:=s3 r' j dp wd rows (by dsimp only;rw [ab hh];exact hc);exact ⟨u,h3,h4.mono (T:=fun _ _=>False) hF (b9.refl _ _) fun _ _ x=>x.elim⟩
   ·rw [hHi];rintro b p (h1 | h1)
    ·exact ob.dY b p h1.1
    ·exact obk.dY b p h1
   ·rw [hHi];rintro b p (h1 | h1) h2
    ·exact h1.2 h2.2
    ·exact hkW b p h1 h2.2
  ·simp_all [upd,hqi,aV,bo]
 ·intro q z Wq ht hq heq b p hh;by_cases hqi:q=i
  ·subst hqi;rw [hgi] at hq;cases hq;rw [hW] at heq;cases heq;rw [hHi] at hh;rcases hh with hh | hh | hh
   ·rcases hwin b p hh.2 with h1 | h1
    ·simp_all
    ·simp_all
   ·simp_all
   ·simp_all
  ·have hqk:q=k:=ht.resolve_left hqi;subst hqk;simp_all [upd,hqi,aV,bo]
 ·intro q z Wq q' z' Wq' ht ht' hne hq heq hq' heq' b p h1 h2;by_cases hqi:q=i
  ·have hqk:q'=k:=ht'.resolve_left (fun h=>hne (hqi.trans h.symm));subst hqk;simp only [upd,hki,aV,bo] at hq';cases hq'
  ·have hqk:q=k:=ht.resolve_left hqi;subst hqk;simp_all [upd,hki,aV,bo]
end
def uY:I->Option Nat
 | .opn (.t s) _=>some s
 | .cls (.t s) _ _ _=>some s
 | .out (.t s) _=>some s
 | .inn (.t s)=>some s
 | .pk (.t s) _=>some s
 | .wa (.t s) _ _=>some s
 | .wF (.t s)=>some s
 | _=>none
def tN (dst:Option Nat) (op:I):Bool:=match uY op,dst with
 | some _,none=>true
 | some s,some d=>Nat.beq d s
 | none,_=>false
theorem mV {α:Type}:∀ {xs vs ys:List α} {o:Nat},cu xs o vs=some ys->ys.length=xs.length
 | xs,[],ys,0,h=>by cases xs<;>cases h<;>rfl
 | x::xs,v::vs,ys,0,h=>by
  simp only [cu,ay] at h;obtain ⟨t,h1,rfl⟩:=h;simp [mV h1]
 | x::xs,vs,ys,o+1,h=>by
  simp only [cu,ay] at h;obtain ⟨t,h1,rfl⟩:=h;simp [mV h1]
 | [],v::vs,ys,0,h=>by cases h
 | [],vs,ys,o+1,h=>by cases h
theorem oG {α:Type} {xs vs ys:List α} {o:Nat} (h:cu xs o vs=some ys) (j:Nat):ys[j]?=if o<=j/\j < o+vs.length then vs[j - o]? else xs[j]?:=by
 obtain ⟨h1,h2,h3⟩:=fx _ _ _ _ h;exact h3 j
theorem nU:∀ (ds:List D) (j:Nat),(qZ ds)[j]?=(ds[j]?).map D.toV
 | [],j=>by simp [qZ]
 | x::l,0=>by simp [qZ]
 | x::l,j+1=>by simp [qZ,nU l j]
theorem qY:∀ ds:List D,(qZ ds).length=ds.length
 | []=>rfl
 | x::l=>by simp [qZ,qY l]
theorem tY:∀ {vs:List V} {ds:List D},sr vs=some ds->ds.length=vs.length
 | [],ds,h=>by cases h;rfl
 | x::l,ds,h=>by
  simp only [sr] at h;split at h
  ·rename_i d ds' h1 h2;cases h;simp [tY h2]
  ·cases h
theorem tZ:∀ {vs:List V} {ds:List D},sr vs=some ds->∀ (j:Nat) d,ds[j]?=some d->∃ c,vs[j]?=some c/\c.GL=some d
 | [],ds,h,j,d,hd=>by cases h;simp at hd
 | x::l,ds,h,j,d,hd=>by
  simp only [sr] at h;split at h
  ·rename_i d0 ds' h1 h2;cases h;cases j with
   | zero=>simp only [az,aw] at hd;subst hd;exact ⟨x,rfl,h1⟩
   | succ j=>simpa using tZ h2 j d (by simpa using hd)
  ·cases h
theorem Rel.norm (h:Rel C e F g w) {ds:List D} (hk:g k=some (.st vs)) (hd:sr vs=some ds):Rel C e F (upd g k (some (.st (qZ ds)))) w:=by
 refine h.qR hk (fun j c' hj=>?_);rw [nU,ay] at hj;obtain ⟨d,h1,rfl⟩:=hj;obtain ⟨c,h2,h3⟩:=tZ hd j d h1;refine ⟨c,h2,?_⟩;cases c with
 | own dp w rows=>cases h3;exact .inl rfl
 | d x =>
  cases h3;refine .inr ⟨rfl,fun W u _ _ hcu=>?_⟩;cases d with
  | own=>exact nomatch (show bj F _ u from hcu)
  | _=>exact hcu
 | tt =>
  cases h3;refine .inr ⟨rfl,fun W u _ _ hcu=>?_⟩;rw [show u= .bool true from hcu];exact bj.bool true
 | ff =>
  cases h3;refine .inr ⟨rfl,fun W u _ _ hcu=>?_⟩;rw [show u= .bool false from hcu];exact bj.bool false
 | _=>cases h3
theorem AY {ws:List V} (hk:g k=some (.st vs)) {b o:Nat}:Own e F (upd g k (some (.st ws))) b o↔Own e F g b o:=nR hk rfl rfl
theorem Res.un {w':World} {y:Value} (h:Res C e F g w nx n v g' x w'):Res C e F g w nx n .un g' y w' :=
 let ⟨e',F',q1,q2,q3,_,q5⟩:=h;⟨e',F',q1,q2,q3,trivial,q5⟩
theorem Dl {K:Eff->Prop} (hs:uY op=some s) (hf:FR e F fr a) (hr:Rel C e F (look σ) w) (hn:∀ i,nx<=i->e i=none) (hk:wpR C σ nx K (sem op fr σ nx)) :
  ∃ eff,K eff/\Res C e F (look σ) w nx eff.n eff.v (cH (look σ) eff.pt) (a.tmps.getD s undef) w:=by
 have hnx:=hn nx (al _);cases op with
 | opn a' c =>
  cases a' with
  | k v=>cases hs
  | t s' =>
   cases hs;have hv:=hf s;simp only [sem,A.ev] at hk;split at hk
   ·rename_i i o cs hst;have hl:=mq hst;split at hk
    ·rename_i dp wd rows hc;split at hk
     ·rename_i cs' hsp;refine ⟨_,hk,?_⟩;exact AZ hr hl hnx hc hsp hv
     ·exact hk.elim
    ·exact ⟨_,hk,Res.same hr hv⟩
    ·exact hk.elim
   ·exact hk.elim
 | cls a' c wd dp =>
  cases a' with
  | k v=>cases hs
  | t s' =>
   cases hs;have hv:=hf s;simp only [sem,A.ev] at hk;split at hk
   ·rename_i i o cs hst;have hl:=mq hst;split at hk
    ·rename_i j off len hc;split at hk
     ·rename_i w' rows hj;split at hk
      ·rename_i cs' hb hsp;simp only [ag,Nat.blt_eq] at hb;have:=aN hb.1;subst this;exact ⟨_,hk,vN (dq:=false) hr hl hj nofun hb.2 hc hsp hv⟩
      ·exact hk.elim
     ·rename_i w' rows hj;split at hk
      ·rename_i cs' hb hsp;simp only [ag,Nat.blt_eq] at hb;have:=aN hb.1;subst this;exact ⟨_,hk,vN (dq:=true) (dp:=true) hr hl hj (fun _=>rfl) hb.2 hc hsp hv⟩
      ·exact hk.elim
     ·exact hk.elim
    ·rename_i hc;split at hk
     ·rename_i cs' hsp;exact ⟨_,hk,zn hr hl hc hsp hv⟩
     ·exact hk.elim
    ·exact ⟨_,hk,Res.same hr hv⟩
    ·exact hk.elim
   ·exact hk.elim
 | out a' n =>
  cases a' with
  | k v=>cases hs
  | t s' =>
   cases hs;have hv:=hf s;simp only [sem,A.ev] at hk;split at hk
   ·rename_i i r o hp;rw [hp] at hv;split at hk
    ·rename_i cs hl;split at hk
     ·rename_i n' vs htk;have ht:=kq htk;refine ⟨_,hk,ux hr (r:=0) (x:= .st cs) (y:= .rst cs o (n'+1) nx) hl rfl hnx (Nat.succ_pos _) ht (fun q c hq=>cR.2 ⟨rfl,iJ _ _ _ _ htk q c hq⟩) (fun _ _ _ _ _ h=>h) rfl hv⟩
     ·exact hk.elim
    ·rename_i wd rows hl;split at hk
     ·exact hk.elim
     ·rename_i n';obtain ⟨_,row,eff,hrow,he,hk⟩:=hk;dsimp only at he;split at he
      ·rename_i ds htk;cases he;have ht:=kq htk;refine ⟨_,hk,ux hr (r:=r) (x:= .oa wd rows) (y:= .rest wd rows r o (n'+1) nx) hl rfl hnx (Nat.succ_pos _) (by rw [qY,ht]) (fun q c hq=>?_) (fun _ _ _ _ _ h=>h) rfl hv⟩;rw [nU,ay] at hq;obtain ⟨d,h1,rfl⟩:=hq;simp only [O.cell,hrow,bQ,iJ _ _ _ _ htk q d h1,aS]
      ·cases he
    ·exact hk.elim
   ·exact hk.elim
 | inn a' =>
  cases a' with
  | k v=>cases hs
  | t s' =>
   cases hs;have hv:=hf s;simp only [sem,A.ev] at hk;split at hk
   ·rename_i k hp;rw [hp] at hv;split at hk
    ·rename_i vs i hlk _;split at hk
     ·rename_i cs o n k' hli;split at hk
      ·rename_i cs' hb1 hb2 hsp;have e1:=aN hb1;have e2:=aN hb2;subst e1;refine ⟨_,hk,uX hr (r:=0) (x:= .st cs) (x':= .st cs') hlk hli rfl (fun W h=>h) e2 ?_ rfl nofun hv⟩;intro r' j;simp only [O.cell];by_cases hr':r'=0
       ·subst hr';simp only [bo,true_and];rw [oG hsp,e2]
       ·simp [hr']
      ·exact hk.elim
     ·rename_i wd rows r o n k' hli;split at hk
      ·rename_i ds hb1 hb2 hds;have e1:=aN hb1;have e2:=aN hb2;subst e1;obtain ⟨_,row,eff,hrow,he,hk⟩:=hk;dsimp only at he;split at he
       ·rename_i row' hsp;cases he;have hdl:=tY hds;have hr2:=hr.norm hlk hds;have hki:k'≠i:=fun hh=>by rw [hh,hli] at hlk;cases hlk
        have hrl:r < rows.length:=(af.1 hrow).1;have hres:=uX (nx:=nx) (vs:=qZ ds) hr2 (k:=k') (i:=i) (r:=r) (o:=o) (n:=n) (x:= .oa wd rows) (y:= .rest wd rows r o n k') (x':= .oa wd (rows.set r row')) (by simp [upd]) (by simp [upd,Ne.symm hki,hli]) rfl (fun W h=>h) (by rw [qY,hdl,e2]) ?_ rfl ?_ hv
        ·rw [yn] at hres;obtain ⟨e',F',q1,q2,q3,q4,q5,q6,q7,q8⟩:=hres;have ho:Own e F (upd (look σ) k' (some (.st (qZ ds))))=Own e F (look σ):=by
          funext b p;exact propext (AY hlk)
         rw [ho] at q6 q7 q8;exact ⟨_,hk,e',F',q1,q2,q3,q4,q5,q6,q7,q8⟩
        ·intro r' j;simp only [O.cell];by_cases hr':r'=r
         ·subst hr';rw [List.getElem?_set_self hrl,hrow];simp only [bQ,true_and];rw [oG hsp,hdl,e2]
          grind [nU]
         ·grind
        ·intro v rows2 hx;cases hx;refine ⟨rows,rfl,by simp,fun hh row2 hrow2=>?_⟩;rcases List.mem_or_eq_of_mem_set hrow2 with h1 | rfl
         ·exact hh _ h1
         ·rw [mV hsp];exact hh _ (aP hrow)
       ·cases he
      ·exact hk.elim
     ·exact hk.elim
    ·exact hk.elim
   ·exact hk.elim
 | wa a' c n =>
  cases a' with
  | k v=>cases hs
  | t s' =>
   cases hs;have hv:=hf s;simp only [sem,A.ev] at hk;split at hk
   ·rename_i i o n' hp;rw [hp] at hv;obtain ⟨W,hW,_⟩:=hv;split at hk
    ·rename_i cs hl;split at hk
     ·rename_i vs htk;have ht:=kq htk;refine ⟨_,hk,Res.un (ux hr (r:=0) (o:=o+c) (x:= .st cs) (y:= .rst cs (o+c) (n'+1) nx) hl rfl hnx (Nat.succ_pos _) ht (fun q c hq=>cR.2 ⟨rfl,iJ _ _ _ _ htk q c hq⟩) (fun _ _ _ _ _ h=>h) rfl ⟨W,hW,rfl⟩)⟩
     ·exact hk.elim
    ·exact hk.elim
   ·exact hk.elim
 | wF a' =>
  cases a' with
  | k v=>cases hs
  | t s' =>
   cases hs;simp only [sem,A.ev] at hk;split at hk
   ·rename_i i o' hp;split at hk
    ·rename_i cs o n k' hli;split at hk
     ·rename_i vs hlk;split at hk
      ·rename_i cs' hb2 hsp;have e2:=aN hb2;obtain ⟨Wk,hWk,_⟩:=hr.dom k' _ hlk;refine ⟨_,hk,Res.un (uX hr (r:=0) (x:= .st cs) (x':= .st cs') hlk hli rfl (fun W h=>h) e2 ?_ rfl nofun ⟨Wk,hWk,rfl⟩)⟩;intro r' j;simp only [O.cell];by_cases hr':r'=0
       ·subst hr';simp only [bo,true_and];rw [oG hsp,e2]
       ·simp [hr']
      ·exact hk.elim
     ·exact hk.elim
    ·exact hk.elim
   ·exact hk.elim
 | pk a' ws =>
  cases a' with
  | k v=>cases hs
  | t s' =>
   cases hs;have hv:=hf s;simp only [sem,A.ev] at hk;split at hk
   ·rename_i i hp;rw [hp] at hv;split at hk
    ·rename_i wd row hl;split at hk
     ·rename_i ds mv hpk;split at hk
      ·rename_i hd;exact ⟨_,hk,vZ hr hl hpk (jr hpk) hd hv⟩
      ·exact hk.elim
     ·exact hk.elim
    ·exact hk.elim
   ·exact hk.elim
 | _=>cases hs
theorem Sat.gop {ds e0 F0 g0 w0 fr σ nx a w} (h:Sat C m nt ds e0 F0 g0 w0 fr σ nx a w) {dst:Option Nat} (hok:tN dst op=true) {K:Fr->Ob->Nat->Prop} (hk:dt C [⟨dst,none,op,[]⟩] .off fr σ nx K) :
  ∃ fr' σ' nx',K fr' σ' nx'/\Sat C m nt ds e0 F0 g0 w0 fr' σ' nx' a w:=by
 obtain ⟨e,F,q1,q2,q3,q4,q5,q6,q7⟩:=h;simp only [dt,gd] at hk;cases hs:uY op with
 | none=>simp only [tN,hs] at hok;cases hok
 | some s =>
  obtain ⟨eff,h1,e',F',r1,r2,r3,r4,r5,r6,r7,r8⟩:=Dl hs q1 q2 q3 hk;refine ⟨_,_,_,h1,e',F',?_,?_,fun i hi=>?_,q4,q5,?_,by omega⟩
  ·have hm:=q1.mono r1 r3;cases dst with
   | none=>exact hm
   | some d =>
    simp only [tN,hs] at hok;have:=aN hok;subst this;exact hm.Be r4
  ·simp_all [fB]
  ·grind
  ·rw [fB];exact q6.trans ⟨fun i W _ hi=>r1 i W hi,r3,r6,r7,r8⟩
def BB:L->Bool
 | .gh _=>true
 | .cut _=>true
 | .gop dst op=>tN dst op
 | _=>false
def isT:A->Bool
 | .t _=>true
 | .k .tt=>true
 | _=>false
def okC (P:Program) (nt:Nat):L->Code->Bool
 | .skip,c=>match c with | .skip=>true | _=>false
 | .reg is,c=>match c with | .region _ ops false=>iZ P ops nt ops.toList is | _=>false
 | .wZ is,c=>match c with | .region _ ops true=>okD P ops nt is | _=>false
 | .seq x y,c=>match BB x with
  | true=>okC P nt y c
  | false=>match BB y with
   | true=>okC P nt x c
   | false=>match c with | .seq a b=>okC P nt x a&&okC P nt y b | _=>false
 | .ite c x y,cc=>match cc with | .cond c' a b=>isT c&&okA c' c&&okC P nt x a&&okC P nt y b | _=>false
 | .blk id x,c=>match c with | .block id' a=>decide (id=id')&&okC P nt x a | _=>false
 | .loop _ x,c=>match c with | .loop a=>okC P nt x a | _=>false
 | .exit id,c=>match c with | .exit id'=>decide (id=id') | _=>false
 | .ret,c=>match c with | .ret=>true | _=>false
 | .gh _,c=>false
 | .gop _ _,c=>false
 | .cut _,c=>false
def Ex.as:Ex->Exit
 | .normal=> .normal
 | .exit id=> .exit id
 | .ret=> .ret
theorem Sat.gst {ds e0 F0 g0 w0 fr σ nx a w} (h:Sat C m nt ds e0 F0 g0 w0 fr σ nx a w) {y:L} (hf:BB y=true) {K:Ex->Fr->Ob->Nat->Prop} (hk:wpL C m y fr σ nx K) :
  ∃ fr' σ' nx',K .normal fr' σ' nx'/\Sat C m nt ds e0 F0 g0 w0 fr' σ' nx' a w:=by
 cases y with
 | cut cA =>
  simp only [wpL] at hk;split at hk
  ·rename_i fr' σ' nx' hz;exact ⟨_,_,_,hk,h.canon hz⟩
  ·exact hk.elim
 | gh g =>
  simp only [wpL] at hk;split at hk
  ·rename_i fr' σ' nx' hz;exact ⟨_,_,_,hk,h.ghost hz⟩
  ·exact hk.elim
 | gop dst op=>exact h.gop hf hk
 | _=>cases hf
theorem dE {C:Ctx} {m nt:Nat} {ds e0 F0 g0 w0}:∀ (l:L) (c:Code) (Q:Exit->Act->World->Prop) (K:Ex->Fr->Ob->Nat->Prop),okC C.P nt l c=true ->
  (∀ x fr σ nx a w,K x fr σ nx->Sat C m nt ds e0 F0 g0 w0 fr σ nx a w->Q x.as a w)->∀ (fr:Fr) (σ:Ob) (nx:Nat) (a:Act) (w:World),wpL C m l fr σ nx K->Sat C m nt ds e0 F0 g0 w0 fr σ nx a w->c.wp C.P Q a w
 | .skip,c,Q,K,hok,hQ,fr,σ,nx,a,w,hk,hs=>by
  simp only [okC] at hok;split at hok
  ·exact wp_skip (hQ _ _ _ _ _ _ hk hs)
  ·cases hok
 | .reg is,c,Q,K,hok,hQ,fr,σ,nx,a,w,hk,hs=>by
  simp only [okC] at hok;split at hok
  ·exact zx hok (hQ .normal) hk hs
  ·cases hok
 | .wZ is,c,Q,K,hok,hQ,fr,σ,nx,a,w,hk,hs=>by
  simp only [okC] at hok;split at hok
  ·exact x6 hok (hQ .normal) hk hs
  ·cases hok
 | .seq x y,c,Q,K,hok,hQ,fr,σ,nx,a,w,hk,hs=>by
  simp only [okC] at hok;split at hok
  ·rename_i hf;obtain ⟨fr',σ',nx',h1,h2⟩:=hs.gst hf (K:=fun ex fr σ nx=>match ex with | .normal=>wpL C m y fr σ nx K | x=>K x fr σ nx) hk;exact dE y c Q K hok hQ _ _ _ a w h1 h2
  ·split at hok
   ·rename_i hf;refine dE x c Q _ hok ?_ fr σ nx a w hk hs;intro ex fr' σ' nx' a' w' hk' hs';cases ex with
    | normal =>
     obtain ⟨fr2,σ2,nx2,h1,h2⟩:=hs'.gst hf hk';exact hQ .normal _ _ _ _ _ h1 h2
    | exit id=>exact hQ _ _ _ _ _ _ hk' hs'
    | ret=>exact hQ _ _ _ _ _ _ hk' hs'
   ·split at hok
    ·rename_i ca cb;simp only [ag] at hok;refine wp_seq (dE x ca _ _ hok.1 ?_ fr σ nx a w hk hs);intro ex fr' σ' nx' a' w' hk' hs';cases ex with
     | normal=>exact dE y cb Q K hok.2 hQ _ _ _ a' w' hk' hs'
     | exit id=>exact hQ _ _ _ _ _ _ hk' hs'
     | ret=>exact hQ _ _ _ _ _ _ hk' hs'
    ·cases hok
 | .ite cc x y,c,Q,K,hok,hQ,fr,σ,nx,a,w,hk,hs=>by
  simp only [okC] at hok;split at hok
  ·rename_i c' ca cb;simp only [ag] at hok;obtain ⟨⟨⟨h0,h1⟩,h2⟩,h3⟩:=hok;cases cc with
   | k v =>
    cases v with
    | tt =>
     obtain ⟨e,F,q1,q2,q3,q4,q5,q6,q7⟩:=hs;have hs:Sat C m nt ds e0 F0 g0 w0 fr σ nx a w:=⟨e,F,q1,q2,q3,q4,q5,q6,q7⟩
     have hv:=aO h1 q1;simp only [wpL,gdc] at hk;exact wp_cond_true hv (dE x ca Q K h2 hQ _ _ _ a w hk hs)
    | _=>cases h0
   | t s =>
    obtain ⟨e,F,q1,q2,q3,q4,q5,q6,q7⟩:=hs;have hs:Sat C m nt ds e0 F0 g0 w0 fr σ nx a w:=⟨e,F,q1,q2,q3,q4,q5,q6,q7⟩
    have hv:=aO h1 q1;have hv0:=q1 s;simp only [A.ev] at hv;have hev:a.eval c'=a.tmps.getD s undef:=by
     cases c'<;>simp only [okA] at h1<;>try (cases h1;done)
     have:=ai h1;subst this;rfl
    simp only [wpL,gdc] at hk;cases hf:cP fr s with
    | tt =>
     rw [hf] at hv hk;exact wp_cond_true hv (dE x ca Q K h2 hQ _ _ _ a w hk hs)
    | ff =>
     rw [hf] at hv hk;exact wp_cond_false hv (dE y cb Q K h3 hQ _ _ _ a w hk hs)
    | d z =>
     rw [hf] at hv hk hv0;cases z with
     | bool z =>
      have hz:=bj.gz hv;have hz0:=bj.gz hv0;have hknow:∀ (y:V),b6 e F y (.bool z)->Sat C m nt ds e0 F0 g0 w0 ((s,y)::fr) σ nx a w:=fun y hy=>⟨e,F,q1.Be (by rw [hz0];exact hy),q2,q3,q4,q5,q6,q7⟩
      refine wp_cond_split hz ?_ ?_
      ·intro ht;subst ht;exact dE x ca Q K h2 hQ _ _ _ a w (hk.1 rfl) (hknow .tt rfl)
      ·intro ht;subst ht;exact dE y cb Q K h3 hQ _ _ _ a w (hk.2 rfl) (hknow .ff rfl)
     | _=>exact hk.elim
    | _=>rw [hf] at hk;exact hk.elim
  ·cases hok
 | .blk id x,c,Q,K,hok,hQ,fr,σ,nx,a,w,hk,hs=>by
  simp only [okC] at hok;split at hok
  ·rename_i id' ca;simp only [ag,ak] at hok;obtain ⟨rfl,h2⟩:=hok;refine wp_block (dE x ca _ _ h2 ?_ fr σ nx a w hk hs);intro ex fr' σ' nx' a' w' hk' hs';cases ex with
   | normal=>exact hQ _ _ _ _ _ _ hk' hs'
   | exit j =>
    simp only [jk] at hk';simp only [Ex.as,Exit.inBlock];by_cases hj:j=id
    ·simp only [hj,decide_true,cond_true] at hk';rw [aj hj];exact hQ _ _ _ _ _ _ hk' hs'
    ·simp only [hj,decide_false,cond_false] at hk';rw [ab hj];exact hQ _ _ _ _ _ _ hk' hs'
   | ret=>exact hQ _ _ _ _ _ _ hk' hs'
  ·cases hok
 | .loop cA x,c,Q,K,hok,hQ,fr,σ,nx,a,w,hk,hs=>by
  simp only [okC] at hok;split at hok
  ·rename_i ca;intro b k cs;have key:=hk (fun fr σ nx=>∀ a w,Sat C m nt ds e0 F0 g0 w0 fr σ nx a w->∀ (b:Frame) (k:List Item) (cs:List Frame),∃ e a' w',Q e a' w'/\Arrives C.P (lone (b.at a (.code ca:: .inLoop ca::k)) cs w) b k cs e a' w') ?_
   ·obtain ⟨e,a',w',hq,harr⟩:=key a w hs b k cs;exact ⟨e,a',w',hq,.of_steps (.one step_loop) harr⟩
   ·intro fr σ nx hround a w hs b k cs;unfold rp at hround;split at hround
    ·rename_i fr' σ' nx' hcan;have hbody:=dE x ca (Exit.then (fun a w=>∀ (b:Frame) (k:List Item) (cs:List Frame),∃ e a' w',Q e a' w'/\Arrives C.P (lone (b.at a (.code ca:: .inLoop ca::k)) cs w) b k cs e a' w') Q) _ hok (by
      intro ex fr' σ' nx' a' w' hk' hs';cases ex with
      | normal=>exact hk' a' w' hs'
      | exit id=>exact hQ _ _ _ _ _ _ hk' hs'
      | ret=>exact hQ _ _ _ _ _ _ hk' hs') fr' σ' nx' a w hround (hs.canon hcan)
     obtain ⟨e,a₁,w₁,hq,harr⟩:=hbody b (.inLoop ca::k) cs;cases e with
     | normal =>
      obtain ⟨e₂,a₂,w₂,hq₂,harr₂⟩:=hq b k cs;exact ⟨e₂,a₂,w₂,hq₂,.of_steps (Steps.trans harr (.one step_inLoop)) harr₂⟩
     | exit id=>exact ⟨_,a₁,w₁,hq,.pass (x:= .inLoop ca) rfl (fun _ _=> .inl (by simp)) harr⟩
     | goto l=>exact ⟨_,a₁,w₁,hq,.pass (x:= .inLoop ca) rfl (fun _ _=> .inl (by simp)) harr⟩
     | ret=>exact ⟨_,a₁,w₁,hq,.pass (x:= .inLoop ca) rfl (fun _ _=> .inl (by simp)) harr⟩
     | panic ch=>exact ⟨_,a₁,w₁,hq,.pass (x:= .inLoop ca) rfl (fun _ _=> .inl (by simp)) harr⟩
     | outgrown=>exact ⟨_,a₁,w₁,hq,.pass (x:= .inLoop ca) rfl (fun _ _=> .inl (by simp)) harr⟩
    ·exact hround.elim
  ·cases hok
 | .exit id,c,Q,K,hok,hQ,fr,σ,nx,a,w,hk,hs=>by
  simp only [okC] at hok;split at hok
  ·have:=ai hok;subst this;exact wp_exit (hQ (.exit id) _ _ _ _ _ hk hs)
  ·cases hok
 | .ret,c,Q,K,hok,hQ,fr,σ,nx,a,w,hk,hs=>by
  simp only [okC] at hok;split at hok
  ·exact wp_ret (hQ .ret _ _ _ _ _ hk hs)
  ·cases hok
 | .gh g,c,Q,K,hok,hQ,fr,σ,nx,a,w,hk,hs=>by cases hok
 | .gop _ _,c,Q,K,hok,hQ,fr,σ,nx,a,w,hk,hs=>by cases hok
 | .cut cA,c,Q,K,hok,hQ,fr,σ,nx,a,w,hk,hs=>by cases hok
def eW:Nat->List V->Fr
 | _,[]=>[]
 | k,x::l=>(k,x)::eW (k+1) l
theorem lh:∀ (l:List V) (k t:Nat),cP (eW k l) t=if k<=t then (l[t - k]?).getD .un else .un
 | [],k,t=>by simp [eW,cP]
 | x::l,k,t=>by
  simp only [eW,cP,jk,lh l (k+1) t];by_cases h:k=t
  ·subst h;simp
  ·by_cases h2:k<=t
   ·have h3:k+1<=t:=by omega
    have h4:t - k=(t - (k+1))+1:=by omega
    simp [h,h2,h3,h4]
   ·have h3:¬ k+1<=t:=by omega
    simp [h,h2,h3]
def V.norm:V->V
 | .tt=> .d (.bool true)
 | .ff=> .d (.bool false)
 | x=>x
theorem A4 {x:V} {v:Value} (h:b6 e F x v):b6 e F x.norm v:=by
 cases x with
 | tt=>cases (show v=_ from h);exact bj.bool true
 | ff=>cases (show v=_ from h);exact bj.bool false
 | _=>exact h
def V.isW:V->Bool
 | .rd _ _=>false
 | .tup _=>false
 | .un=>false
 | _=>true
theorem Df {x:V} {v:Value} (hw:x.isW=true) (h:b6 e F x v):fu e F x.norm v:=by
 cases x with
 | rd=>cases hw
 | tup=>cases hw
 | un=>cases hw
 | tt=>cases (show v=_ from h);exact bj.bool true
 | ff=>cases (show v=_ from h);exact bj.bool false
 | _=>exact h
abbrev RS:=Nat×Option (Option Nat)
def y7 (σ:Ob) (n:Option Nat):V->V
 | .ptr i 0 o=>match look σ i with
  | some (.st cs)=>match ldV n o [] cs with
   | some e=>e.v
   | none=> .un
  | _=> .un
 | _=> .un
def tn (σ:Ob) (fr:Fr) (r:RS):V:=match r with
 | (t,none)=>cP fr t
 | (t,some n)=>y7 σ n (cP fr t)
def xI (σ:Ob) (fr:Fr):List RS->Option (List V)
 | []=>some []
 | t::l=>match (tn σ fr t).isW,xI σ fr l with
  | true,some vs=>some ((tn σ fr t).norm::vs)
  | _,_=>none
def qO (σ:Ob) (fr:Fr):List RS->Option V
 | [t]=>match (tn σ fr t).isW with
  | true=>some (tn σ fr t).norm
  | false=>none
 | ts=>match xI σ fr ts with
  | some vs=>some (.tup vs)
  | none=>none
def okR (P:Program):List ResultVar->List RS->Bool
 | [],[]=>true
 | .tmp t::l,(t',none)::m=>decide (t=t')&&okR P l m
 | .cell a t::l,(a',some n)::m=>decide (a=a')&&okN P t n&&okR P l m
 | _,_=>false
def mW (tmps:Array Value):ResultVar->Sem Value
 | .tmp t=>pure (tmps.getD t undef)
 | .cell a t=>do loadVar t (<- asAddr (tmps.getD a undef))
def yF:List Value->Value
 | [v]=>v
 | vs=> .tuple vs.toArray
theorem pB {tmps:Array Value} {vs:List Value} (h:(fn.results.toList.mapM (mW tmps)).run P w= .ok vs w) :
  (results fn tmps).run P w= .ok (yF vs) w:=by
 have h1:results fn tmps=((fn.results.mapM (mW tmps)) >>= fun vs=>pure (if h:vs.size=1 then vs[0] else .tuple vs)):=by
  unfold results;congr 1
 have h2:fn.results.mapM (mW tmps)=List.toArray <$> fn.results.toList.mapM (mW tmps):=by
  conv=>lhs;rw [<- Array.toArray_toList (xs:=fn.results)]
  rw [List.mapM_toArray]
 rw [h1,h2,ax,Sem.run_map,h];simp only [aF,bq]
 match vs with
 | []=>simp [yF]
 | [v]=>simp [yF]
 | _::_::_=>simp [yF]
theorem Ab (hr:Rel C e F (look σ) w) {t:TypeId} {n:Option Nat} (hn:okN C.P t n=true) {x:V} {v:Value} (hx:b6 e F x v) (hw:(y7 σ n x).isW=true) :
  ∃ u,(do loadVar t (<- asAddr v):Sem Value).run C.P w= .ok u w/\b6 e F (y7 σ n x) u:=by
 unfold y7 at hw ⊢;split at hw
 ·rename_i i o;split at hw
  ·rename_i cs hl;split at hw
   ·rename_i eff he;obtain ⟨W,h2,rfl⟩:=hx;obtain ⟨u,h4,h5,_⟩:=nX (P:=C.P) hn (e:=e) (F:=F) (b:=W.b) (q:=W.base) (w:=w) (fun j c hj ho=>by
     have:=hr.cells i _ W hl h2 0 j c (by simpa [O.cell] using hj) (.inr ho);simpa using this) he
    refine ⟨u,?_,h5⟩;simp only [Instr.loadAt,Instr.sureAddr,ax,bq,aF] at h4;simpa [asAddr,ax] using h4
   ·cases hw
  ·cases hw
 ·cases hw
theorem tm (hr:Rel C e F (look σ) w) (h:FR e F fr a) {r:RS} (hok:okR C.P [rv] [r]=true) (hw:(tn σ fr r).isW=true) :
  ∃ u,(mW a.tmps rv).run C.P w= .ok u w/\b6 e F (tn σ fr r) u:=by
 obtain ⟨t,n⟩:=r;cases rv with
 | tmp t' =>
  cases n with
  | none =>
   simp only [okR,ag,ak,and_true] at hok;subst hok;exact ⟨_,by simp [mW],h t'⟩
  | some n=>simp [okR] at hok
 | cell t' ty =>
  cases n with
  | none=>simp [okR] at hok
  | some n =>
   simp only [okR,ag,ak,and_true] at hok;obtain ⟨rfl,hn⟩:=hok;exact Ab hr hn (h t') hw
theorem A0 {l:List ResultVar} {r:RS} {m:List RS} (h:okR P (rv::l) (r::m)=true):okR P [rv] [r]=true/\okR P l m=true:=by
 obtain ⟨t,n⟩:=r;cases rv<;>cases n<;>simp_all [okR]
theorem vS {C:Ctx} {e:Emb} {F:Fz} {σ:Ob} {w:World} (hr:Rel C e F (look σ) w) {fr:Fr} {a:Act} (h:FR e F fr a):∀ {l:List ResultVar} {ts:List RS} {vs:List V},okR C.P l ts=true->xI σ fr ts=some vs ->
  ∃ us,(l.mapM (mW a.tmps)).run C.P w= .ok us w/\cK (fu e F) vs us
 | [],[],vs,_,h'=>by cases h';exact ⟨[],by simp,.nil⟩
 | rv::l,t::ts,vs,hok,h'=>by
  simp only [xI] at h';obtain ⟨h3,h4⟩:=A0 hok;split at h'
  ·rename_i ws h1 h2;cases h';obtain ⟨u,q1,q2⟩:=tm hr h h3 h1;obtain ⟨us,q3,q4⟩:=vS hr h h4 h2;exact ⟨u::us,by simp [List.mapM_cons,ax,q1,q3],.cons (Df h1 q2) q4⟩
  ·cases h'
 | [],_::_,vs,hok,_=>by simp [okR] at hok
 | rv::l,[],vs,hok,_=>by cases rv<;>simp [okR] at hok
theorem qN (hr:Rel C e F (look σ) w) (h:FR e F fr a) {ts:List RS} (hok:okR C.P fn.results.toList ts=true) (hv:qO σ fr ts=some v) :
  ∃ u,(results fn a.tmps).run C.P w= .ok u w/\b6 e F v u:=by
 have hmany:(ts.length≠1->∃ vs,xI σ fr ts=some vs/\v= .tup vs):=by
  intro hl;unfold qO at hv;split at hv
  ·simp at hl
  ·split at hv
   ·rename_i vs hvs;cases hv;exact ⟨vs,hvs,rfl⟩
   ·cases hv
 by_cases hl:ts.length=1
 ·match ts,hl with
  | [t],_ =>
   simp only [qO] at hv;split at hv
   ·rename_i hw;cases hv;cases hfr:fn.results.toList with
    | nil=>rw [hfr] at hok;simp [okR] at hok
    | cons rv l =>
     cases l with
     | cons x l=>rw [hfr] at hok;obtain ⟨t1,n1⟩:=t;cases rv<;>cases n1<;>simp [okR] at hok
     | nil =>
      rw [hfr] at hok;obtain ⟨u,q1,q2⟩:=tm hr h hok hw;refine ⟨u,?_,A4 q2⟩;exact pB (vs:=[u]) (by rw [hfr];simp [List.mapM_cons,ax,q1])
   ·cases hv
 ·obtain ⟨vs,h1,rfl⟩:=hmany hl;obtain ⟨us,q1,q2⟩:=vS hr h hok h1;refine ⟨.tuple us.toArray,?_,⟨us,rfl,q2⟩⟩;rw [pB q1];have hlen:us.length=ts.length:=by
   rw [<- q2.len];have:∀ (ts:List RS) (vs:List V),xI σ fr ts=some vs->vs.length=ts.length:=by
    intro ts;induction ts with
    | nil=>intro vs h;cases h;rfl
    | cons t ts ih =>
     intro vs h;simp only [xI] at h;split at h
     ·rename_i ws _ h2;cases h;simp [ih ws h2]
     ·cases h
   exact this ts vs h1
  match us with
  | []=>rfl
  | [x]=>simp at hlen;omega
  | _::_::_=>rfl
def Fin (m:Nat) (ts:List RS) (v:V) (g':Sto) (x:Ex) (fr:Fr) (σ:Ob) (nx:Nat):Prop :=
 (match x with | .exit _=>False | _=>True)/\∃ l fr' σ' n,fU m l (eB fr (ts.map (·.1))) σ=some (fr',σ',n)/\qO σ' fr' ts=some v/\∀ i y,g' i=some y->look σ' i=some y
def okF (P:Program) (fn:Func) (l:L) (n:Nat) (ts:List RS):Bool :=
 (match fn.body with | some c=>okC P fn.ntmps l c | none=>false)&&!(fn.name == "runtime.NumGoroutine")&&decide (n<=fn.ntmps)&&okR P fn.results.toList ts
theorem Ok.intro (ts:List RS) (hf:C.P.funcs[f]?=some fn) (hok:okF C.P fn l args.length ts=true)
  (h:wpL C m l (eW 0 args) σ m (Fin m ts v g')):Ok C m f args (look σ) v g':=by
 simp only [okF,ag,ak,ey] at hok;obtain ⟨⟨⟨h1,h2⟩,h3⟩,h4⟩:=hok;cases hb:fn.body with
 | none=>rw [hb] at h1;cases h1
 | some c =>
  rw [hb] at h1;refine ⟨⟨fn,c,hf,h2,hb⟩,?_⟩;intro e F w xs hr he ha;refine calls_of_wp hf hb ?_;have hlen:=ha.len;have hsat:Sat C m fn.ntmps [] e F (look σ) w (eW 0 args) σ m {tmps:=xs.toArray++Array.replicate (fn.ntmps - xs.toArray.size) undef,defers:=[]} w:=by
   refine ⟨e,F,?_,hr,he,?_,rfl,Ext.refl _ _ _ _ _,al _⟩
   ·intro t;rw [lh];simp only [Nat.zero_le,bo,Nat.sub_zero];cases hx:args[t]? with
    | none=>trivial
    | some x =>
     obtain ⟨u,hu,hxu⟩:=ha.get t x hx;have:(xs.toArray++Array.replicate (fn.ntmps - xs.toArray.size) undef).getD t undef=u:=by
      have htl:t < xs.length:=(af.1 hu).1;rw [cD,Array.getElem?_append_left (by simpa using htl)];simp [hu]
     show b6 e F x ((xs.toArray++Array.replicate (fn.ntmps - xs.toArray.size) undef).getD t undef);rw [this];exact hxu
   ·simp only [Array.size_append,List.size_toArray,Array.size_replicate];omega
  refine dE l c _ _ h1 ?_ _ _ _ _ _ h hsat;intro x fr σ1 nx a w1 hfin hs;obtain ⟨hx,ll,fr',σ',n,hcan,hres,hg⟩:=hfin;obtain ⟨e',F',q1,q2,q3,q4,q5,q6,q7⟩:=hs.fU hcan;obtain ⟨u,hu1,hu2⟩:=qN q2 q1 h4 hres;have hpost:a.defers=[]/\∃ u,(results fn a.tmps).run C.P w1= .ok u w1/\∃ e' F' x,Ending.returned u= .returned x/\b6 e' F' v x/\Rel C e' F' g' w1/\Ext m e F (look σ) w e' F' g' w1:=by
   refine ⟨q5,u,hu1,e',F',u,rfl,hu2,q2.less hg,q6.ee,q6.ff,q6.up,fun b o ho=>q6.own b o ?_,q6.fz⟩;obtain ⟨i,y,W,h6,h7⟩:=ho;exact ⟨i,y,W,hg i y h6,h7⟩
  cases x with
  | normal=>exact hpost
  | ret=>exact hpost
  | exit id=>exact hx.elim
theorem Goal.fin {ts:List RS} {v0:V} {x:Ex} (l:List Nat) (hx:(match x with | .exit _=>False | _=>True)) (hc:fU m l (eB fr (ts.map (·.1))) σ=some (fr',σ',n)) (hv:qO σ' fr' ts=some v0) (he:v0=v)
  (hg:∀ i y,g' i=some y->look σ' i=some y):Goal C m (Fin m ts v g') (.fin x fr σ nx):=⟨⟨hx,l,fr',σ',n,hc,he▸hv,hg⟩⟩
def OkD (C:Ctx) (m:Nat) (f:FuncId) (args:List V) (g:Sto) (g':Sto):Prop :=
 km C.P f/\∀ (e:Emb) (F:Fz) (w:World) (xs:List Value),Rel C e F g w->(∀ i,m<=i->e i=none)->cK (b6 e F) args xs ->
  ∀ u,CallsD C.P f xs.toArray u w fun en u' w'=>u'=u/\∃ e' F' x,en= .returned x/\Rel C e' F' g' w'/\Ext m e F g w e' F' g' w'
theorem tR {xs:List Value} (h3:args.length<=nt) (hr:Rel C e F (look σ) w) (he:∀ i,m<=i->e i=none) (ha:cK (b6 e F) args xs) :
  Sat C m nt [] e F (look σ) w (eW 0 args) σ m {tmps:=xs.toArray++Array.replicate (nt - xs.toArray.size) undef,defers:=[]} w:=by
 have hlen:=ha.len;refine ⟨e,F,?_,hr,he,?_,rfl,Ext.refl _ _ _ _ _,al _⟩
 ·intro t;rw [lh];simp only [Nat.zero_le,bo,Nat.sub_zero];cases hx:args[t]? with
  | none=>trivial
  | some x =>
   obtain ⟨u,hu,hxu⟩:=ha.get t x hx;have:(xs.toArray++Array.replicate (nt - xs.toArray.size) undef).getD t undef=u:=by
    have htl:t < xs.length:=(af.1 hu).1;rw [cD,Array.getElem?_append_left (by simpa using htl)];simp [hu]
   show b6 e F x ((xs.toArray++Array.replicate (nt - xs.toArray.size) undef).getD t undef);rw [this];exact hxu
 ·simp only [Array.size_append,List.size_toArray,Array.size_replicate];omega
theorem OkD.intro (ts:List RS) (hf:C.P.funcs[f]?=some fn) (hok:okF C.P fn l args.length ts=true)
  (h:wpL C m l (eW 0 args) σ m (Fin m ts v g')):OkD C m f args (look σ) g':=by
 simp only [okF,ag,ak,ey] at hok;obtain ⟨⟨⟨h1,h2⟩,h3⟩,h4⟩:=hok;cases hb:fn.body with
 | none=>rw [hb] at h1;cases h1
 | some c =>
  rw [hb] at h1;refine ⟨⟨fn,c,hf,h2,hb⟩,?_⟩;intro e F w xs hr he ha u;refine callsD_of_wp (R:=fun en w'=>∃ e' F' x,en= .returned x/\Rel C e' F' g' w'/\Ext m e F (look σ) w e' F' g' w') hf hb ?_;refine dE l c _ _ h1 ?_ _ _ _ _ _ h (tR h3 hr he ha);intro x fr σ1 nx a w1 hfin hs;obtain ⟨hx,ll,fr',σ',n,hcan,hres,hg⟩:=hfin;obtain ⟨e',F',q1,q2,q3,q4,q5,q6,q7⟩:=hs.fU hcan;obtain ⟨u,hu1,hu2⟩:=qN q2 q1 h4 hres;have hpost:a.defers=[]/\∃ u,(results fn a.tmps).run C.P w1= .ok u w1/\∃ e' F' x,Ending.returned u= .returned x/\Rel C e' F' g' w1/\Ext m e F (look σ) w e' F' g' w1:=by
   refine ⟨q5,u,hu1,e',F',u,rfl,q2.less hg,q6.ee,q6.ff,q6.up,fun b o ho=>q6.own b o ?_,q6.fz⟩;obtain ⟨i,y,W,h6,h7⟩:=ho;exact ⟨i,y,W,hg i y h6,h7⟩
  cases x with
  | normal=>exact hpost
  | ret=>exact hpost
  | exit id=>exact hx.elim
structure xw (C:Ctx) (f:Nat) (xs:List V) (σ:Ob) (nx:Nat) (e:Eff):Prop where
 ex:∃ (args:List V) (π:List Nat) (os:List O) (os':List (Option O)),
  OkD C π.length f args (fun i=>os[i]?) (fun i=>(os'[i]?).join)/\os.length=π.length/\π.length<=os'.length/\distinct π=true/\xs=j2 π π.length nx args /\
  gE σ π=some (gp π π.length nx os) /\
  (j9 π.length args&&oo π.length os&&mR os'.length os')=true/\e.pt=dQ π π.length nx 0 os'/\e.n=os'.length - π.length
theorem Ac {f:Nat} {xs:List V} {eff:Eff} (hc:xw C f xs σ nx eff) :
  km C.P f/\∀ (e:Emb) (F:Fz) (w:World) (us:List Value),Rel C e F (look σ) w->(∀ i,nx<=i->i < nx+eff.n->e i=none)->cK (b6 e F) xs us ->
   ∀ u,CallsD C.P f us.toArray u w fun en u' w'=>u'=u/\∃ x,en= .returned x/\Res C e F (look σ) w nx eff.n .un (cH (look σ) eff.pt) x w':=by
 obtain ⟨args,π,os,os',hok,hl,hl',hd,hx,hlook,hb,hpt,hn⟩:=hc;simp only [ag] at hb;obtain ⟨⟨hb1,hb2⟩,hb4⟩:=hb;refine ⟨hok.1,fun e F w us hr hfresh hus u=>?_⟩;rw [hn] at hfresh ⊢;rw [hpt];obtain ⟨e0,F0,hf0,hr0,h0,h1,hfin⟩:=pg hr hl hl' hd (fun p hp=>lY hlook p hp) hfresh hb2 hb4;have hargs:cK (b6 e0 F) args us:=by
  rw [hx] at hus;exact (qz h1 hb1).2 hus
 refine (hok.2 e0 F0 w us hr0 h0 (e6 (fun _ _=>b6.mono (fun _ _ y=>y) (fun b o u hu=>by rw [<- hf0] at hu;exact hu)) hargs) u).mono ?_;intro en u' w' hh;obtain ⟨hu,e1,F1,x,rfl,hr1,hx1⟩:=hh;exact ⟨hu,x,rfl,hfin e1 F1 w' .un x rfl trivial hr1 hx1⟩
def Ce (C:Ctx) (m:Nat) (ts:List RS) (f:Nat) (caps:List (Nat×Nat×Nat)) (v:V) (g':Sto) (x:Ex) (fr:Fr) (σ:Ob) (nx:Nat):Prop :=
 (match x with | .exit _=>False | _=>True)/\∃ e,xw C f (caps.map fun p=>V.ptr p.1 p.2.1 p.2.2) σ nx e/\Fin m ts v g' .normal fr (patch σ e.pt) (nx+e.n)
def nc (P:Program) (ops:Array Oper) (nt:Nat) (t:Nat):List Oper->List Ir->Bool
 | [d],[]=>(match d.guard with | none=>true | _=>false)&&(match d.dst with | none=>true | _=>false)&&(match d.op with
  | .defer c=>(match c.callee with | .value (.tmp t')=>decide (t'=t) | _=>false)&&(match c.args.toList with | []=>true | _=>false)
  | _=>false)
 | o::l,i::m=>xK P ops nt o i&&nc P ops nt t l m
 | _,_=>false
def A1 (P:Program) (fn:Func) (l0:L) (is:List Ir) (t:Nat) (l:L) (n:Nat) (ts:List RS):Bool :=
 (match fn.body with
 | some (.seq c0 (.seq (.region _ ops false) c1))=>okC P fn.ntmps l0 c0&&nc P ops fn.ntmps t ops.toList is&&okC P fn.ntmps l c1
 | _=>false)&&!(fn.name == "runtime.NumGoroutine")&&decide (n<=fn.ntmps)&&okR P fn.results.toList ts
theorem nT {P:Program} {ops:Array Oper} {nt t:Nat}:∀ {l:List Oper} {is:List Ir},nc P ops nt t l is=true->∃ l1 d,l=l1++[d]/\iZ P ops nt l1 is=true/\nc P ops nt t [d] []=true
 | [],is,h=>by cases is<;>cases h
 | [d],[],h=>⟨[],d,rfl,rfl,h⟩
 | d::e::l,[],h=>by cases h
 | o::l,i::m,h=>by
  have h':xK P ops nt o i=true/\nc P ops nt t l m=true:=by
   cases l<;>simpa [nc] using h
  obtain ⟨l1,d,h1,h2,h3⟩:=nT h'.2;exact ⟨o::l1,d,by rw [h1];rfl,by simp only [iZ,h'.1,h2,Bool.and_true],h3⟩
theorem nB {P:Program} {ops:Array Oper} {Q:Exit->Act->World->Prop} (l2:List Nat):∀ (l1:List Nat) (a:Act) (w:World),
  wpOps P ops (fun e a w=>match e with | .normal=>wpOps P ops Q l2 a w | e=>Q e a w) l1 a w->wpOps P ops Q (l1++l2) a w
 | [],a,w,h=>h
 | i::l1,a,w,h=>by
  have ih:=nB (P:=P) (ops:=ops) (Q:=Q) l2 l1;simp only [wpOps,cN] at h ⊢;split
  ·rename_i ho;rw [ho] at h;exact ih a w h
  ·rename_i o ho;rw [ho] at h;dsimp only at h;by_cases hw:Region.wanted o (yielded ops a.tmps)=true
   ·rw [aj hw] at h ⊢;rcases h with h | ⟨h1,h2⟩
    ·refine .inl ?_;unfold Oper.wp at h ⊢;generalize (execOp a.eval o).run P w=r at h ⊢;cases r with
     | ok n w' =>
      cases n<;>simp only [Oper.upon] at h ⊢<;>try exact ih _ _ h
      ·refine Calls.mono h fun e w'' he=>?_
       cases e with
       | returned u=>exact ih _ _ he
       | panicked c=>exact he
       | outgrown=>obtain ⟨a,w,hq⟩:=he;exact ⟨a,w,hq⟩
      ·exact Rows.mono h fun u w'' he=>ih _ _ he
     | halt x w' =>
      cases x<;>simp only [Oper.upon] at h ⊢<;>exact h
    ·obtain ⟨a',w',hq⟩:=h2;exact .inr ⟨h1,a',w',hq⟩
   ·rw [ab hw] at h ⊢;exact ih _ _ h
theorem Ok.EK {l0:L} {is:List Ir} {t:Nat} (ts:List RS) (hf:C.P.funcs[f]?=some fn)
  (hok:A1 C.P fn l0 is t l args.length ts=true)
  (h:wpL C m l0 (eW 0 args) σ m fun x fr σ nx=>x= .normal/\dt C is .off fr σ nx fun fr1 σ1 nx1=>∃ fd caps,cP fr1 t= .fn fd caps/\(caps.all fun p=>Nat.blt p.1 nx1)=true /\
   wpL C nx1 l fr1 σ1 nx1 (Ce C m ts fd caps v g')):Ok C m f args (look σ) v g':=by
 simp only [A1,ag,ak,ey] at hok;obtain ⟨⟨⟨h1,h2⟩,h3⟩,h4⟩:=hok;split at h1
 ·rename_i c0 rid ops c1 hb;simp only [ag] at h1;obtain ⟨⟨k1,k2⟩,k3⟩:=h1;refine ⟨⟨fn,_,hf,h2,hb⟩,?_⟩;intro e F w xs hr he ha;refine calls_of_wp_defers hf hb ?_;refine wp_seq (dE l0 c0 _ _ k1 ?_ _ _ _ _ _ h (tR h3 hr he ha));intro x fr σ1 nx a w1 hx hs;obtain ⟨rfl,hx⟩:=hx;dsimp only [Ex.as];refine wp_seq ?_;obtain ⟨l1,d,hl1,hl2,hl3⟩:=nT k2;have hsz:ops.size=l1.length+1:=by
   have:=congrArg List.length hl1;simpa using this
  refine wp_region ?_;rw [hsz,List.range_succ];refine nB _ _ _ _ ?_;have hdat:ops[l1.length]?=some d:=by
   rw [<- Array.getElem?_toList,hl1];simp
  refine oN (C:=C) (m:=m) (nt:=fn.ntmps) (ds:=[]) (e0:=e) (F0:=F) (g0:=look σ) (w0:=w) (K:=fun fr1 σ1 nx1=>∃ fd caps,cP fr1 t= .fn fd caps/\(caps.all fun p=>Nat.blt p.1 nx1)=true /\
   wpL C nx1 l fr1 σ1 nx1 (Ce C m ts fd caps v g')) ?_ l1 is _ ?_ hl2 fr σ1 nx a w1 hx hs
  ·intro fr1 σ2 nx1 a1 w2 hk hs1;obtain ⟨fd,caps,hcl,hcb,hk⟩:=hk;obtain ⟨e1,F1,q1,q2,q3,q4,q5,q6,q7⟩:=hs1;have hcv:=q1 t;rw [hcl] at hcv;obtain ⟨us,hus,hcaps⟩:=hcv;simp only [nc,ag] at hl3;obtain ⟨⟨g1,g2⟩,g3⟩:=hl3;split at g1<;>try (cases g1;done)
   rename_i hguard;split at g2<;>try (cases g2;done)
   rename_i hdst;split at g3<;>try (cases g3;done)
   rename_i c hdop;simp only [ag] at g3;obtain ⟨g3,g4⟩:=g3;split at g3<;>try (cases g3;done)
   rename_i t' hcallee;have:=ai g3;subst this;split at g4<;>try (cases g4;done)
   rename_i hargs;have hargs:c.args=#[]:=Array.toList_eq_nil_iff.1 hargs;simp only [wpOps,hdat];have hwant:Region.wanted d (yielded ops a1.tmps)=true:=by simp [Region.wanted,hguard]
   rw [aj hwant];refine .inl ?_;unfold Oper.wp;have hev:a1.eval (.tmp t')= .func (.func fd) #[] us.toArray:=by rw [<- hus];rfl
   have hrun:(execOp a1.eval d).run C.P w2= .ok (.defer {target:= .fn (.func fd) us.toArray,args:=#[]}) w2:=by
    simp [execOp,hdop,resolve,hcallee,hargs,ax,Deferred.ofValue,hev]
   rw [hrun,Oper.upon_defer,hdst];have hs2:Sat C nx1 fn.ntmps [{target:= .fn (.func fd) us.toArray,args:=#[]}] e1 F1 (look σ2) w2 fr1 σ2 nx1 (({a1 with defers:={target:= .fn (.func fd) us.toArray,args:=#[]}::a1.defers}:Act).put none undef) w2:=by
    refine ⟨e1,F1,q1,q2,q3,q4,?_,Ext.refl _ _ _ _ _,al _⟩;simp only [Act.put,q5]
   refine dE l c1 _ _ k3 ?_ _ _ _ _ _ hk hs2;intro x fr3 σ3 nx3 a3 w3 hfin hs3;obtain ⟨hx,eff,hcd,hfin⟩:=hfin;obtain ⟨e3,F3,r1,r2,r3,r4,r5,r6,r7⟩:=hs3;obtain ⟨hcok,hcd⟩:=Ac hcd;have hptr:cK (b6 e3 F3) (caps.map fun p=>V.ptr p.1 p.2.1 p.2.2) us:=by
    refine qS ?_;have key:∀ (cs:List (Nat×Nat×Nat)) (us:List Value),(cs.all fun p=>Nat.blt p.1 nx1)=true->cK (kJ e1) cs us->cK (kJ e3) cs us:=by
     intro cs us hb hc;induction hc with
     | nil=>exact .nil
     | cons a _ ih =>
      simp only [List.all_cons,ag,Nat.blt_eq] at hb;obtain ⟨W,h1,h2⟩:=a;exact .cons ⟨W,r6.ee _ _ hb.1 h1,h2⟩ (ih hb.2)
    exact key _ _ hcb hcaps
   have hleave:Leaves C.P fn a3.tmps (fun en w'=>∃ e' F' x,en= .returned x/\b6 e' F' v x/\Rel C e' F' g' w'/\Ext m e F (look σ) w e' F' g' w') a3.defers .returning w3:=by
    rw [r5];refine leaves_cons (by simp) (f:=fd) (args:=us.toArray) (by simp [invoke,oM hcok]) ?_;refine (hcd e3 F3 w3 us r2 (fun i hi _=>r3 i hi) hptr .returning).mono ?_;intro en u' w4 hh;obtain ⟨rfl,z,rfl,hres⟩:=hh;obtain ⟨e4,F4,s1,s2,s3,s4,s5,s6,s7,s8⟩:=hres;have hs4:Sat C m fn.ntmps a3.defers e F (look σ) w fr3 (patch σ3 eff.pt) (nx3+eff.n) a3 w4:=by
     refine ⟨e4,F4,r1.mono s1 s3,by rw [fB];exact s5,?_,r4,rfl,?_,by omega⟩
     ·intro i hi;rw [s2 i (.inr hi)];exact r3 i (by omega)
     ·refine q6.trans (Ext.trans ⟨fun i W hi hW=>r6.ee i W (by omega) hW,r6.ff,r6.up,r6.own,r6.fz⟩ ⟨fun i W _ hi=>s1 i W hi,s3,s6,?_,s8⟩);rw [fB];exact s7
    obtain ⟨hx',ll,fr',σ',n,hcan,hres',hg⟩:=hfin;obtain ⟨e',F',p1,p2,p3,p4,p5,p6,p7⟩:=hs4.fU hcan;obtain ⟨u,hu1,hu2⟩:=qN p2 p1 h4 hres';refine ⟨u,hu1,e',F',u,rfl,hu2,p2.less hg,p6.ee,p6.ff,p6.up,fun b o ho=>p6.own b o ?_,p6.fz⟩;obtain ⟨i,y,W,h6,h7⟩:=ho;exact ⟨i,y,W,hg i y h6,h7⟩
   cases x with
   | normal=>exact hleave
   | ret=>exact hleave
   | exit id=>exact hx.elim
  ·apply List.ext_getElem?;intro j;simp only [bf];by_cases hj:j < l1.length
   ·have hjo:ops[j]?=some l1[j]:=by
     rw [<- Array.getElem?_toList,hl1,bU hj];exact aa hj
    simp [List.getElem?_range hj,hjo,hj]
   ·have q1:(List.range l1.length)[j]?=none:=by simp;omega
    have q2:l1[j]?=none:=by simp;omega
    rw [q1,q2];rfl
 ·cases h1
end Go.Proofs.YtggoiofammbchaaGreatDoor.Loc
