/- Part 3 of a chain that ends in the statement named in GOCLAIM.json; no condition. -/
import Derived.Test.YtggoiofammbchaaGreatDoorK2
import Derived.IntWalk
import Derived.Laws.Strings
import Derived.Lib.IndexBytes
import Derived.Laws.MakeOwn
import Derived.Laws.BytesString
set_option maxRecDepth 100000
set_option maxHeartbeats 2000000
set_option linter.all false
namespace Go.Proofs.YtggoiofammbchaaGreatDoor.Loc
open Go
variable {α β:Type} {C:Ctx} {F F':Fz} {P:Program} {S S' T:Nat->Nat->Prop} {W W':Win} {a:Act} {b f i j k nx off p wd:Nat} {cell:Nat->Nat->Option V} {cs row z:List V} {dp ne:Bool} {e e':Emb} {eff:Eff} {el s t t':TypeId} {es:List (D×Int)} {fd:Field} {fr:Fr} {fs:Array Field} {g':Sto} {h l:Option Int} {hi:Option Value} {hi' lo':Option A} {lo:Option Operand} {n:Option Nat} {r:D} {rd:List (Nat×O)} {rows:List (List D)} {u v:Value} {us:List Value} {w w' w1:World} {x y:Operand} {x' y':A}
def upd (g:Sto) (i:Nat) (x:Option O):Sto:=fun j=>if j=i then x else g j
def cH:Sto->Pt->Sto
 | g,[]=>g
 | g,(i,x)::l=>cH (upd g i x) l
theorem jk (i j:Nat):Nat.beq i j=decide (i=j):=by
 rw [Bool.eq_iff_iff,Nat.beq_eq];simp
theorem kX (σ:Ob) (i j:Nat):look (fS σ i) j=if j=i then none else look σ j:=by
 induction σ with
 | nil=>simp [fS,look]
 | cons p l ih =>
  obtain ⟨k,x⟩:=p;simp only [fS,jk];by_cases hk:k=i
  ·subst hk;simp only [decide_true,cond_true,ih,look,jk]
   grind
  ·simp only [hk,decide_false,cond_false,look,jk,ih]
   grind
theorem iO (σ:Ob) (i:Nat) (x:Option O):look (kS σ i x)=upd (look σ) i x:=by
 funext j
 cases x with
 | none=>simp only [kS,kX,upd]
 | some y =>
  simp only [kS,look,jk,kX,upd]
  grind
theorem fB:∀ (pt:Pt) (σ:Ob),look (patch σ pt)=cH (look σ) pt
 | [],σ=>rfl
 | (i,x)::l,σ=>by simp only [patch,cH,fB l,iO]
theorem iE {b o:Nat} (h:w.cell? ⟨b,o,none⟩=some u):b < w.heap.size:=World.block_lt_of_cell? w ⟨b,o,none⟩ h
theorem df {b o:Nat} (h:(w.cell? ⟨b,o,none⟩).isSome=true):b < w.heap.size:=by
 obtain ⟨u,hu⟩:=bX.1 h;exact iE hu
theorem n4 {x:Obj} (h:w.heap[b]?=some x):b < w.heap.size:=(Array.getElem?_eq_some_iff.1 h).1
theorem vY {x:O} (h:x.gone=false):x.plain=true\/∃ es,x= .mp es:=by cases x<;>simp_all [O.plain,O.gone]
theorem pf {x:O} {r:Nat} {c:V} (h:x.cell r k=some c):x.gone=false:=by cases x<;>first | rfl | cases h
theorem fP {x:O} (h:x.plain=true):x.gone=false:=by cases x<;>simp_all [O.plain,O.gone]
theorem InR.of {x:O} {b o:Nat} (h:x.plain=true) (hw:InW W b o):InR x W b o:=⟨fP h,hw⟩
theorem Rel.jL {C e F g w} (h:Rel C e F g w) {b o:Nat} (ho:Own e F g b o):b < w.heap.size:=by
 obtain ⟨i,x,W,h1,h2,⟨h0,⟨rfl,h4,h5⟩⟩ | h3⟩:=ho
 ·rcases vY h0 with hx | ⟨es,rfl⟩
  ·have:=(h.own i x W h1 h2 hx (o - W.base) (by omega)).1;exact df this
  ·obtain ⟨_,_,me,ck,hm,_⟩:=h.mp i es W h1 h2;exact n4 hm
 ·exact df (h.dY i x h1 b o h3).2.1
theorem wx {b o:Nat} {me:Array MapEntry} {ck:Nat} (h:w.heap[b]?=some (.map me ck)):w.cell? ⟨b,o,none⟩=none:=by
 simp [World.cell?,h]
theorem Rel.uI {C e F g w} (h:Rel C e F g w) {b o:Nat} (hu:w.cell? ⟨b,o,none⟩=some u) (hi:g i=some (.mp es)) (he:e i=some W):b≠W.b:=by
 rintro rfl
 obtain ⟨_,_,me,ck,hm,_⟩:=h.mp i es W hi he;rw [wx hm] at hu;cases hu
theorem Rel.n5 {C e F g w} (h:Rel C e F g w) {b o:Nat} (ho:F b o=some u):b < w.heap.size:=iE (h.fz b o u ho)
theorem Rel.emb {C e F g w} (h:Rel C e F g w) (hle:Emb.le e e') {x:O} (hg:g i=some x) (he:e' i=some W):e i=some W:=by
 obtain ⟨W',h1,_⟩:=h.dom i x hg;have:=hle _ _ h1;simp_all
theorem Rel.sep {C e F g w} (h:Rel C e F g w) {x:O} {i':Nat} {x':O} (hi:g i=some x) (he:e i=some W) (hi':g i'=some x') (he':e i'=some W') (hne:i≠i') {b o:Nat} (h1:InR x W b o\/F.H i b o):¬ (InR x' W' b o\/F.H i' b o):=by
 grind [h.apart,h.hap]
theorem Rel.tH {C e F g w} (h:Rel C e F g w) (hi:g i=some (.mp es)) (he:e i=some W) {y:O} (hj:g j=some y) (hej:e j=some W') (hne:i≠j) {b o:Nat} (hw:InR y W' b o\/F.H j b o):b≠W.b:=by
 rcases hw with ⟨h0,hw⟩ | hw
 ·rcases vY h0 with hy | ⟨es',rfl⟩
  ·obtain ⟨rfl,h1,h2⟩:=hw;have:=(h.own j y W' hj hej hy (o - W'.base) (by omega)).1;obtain ⟨u,hu⟩:=bX.1 this
   grind [h.uI]
  ·rintro rfl
   obtain ⟨h1,h2,_⟩:=h.mp i es W hi he;obtain ⟨h3,h4,_⟩:=h.mp j es' W' hj hej;have h5:=hw.1;exact h.apart i _ W j _ W' hi he hj hej hne W.b 0 ⟨rfl,rfl,by omega,by omega⟩ ⟨rfl,h5,by omega,by omega⟩
 ·obtain ⟨u,hu⟩:=bX.1 (h.dY j y hj b o hw).2.1
  grind [h.uI]
theorem HT.mono (hF:Fz.le F F') (hup:b9 T w w') (h:HT F w dp wd rows u S):(∀ b o,T b o->¬ S b o)->HT F' w' dp wd rows u S:=by
 induction h with
 | nil dp wd a S=>exact fun _=> .nil dp wd a S
 | mk dp wd rows b p cap S Sub us h0 hc hw hS hu hd hp ho hs ha ih =>
  intro hT;refine .mk dp wd rows b p cap S Sub us h0 hc hw hS (fun r j d hrj=>?_) (fun r j d hrj hdo=>bj.mono hF (hd r j d hrj hdo)) hp (fun r j dp' wd' rows' hrj=>ih r j dp' wd' rows' hrj fun b' o hTb hSb=>hT b' o hTb (hs r j b' o hSb).1) hs ha;have h1:=hu r j d hrj;rw [hup.cell _ _ (iE h1) (fun ht=>?_)]
  ·exact h1
  ·have hr:r < rows.length:=by
    grind
   have hj:j < wd:=by
    grind
   have h2:=bw wd (show r+1<=cap by omega);rw [bK,Nat.one_mul] at h2;have:=hS (r * wd+j) (by omega)
   grind
theorem HT.sub (h:HT F w dp wd rows u S) (hs:∀ b o,S b o->S' b o):HT F w dp wd rows u S':=by
 cases h with
 | nil dp wd a S=>exact .nil dp wd a S'
 | mk dp wd rows b p cap S Sub us h0 hc hw hS hu hd hp ho h1 ha=>exact .mk dp wd rows b p cap S' Sub us h0 hc hw (fun k hk=>hs _ _ (hS k hk)) hu hd hp ho (fun r j b' o hh=>⟨hs _ _ (h1 r j b' o hh).1,(h1 r j b' o hh).2⟩) ha
theorem ox.mono (hF:Fz.le F F') (hup:b9 T w w') (h:ox F w S cell W) (hT:∀ b o,T b o->¬ S b o) (hTW:∀ r j dp wd rows,cell r j=some (.own dp wd rows)->¬ T W.b (W.base+r * W.wd+j)):ox F' w' S cell W:=by
 obtain ⟨Sub,h1,h2,h3⟩:=h;refine ⟨Sub,h1,h2,fun r j dp wd rows hc=>?_⟩;obtain ⟨u,h4,h5⟩:=h3 r j dp wd rows hc;refine ⟨u,?_,h5.mono hF hup fun b o ht hs=>hT b o ht (h1 r j b o hs).1⟩;rw [hup.cell _ _ (iE h4) (hTW r j dp wd rows hc)];exact h4
theorem ox.none (h:∀ r j dp wd rows,cell r j≠some (.own dp wd rows)):ox F w S cell W :=
 ⟨fun _ _ _ _=>False,fun _ _ _ _ x=>x.elim,fun _ _ _ _ _ _ _ x=>x.elim,fun r j dp wd rows hc=>absurd hc (h r j dp wd rows)⟩
theorem fw.mono (he:Emb.le e e') (hF:Fz.le F F') (hup:b9 T w w') {x:O} {r o n k:Nat} (h:fw e F w S W x r o n k) (hT:∀ b q,T b q->¬ S b q):fw e' F' w' S W x r o n k:=by
 have hin:∀ r' j c,x.cell r' j=some c->¬ (r'=r/\o<=j/\j < o+n)->S W.b (W.base+r' * W.wd+j):=by
  intro r' j c hc hno;have hf:=h.fit r' j c hc;have:=h.reg (r' * W.wd+j) hf.2 ?_
  ·rwa [<- cS] at this
  ·rintro ⟨h1,h2⟩
   have h3:=h.inn.1;rcases Nat.lt_trichotomy r' r with hlt | rfl | hlt
   ·have:=bw W.wd (show r'+1<=r from hlt)
    grind
   ·omega
   ·have:=bw W.wd (show r+1<=r' from hlt)
    grind
 refine ⟨he _ _ h.kid,h.inn,h.fit,h.wo,h.reg,fun r' j c hc hno hown=>?_,h.hid.mono hF hup hT ?_⟩
 ·obtain ⟨u,h1,h2⟩:=h.cells r' j c hc hno hown;refine ⟨u,?_,cj.mono he hF h2⟩;rw [hup.cell _ _ (iE h1) (fun ht=>hT _ _ ht (hin r' j c hc hno))];exact h1
 ·grind
theorem Hid.mono (he:Emb.le e e') (hF:Fz.le F F') (hup:b9 T w w') {x:O} (h:Hid e F w S x W) (hfit:∀ r j c,x.cell r j=some c->j < W.wd/\r * W.wd+j < W.cap)
  (hT:∀ b o,T b o->¬ (InR x W b o\/S b o)):Hid e' F' w' S x W:=by
 have hT1:∀ b o,T b o->¬ S b o:=fun b o ht hs=>hT b o ht (.inr hs)
 have hT2:x.gone=false->∀ r j dp wd rows,x.cell r j=some (.own dp wd rows)->¬ T W.b (W.base+r * W.wd+j):=by
  intro hg r j dp wd rows hc ht;have:=hfit r j _ hc;exact hT _ _ ht (.inl ⟨hg,rfl,by omega,by omega⟩)
 cases x with
 | rest wd rows r o n k=>exact fw.mono he hF hup h hT1
 | rst cs o n k=>exact fw.mono he hF hup h hT1
 | st cs=>exact ox.mono hF hup h hT1 (hT2 rfl)
 | da v rows=>exact ox.mono hF hup h hT1 (hT2 rfl)
 | va v rows=>exact ox.mono hF hup h hT1 (hT2 rfl)
 | mp es=>exact ox.mono hF hup h hT1 (hT2 rfl)
 | oa v rows=>exact ox.mono hF hup h hT1 (hT2 rfl)
theorem Hid.none {x:O} (hx:x.gone=false) (h:∀ r j dp wd rows,x.cell r j≠some (.own dp wd rows)):Hid e F w S x W:=by
 cases x<;>first | exact ox.none h | cases hx
theorem Hid.plain {x:O} (hx:x.gone=false):Hid e F w S x W↔ox F w S x.cell W:=by
 cases x<;>first | exact Iff.rfl | cases hx
theorem fX (F:Fz) (j:Nat) (S:Nat->Nat->Prop):Fz.le F (F.ke j S):=fun _ _ _ h=>h
theorem er (F:Fz) (j:Nat) (S:Nat->Nat->Prop):(F.ke j S).H j=S:=by simp [Fz.ke]
theorem fW (F:Fz) (S:Nat->Nat->Prop) (h:i≠j):(F.ke j S).H i=F.H i:=by simp [Fz.ke,h]
theorem oJ (F:Fz) (j:Nat):F.ke j (F.H j)=F:=by
 obtain ⟨f,H⟩:=F;simp only [Fz.ke,Fz.mk.injEq,true_and];funext i
 by_cases h:i=j
 ·subst h;simp
 ·simp [h]
theorem Rel.CR {C e F g w} (h:Rel C e F g w) {x':O} 
  (hup:b9 S w w') (hng:∀ b,b < C.ng->∀ o,¬ S b o) (hj:g' j=some x') (hej:e' j=some W') (hle:Emb.le e e')
  (hold:∀ i x,i≠j->g' i=some x->g i=some x)
  (hS:∀ b o,S b o->∀ i x W,i≠j->g' i=some x->e i=some W->¬ (InR x W b o\/F.H i b o)) (hSF:∀ b o u,S b o->F b o=some u->False)
  (hW:C.ng<=W'.b) (hfit:∀ r k c,x'.cell r k=some c->k < W'.wd/\r * W'.wd+k < W'.cap)
  (hcells:∀ r k c,x'.cell r k=some c->(x'.dU=false\/c.dW=false)->∃ u,w'.cell? ⟨W'.b,W'.base+r * W'.wd+k,none⟩=some u/\cj e' F c u)
  (hown:x'.plain=true->∀ k,k < W'.cap->(w'.cell? ⟨W'.b,W'.base+k,none⟩).isSome=true/\w'.frozen? ⟨W'.b,W'.base+k,none⟩=false)
  (hSm:∀ b o,S b o->∀ i es W,i≠j->g' i=some (.mp es)->e i=some W->b≠W.b)
  (hmp:∀ es,x'= .mp es->W'.base=0/\W'.cap=1/\∃ me ck,w'.heap[W'.b]?=some (.map me ck)/\Am es me)
  (hwd:∀ v rows,x'= .da v rows->v=W'.wd/\rows.length=W'.n/\∀ row∈rows,row.length=v) (hwv:∀ v rows,x'= .va v rows->v=W'.wd/\rows.length=W'.n/\∀ row∈rows,row.length=v)
  (hwo:∀ v rows,x'= .oa v rows->v=W'.wd/\rows.length=W'.n/\∀ row∈rows,row.length=v)
  (hap:∀ i x W,i≠j->g' i=some x->e i=some W->∀ b o,(InR x W b o\/F.H i b o)->¬ (InR x' W' b o\/S' b o))
  (hfz:∀ b o u,F b o=some u->¬ (InR x' W' b o\/S' b o))
  (hhid:Hid e' F w' S' x' W') (dY:∀ b o,S' b o->C.ng<=b/\(w'.cell? ⟨b,o,none⟩).isSome=true/\w'.frozen? ⟨b,o,none⟩=false) (hsw:∀ b o,S' b o->¬ InR x' W' b o):Rel C e' (F.ke j S') g' w' where
 np:=C.uj w w' (fun b hb=>hup.blk b (eT hb h.ng) (hng b hb)) h.np
 ng:=bG h.ng hup.size
 dom:=fun i x hi=>by
  by_cases hij:i=j
  ·subst hij;exact ⟨W',hej,hW⟩
  ·obtain ⟨W,h1,h2⟩:=h.dom i x (hold i x hij hi);exact ⟨W,hle _ _ h1,h2⟩
 fit:=fun i x W hi he=>by
  by_cases hij:i=j
  ·subst hij;rw [hj] at hi;cases hi;rw [hej] at he;cases he;exact hfit
  ·exact h.fit i x W (hold i x hij hi) (h.emb hle (hold i x hij hi) he)
 cells:=fun i x W hi he r k c hc hoc=>by
  by_cases hij:i=j
  ·subst hij;rw [hj] at hi;cases hi;rw [hej] at he;cases he;obtain ⟨u,h1,h2⟩:=hcells r k c hc hoc;exact ⟨u,h1,cj.mono (fun _ _ y=>y) (fX _ _ _) h2⟩
  ·have hg:=hold i x hij hi;have he':=h.emb hle hg he;obtain ⟨u,h1,h2⟩:=h.cells i x W hg he' r k c hc hoc;refine ⟨u,?_,cj.mono hle (fX _ _ _) h2⟩;rw [hup.cell _ _ (iE h1) (fun hs=>hS _ _ hs i x W hij hi he' (.inl ⟨pf hc,rfl,by omega,by have:=(h.fit i x W hg he' r k c hc).2;omega⟩))];exact h1
 mp:=fun i es W hi he=>by
  by_cases hij:i=j
  ·subst hij;rw [hj] at hi;cases hi;rw [hej] at he;cases he;exact hmp es rfl
  ·have hg:=hold i _ hij hi;have he':=h.emb hle hg he;obtain ⟨h1,h2,me,ck,hm,hr⟩:=h.mp i es W hg he';exact ⟨h1,h2,me,ck,(hup.blk W.b (n4 hm) (fun o hs=>hSm W.b o hs i es W hij hi he' rfl)).trans hm,hr⟩
 own:=fun i x W hi he hpl k hk=>by
  by_cases hij:i=j
  ·subst hij;rw [hj] at hi;cases hi;rw [hej] at he;cases he;exact hown hpl k hk
  ·have hg:=hold i x hij hi;have he':=h.emb hle hg he;obtain ⟨h1,h2⟩:=h.own i x W hg he' hpl k hk;have hlt:=df h1;rw [hup.cell _ _ hlt (fun hs=>hS _ _ hs i x W hij hi he' (.inl (.of hpl ⟨rfl,by omega,by omega⟩))),hup.frz _ _ hlt];exact ⟨h1,h2⟩
 wd:=fun i x W hi he=>by
  by_cases hij:i=j
  ·subst hij;rw [hj] at hi;cases hi;rw [hej] at he;cases he;exact hwd
  ·exact h.wd i x W (hold i x hij hi) (h.emb hle (hold i x hij hi) he)
 wv:=fun i x W hi he=>by
  by_cases hij:i=j
  ·subst hij;rw [hj] at hi;cases hi;rw [hej] at he;cases he;exact hwv
  ·exact h.wv i x W (hold i x hij hi) (h.emb hle (hold i x hij hi) he)
 wo:=fun i x W hi he=>by
  by_cases hij:i=j
  ·subst hij;rw [hj] at hi;cases hi;rw [hej] at he;cases he;exact hwo
  ·exact h.wo i x W (hold i x hij hi) (h.emb hle (hold i x hij hi) he)
 apart:=fun i x W i' y W2 hi he hi' he' hne=>by
  by_cases hij:i=j
  ·subst hij;rw [hej] at he;cases he;rw [hj] at hi;cases hi;have hg:=hold i' y (Ne.symm hne) hi';exact fun b o h1 h2=>hap i' y W2 (Ne.symm hne) hi' (h.emb hle hg he') b o (.inl h2) (.inl h1)
  ·have hg:=hold i x hij hi;by_cases hij':i'=j
   ·subst hij';rw [hej] at he';cases he';rw [hj] at hi';cases hi';exact fun b o h1 h2=>hap i x W hij hi (h.emb hle hg he) b o (.inl h1) (.inl h2)
   ·have hg':=hold i' y hij' hi';exact h.apart i x W i' y W2 hg (h.emb hle hg he) hg' (h.emb hle hg' he') hne
 hid:=fun i x W hi he=>by
  by_cases hij:i=j
  ·subst hij;rw [hj] at hi;cases hi;rw [hej] at he;cases he;rw [er];exact hhid.mono (T:=fun _ _=>False) (fun _ _ y=>y) (fX _ _ _) (b9.refl _ _) hfit (fun _ _ x=>x.elim)
  ·have hg:=hold i x hij hi;have he':=h.emb hle hg he;rw [fW _ _ hij];exact (h.hid i x W hg he').mono hle (fX _ _ _) hup (h.fit i x W hg he') (fun b o hs=>hS b o hs i x W hij hi he')
 dY:=fun i x hi b o hh=>by
  by_cases hij:i=j
  ·subst hij;rw [er] at hh;exact dY b o hh
  ·have hg:=hold i x hij hi;rw [fW _ _ hij] at hh;obtain ⟨W,hW1,_⟩:=h.dom i x hg;obtain ⟨h1,h2,h3⟩:=h.dY i x hg b o hh;have hlt:=df h2;rw [hup.cell _ _ hlt (fun hs=>hS _ _ hs i x W hij hi hW1 (.inr hh)),hup.frz _ _ hlt];exact ⟨h1,h2,h3⟩
 hap:=fun i x i' y W2 hi hi' he' b o hh=>by
  by_cases hij:i=j
  ·subst hij;rw [er] at hh;rw [hj] at hi;cases hi;refine ⟨fun hne=>?_,?_⟩
   ·have hg:=hold i' y (Ne.symm hne) hi';rw [fW _ _ (Ne.symm hne)];exact fun h2=>hap i' y W2 (Ne.symm hne) hi' (h.emb hle hg he') b o (.inr h2) (.inr hh)
   ·by_cases hij':i'=i
    ·subst hij';rw [hj] at hi';cases hi';rw [hej] at he';cases he';exact hsw b o hh
    ·have hg:=hold i' y hij' hi';exact fun h2=>hap i' y W2 hij' hi' (h.emb hle hg he') b o (.inl h2) (.inr hh)
  ·have hg:=hold i x hij hi;rw [fW _ _ hij] at hh;obtain ⟨W,hW1,_⟩:=h.dom i x hg;by_cases hij':i'=j
   ·subst hij';rw [hj] at hi';cases hi';rw [hej] at he';cases he';refine ⟨fun _=>?_,fun h2=>hap i x W hij hi hW1 b o (.inr hh) (.inl h2)⟩;rw [er];exact fun h2=>hap i x W hij hi hW1 b o (.inr hh) (.inr h2)
   ·have hg':=hold i' y hij' hi';rw [fW _ _ hij'];exact h.hap i x i' y W2 hg hg' (h.emb hle hg' he') b o hh
 fz:=fun b o u hu=>by
  have hu:F b o=some u:=hu;rw [hup.cell b o (h.n5 hu) (fun hs=>hSF b o u hs hu)];exact h.fz b o u hu
 dJ:=fun b o u hu ho=>by
  have hu:F b o=some u:=hu;obtain ⟨i,x,W,hi,he,hw⟩:=ho;by_cases hij:i=j
  ·subst hij;rw [hej] at he;cases he;rw [er] at hw;rw [hj] at hi;cases hi;exact hfz b o u hu hw
  ·have hg:=hold i x hij hi;rw [fW _ _ hij] at hw;exact h.dJ b o u hu ⟨i,x,W,hg,h.emb hle hg he,hw⟩
theorem Rel.put {C e F g w} (h:Rel C e F g w) {x':O} 
  (hup:b9 S w w') (hng:∀ b,b < C.ng->∀ o,¬ S b o) (hj:g' j=some x') (hej:e' j=some W') (hle:Emb.le e e')
  (hold:∀ i x,i≠j->g' i=some x->g i=some x)
  (hS:∀ b o,S b o->∀ i x W,i≠j->g' i=some x->e i=some W->¬ (InR x W b o\/F.H i b o)) (hSF:∀ b o u,S b o->F b o=some u->False)
  (hW:C.ng<=W'.b) (hfit:∀ r k c,x'.cell r k=some c->k < W'.wd/\r * W'.wd+k < W'.cap)
  (hcells:∀ r k c,x'.cell r k=some c->(x'.dU=false\/c.dW=false)->∃ u,w'.cell? ⟨W'.b,W'.base+r * W'.wd+k,none⟩=some u/\cj e' F c u)
  (hown:∀ k,k < W'.cap->(w'.cell? ⟨W'.b,W'.base+k,none⟩).isSome=true/\w'.frozen? ⟨W'.b,W'.base+k,none⟩=false)
  (hwd:∀ v rows,x'= .da v rows->v=W'.wd/\rows.length=W'.n/\∀ row∈rows,row.length=v) (hwv:∀ v rows,x'= .va v rows->v=W'.wd/\rows.length=W'.n/\∀ row∈rows,row.length=v)
  (hwo:∀ v rows,x'= .oa v rows->v=W'.wd/\rows.length=W'.n/\∀ row∈rows,row.length=v)
  (hap:∀ i x W,i≠j->g' i=some x->e i=some W->∀ b o,(InR x W b o\/F.H i b o)->¬ (InR x' W' b o\/S' b o))
  (hfz:∀ b o u,F b o=some u->¬ (InR x' W' b o\/S' b o)) (hpl:x'.plain=true) (hSc:∀ b o,S b o->(w.cell? ⟨b,o,none⟩).isSome=true)
  (hhid:Hid e' F w' S' x' W') (dY:∀ b o,S' b o->C.ng<=b/\(w'.cell? ⟨b,o,none⟩).isSome=true/\w'.frozen? ⟨b,o,none⟩=false) (hsw:∀ b o,S' b o->¬ InR x' W' b o):Rel C e' (F.ke j S') g' w' :=
 h.CR hup hng hj hej hle hold hS hSF hW hfit hcells (fun _=>hown) (fun b o hs i es W hij hi he=>by
  obtain ⟨u,hu⟩:=bX.1 (hSc b o hs);exact h.uI hu (hold i _ hij hi) he) (fun es hx=>by rw [hx] at hpl;cases hpl) hwd hwv hwo hap hfz hhid dY hsw
theorem Rel.less {C e F g w} (h:Rel C e F g w) (hg:∀ i x,g' i=some x->g i=some x):Rel C e F g' w where
 np:=h.np
 ng:=h.ng
 dom:=fun i x hi=>h.dom i x (hg i x hi)
 fit:=fun i x W hi=>h.fit i x W (hg i x hi)
 cells:=fun i x W hi=>h.cells i x W (hg i x hi)
 own:=fun i x W hi=>h.own i x W (hg i x hi)
 mp:=fun i es W hi=>h.mp i es W (hg i _ hi)
 wd:=fun i x W hi=>h.wd i x W (hg i x hi)
 wv:=fun i x W hi=>h.wv i x W (hg i x hi)
 wo:=fun i x W hi=>h.wo i x W (hg i x hi)
 apart:=fun i x W i' x' W' hi he hi'=>h.apart i x W i' x' W' (hg i x hi) he (hg i' x' hi')
 hid:=fun i x W hi=>h.hid i x W (hg i x hi)
 dY:=fun i x hi=>h.dY i x (hg i x hi)
 hap:=fun i x i' x' W' hi hi'=>h.hap i x i' x' W' (hg i x hi) (hg i' x' hi')
 fz:=h.fz
 dJ:=fun b o u hu ho=>h.dJ b o u hu (let ⟨i,x,W,hi,r⟩:=ho;⟨i,x,W,hg i x hi,r⟩)
theorem Rel.grow {C e F g w} (h:Rel C e F g w) (hup:b9 (fun _ _=>False) w w'):Rel C e F g w' where
 np:=C.uj w w' (fun b hb=>hup.blk b (eT hb h.ng) (fun _ x=>x)) h.np
 ng:=bG h.ng hup.size
 dom:=h.dom
 fit:=h.fit
 cells:=fun i x W hi he r k c hc hoc=>by
  obtain ⟨u,h1,h2⟩:=h.cells i x W hi he r k c hc hoc;exact ⟨u,by rw [hup.cell _ _ (iE h1) (fun x=>x)];exact h1,h2⟩
 mp:=fun i es W hi he=>by
  obtain ⟨h1,h2,me,ck,hm,hr⟩:=h.mp i es W hi he;exact ⟨h1,h2,me,ck,(hup.blk W.b (n4 hm) (fun _ x=>x)).trans hm,hr⟩
 own:=fun i x W hi he hpl k hk=>by
  obtain ⟨h1,h2⟩:=h.own i x W hi he hpl k hk;rw [hup.cell _ _ (df h1) (fun x=>x),hup.frz _ _ (df h1)];simp_all
 wd:=h.wd
 wv:=h.wv
 wo:=h.wo
 apart:=h.apart
 hid:=fun i x W hi he=>(h.hid i x W hi he).mono (fun _ _ y=>y) (fun _ _ _ y=>y) hup (h.fit i x W hi he) (fun _ _ x=>x.elim)
 dY:=fun i x hi b o hh=>by
  obtain ⟨h1,h2,h3⟩:=h.dY i x hi b o hh;rw [hup.cell _ _ (df h2) (fun x=>x),hup.frz _ _ (df h2)];exact ⟨h1,h2,h3⟩
 hap:=h.hap
 fz:=fun b o u hu=>by rw [hup.cell b o (h.n5 hu) (fun x=>x)];exact h.fz b o u hu
 dJ:=h.dJ
theorem Rel.freeze {C e F g w} (h:Rel C e F g w) (hF:Fz.le F F') (hH:F'.H=F.H) (hg:∀ i x,g' i=some x->g i=some x)
  (hc:∀ b o u,F' b o=some u->w.cell? ⟨b,o,none⟩=some u) (ha:∀ b o u,F' b o=some u->¬ Own e F g' b o):Rel C e F' g' w where
 np:=h.np
 ng:=h.ng
 dom:=fun i x hi=>h.dom i x (hg i x hi)
 fit:=fun i x W hi=>h.fit i x W (hg i x hi)
 cells:=fun i x W hi he r j c hc hoc=>by
  obtain ⟨u,h1,h2⟩:=h.cells i x W (hg i x hi) he r j c hc hoc;exact ⟨u,h1,cj.mono (fun _ _ y=>y) hF h2⟩
 own:=fun i x W hi=>h.own i x W (hg i x hi)
 mp:=fun i es W hi=>h.mp i es W (hg i _ hi)
 wd:=fun i x W hi=>h.wd i x W (hg i x hi)
 wv:=fun i x W hi=>h.wv i x W (hg i x hi)
 wo:=fun i x W hi=>h.wo i x W (hg i x hi)
 apart:=fun i x W i' x' W' hi he hi'=>h.apart i x W i' x' W' (hg i x hi) he (hg i' x' hi')
 hid:=fun i x W hi he=>by
  rw [hH];exact (h.hid i x W (hg i x hi) he).mono (T:=fun _ _=>False) (fun _ _ y=>y) hF (b9.refl _ _) (h.fit i x W (hg i x hi) he) (fun _ _ x=>x.elim)
 dY:=fun i x hi=>by rw [hH];exact h.dY i x (hg i x hi)
 hap:=fun i x i' x' W' hi hi'=>by rw [hH];exact h.hap i x i' x' W' (hg i x hi) (hg i' x' hi')
 fz:=hc
 dJ:=fun b o u hu ho=>ha b o u hu (by obtain ⟨i,x,W,h1,h2,h3⟩:=ho;rw [hH] at h3;exact ⟨i,x,W,h1,h2,h3⟩)
def Res (C:Ctx) (e:Emb) (F:Fz) (g:Sto) (w:World) (nx n:Nat) (v:V) (g':Sto) (x:Value) (w':World):Prop :=
 ∃ e' F',Emb.le e e'/\(∀ i,(i < nx\/nx+n<=i)->e' i=e i)/\Fz.le F F'/\b6 e' F' v x/\Rel C e' F' g' w' /\
  b9 (Own e F g) w w'/\(∀ b o,Own e' F' g' b o->Own e F g b o\/w.heap.size<=b)/\(∀ b o u,F' b o=some u->(∃ u',F b o=some u')\/Own e F g b o\/w.heap.size<=b)
theorem Res.same {C e F g w nx v x} (h:Rel C e F g w) (hv:b6 e F v x):Res C e F g w nx 0 v g x w :=
 ⟨e,F,fun _ _ y=>y,fun _ _=>rfl,fun _ _ _ y=>y,hv,h,b9.refl _ _,fun _ _ y=> .inl y,fun _ _ u y=> .inl ⟨u,y⟩⟩
theorem b9.alloc (w:World) (ob:Obj):b9 (fun _ _=>False) w (w.alloc ob):=b9.iu ((RowKit.Below.refl _ w).alloc (al _) ob)
theorem b9.drew (w:World):b9 (fun _ _=>False) w w.drew:=b9.iu ((RowKit.Below.refl _ w).drew)
theorem rC (w:World) (ob:Obj):(w.alloc ob).heap[w.heap.size]?=some ob:=by
 show (w.heap.push ob)[w.heap.size]?=_;simp
theorem oh (w:World) (cs:Array Value) (t:TypeId) (fz:Nat×Nat) (o:Nat):(w.alloc (.cells cs t fz)).cell? ⟨w.heap.size,o,none⟩=cs[o]?:=by
 simp only [World.cell?,rC];rfl
theorem rH (w:World) (cs:Array Value) (t:TypeId) (o:Nat):(w.alloc (.cells cs t (0,0))).frozen? ⟨w.heap.size,o,none⟩=false:=by
 simp only [World.frozen?,rC];simp
theorem Rel.Hb {C e F g w} (h:Rel C e F g w) (h1:b9 (fun _ _=>False) w w1) {cs:Array Value} {x:O} (hpl:x.plain=true) (he:e nx=none)
  (hb:W.b=w1.heap.size) (hb0:W.base=0) (hcap:W.cap<=cs.size)
  (hfit:∀ r k c,x.cell r k=some c->k < W.wd/\r * W.wd+k < W.cap)
  (hcells:∀ r k c,x.cell r k=some c->(x.dU=false\/c.dW=false)->∃ u,cs[r * W.wd+k]?=some u/\cj e F c u)
  (hwd:∀ v rows,x= .da v rows->v=W.wd/\rows.length=W.n/\∀ row∈rows,row.length=v) (hwv:∀ v rows,x= .va v rows->v=W.wd/\rows.length=W.n/\∀ row∈rows,row.length=v)
  (hwo:∀ v rows,x= .oa v rows->v=W.wd/\rows.length=W.n/\∀ row∈rows,row.length=v)
  {v:V} {y:Value} (hv:b6 (fun i=>if i=nx then some W else e i) F v y)
  (hhid:Hid e F (w1.alloc (.cells cs t (0,0))) S' x W) (hS2:∀ b o,S' b o->False) :
  Res C e F g w nx 1 v (upd g nx (some x)) y (w1.alloc (.cells cs t (0,0))):=by
 have hle:Emb.le e (fun i=>if i=nx then some W else e i):=fun i W' hi=>by
  by_cases h:i=nx
  ·subst h;rw [he] at hi;cases hi
  ·simp [h,hi]
 have hup:b9 (fun _ _=>False) w (w1.alloc (.cells cs t (0,0))):=h1.trans (b9.alloc w1 _) (fun _ _ _ x=>x);refine ⟨fun i=>if i=nx then some W else e i,F.ke nx S',hle,fun i hi=>?_,fX _ _ _,hv.mono (fun _ _ y=>y) (fX _ _ _),?_,hup.mono (fun _ _ x=>x.elim),?_,fun _ _ u y=> .inl ⟨u,y⟩⟩
 ·have:i≠nx:=by omega
  simp [this]
 ·have hnew:∀ b o,InR x W b o->b=w1.heap.size:=fun b o hh=>by have:=hh.2.1;omega
  refine h.put (j:=nx) (x':=x) (W':=W) hup (fun _ _ _ x=>x) (by simp [upd]) (by simp) hle (fun i x hne hi=>by simpa [upd,hne] using hi) (fun _ _ hs=>hs.elim) (fun _ _ _ hs=>hs.elim) ?_ hfit ?_ ?_ hwd hwv hwo ?_ ?_ hpl (fun _ _ hs=>hs.elim) ?_ ?_ ?_
  ·rw [hb];exact bG h.ng h1.size
  ·intro r k c hc hoc;obtain ⟨u,hu1,hu2⟩:=hcells r k c hc hoc;refine ⟨u,?_,cj.mono hle (fun _ _ _ y=>y) hu2⟩;rw [hb,hb0,oh,aW];exact hu1
  ·intro k hk;rw [hb,hb0,oh,rH,aW];exact ⟨by rw [dL (by omega)];rfl,rfl⟩
  ·intro i x' W' hne hi he' b o hw hw';rcases hw' with hw' | hw'
   ·have:=(h.jL (b:=b) (o:=o) ⟨i,x',W',by simpa [upd,hne] using hi,he',hw⟩)
    have:=h1.size;have:=hnew b o hw';omega
   ·exact hS2 b o hw'
  ·intro b o u hu hw;rcases hw with hw | hw
   ·have h3:=h.n5 hu;have h4:=hnew b o hw;have:=h1.size;omega
   ·exact hS2 b o hw
  ·exact hhid.mono (T:=fun _ _=>False) hle (fun _ _ _ y=>y) (b9.refl _ _) hfit (fun _ _ x=>x.elim)
  ·exact fun b o hh=>(hS2 b o hh).elim
  ·exact fun b o hh=>(hS2 b o hh).elim
 ·intro b o ho;obtain ⟨i,x',W',hi,he',hw⟩:=ho;by_cases hne:i=nx
  ·subst hne;simp only [bo] at he';cases he';simp only [upd,bo,aw] at hi;subst hi;rw [er] at hw;rcases hw with hw | hw
   ·right;have:=hw.2.1;have:=h1.size;omega
   ·exact (hS2 b o hw).elim
  ·left;simp only [hne,aV] at he';rw [fW _ _ hne] at hw;exact ⟨i,x',W',by simpa [upd,hne] using hi,he',hw⟩
theorem Rel.new {C e F g w} (h:Rel C e F g w) (h1:b9 (fun _ _=>False) w w1) {cs:Array Value} {x:O} (hpl:x.plain=true) (he:e nx=none)
  (hb:W.b=w1.heap.size) (hb0:W.base=0) (hcap:W.cap<=cs.size)
  (hfit:∀ r k c,x.cell r k=some c->k < W.wd/\r * W.wd+k < W.cap)
  (hcells:∀ r k c,x.cell r k=some c->∃ u,cs[r * W.wd+k]?=some u/\cj e F c u)
  (hwd:∀ v rows,x= .da v rows->v=W.wd/\rows.length=W.n/\∀ row∈rows,row.length=v) (hwv:∀ v rows,x= .va v rows->v=W.wd/\rows.length=W.n/\∀ row∈rows,row.length=v)
  (hwo:∀ v rows,x= .oa v rows->v=W.wd/\rows.length=W.n/\∀ row∈rows,row.length=v)
  {v:V} {y:Value} (hv:b6 (fun i=>if i=nx then some W else e i) F v y) :
  Res C e F g w nx 1 v (upd g nx (some x)) y (w1.alloc (.cells cs t (0,0))) :=
 h.Hb (S':=fun _ _=>False) h1 hpl he hb hb0 hcap hfit (fun r k c hc _=>hcells r k c hc) hwd hwv hwo hv (Hid.none (fP hpl) fun r j dp wd rows hc=>by
  obtain ⟨u,_,hu⟩:=hcells r j _ hc;exact hu) (fun _ _ x=>x)
def FR (e:Emb) (F:Fz) (fr:Fr) (a:Act):Prop:=∀ t,b6 e F (cP fr t) (a.tmps.getD t undef)
def Dv:Value->V->Bool
 | .int k n,.d (.int k' n')=>decide (k=k')&&decide (n=n')
 | .bool true,.tt=>true
 | .bool false,.ff=>true
 | .string s,.d (.str l)=>decide (s.data.toList=l)
 | .slice none 0 0,.d .nil=>true
 | .pointer none,.iM=>true
 | .map none,.nmp=>true
 | .func (.func f) u v,.fn f' []=>decide (f=f')&&decide (u.size=0)&&decide (v.size=0)
 | _,_=>false
def xf:List Value->List V->Bool
 | [],[]=>true
 | v::l,x::m=>Dv v x&&xf l m
 | _,_=>false
def cEq:Value->V->Bool
 | .agg cs,.agg l=>xf cs.toList l
 | _,.un=>true
 | v,x=>Dv v x
def okA:Operand->A->Bool
 | .tmp t,.t t'=>decide (t=t')
 | .const v,.k x=>cEq v x
 | .func f,.k (.fn f' [])=>decide (f=f')
 | _,_=>false
theorem se {x:V} (h:Dv v x=true) (e:Emb) (F:Fz):cj e F x v:=by
 unfold Dv at h;split at h
 ·simp only [ag,ak] at h;obtain ⟨rfl,rfl⟩:=h;exact bj.int _ _
 ·rfl
 ·rfl
 ·have:=ai h;subst this;exact bj.str _
 ·exact bj.nil _
 ·rfl
 ·rfl
 ·simp only [ag,ak] at h;obtain ⟨⟨rfl,h1⟩,h2⟩:=h;exact ⟨[],by rw [Array.eq_empty_of_size_eq_zero h1,Array.eq_empty_of_size_eq_zero h2],.nil⟩
 ·cases h
theorem gQ:∀ {l:List Value} {m:List V},xf l m=true->∀ (e:Emb) (F:Fz),cK (cj e F) m l
 | [],[],_,_,_=> .nil
 | v::l,x::m,h,e,F=>by
  simp only [xf,ag] at h;exact .cons (se h.1 e F) (gQ h.2 e F)
 | [],_::_,h,_,_=>by cases h
 | _::_,[],h,_,_=>by cases h
theorem Ag {x:V} (h:cEq v x=true) (e:Emb) (F:Fz):b6 e F x v:=by
 unfold cEq at h;split at h
 ·exact ⟨_,by simp,gQ h e F⟩
 ·trivial
 ·exact b6.lF (fu.lR (se h e F))
theorem aO {y:A} (h:okA x y=true) (hf:FR e F fr a):b6 e F (y.ev fr) (a.eval x):=by
 unfold okA at h;split at h
 ·have:=ai h;subst this;exact hf _
 ·exact Ag h e F
 ·have:=ai h;subst this;exact ⟨[],rfl,.nil⟩
 ·cases h
theorem bj.et {k:IntKind} {n:Int} (h:bj F (.int k n) v):v= .int k n:=by cases h;rfl
theorem bj.gz {b:Bool} (h:bj F (.bool b) v):v= .bool b:=by cases h;rfl
theorem bj.j1 {l:List UInt8} (h:bj F (.str l) v):∃ s:ByteArray,v= .string s/\s.data.toList=l:=by cases h;exact ⟨_,rfl,rfl⟩
theorem bj.iQ (h:bj F .nil v):∃ a,v= .slice a 0 0:=by cases h;exact ⟨_,rfl⟩
theorem bj.ql {w:Nat} (h:bj F (.imm w rows) v) :
  ∃ a cap,v= .slice a rows.length cap/\rows.length<=cap/\(∀ row∈rows,row.length=w)/\(rows=[]\/∃ b o,a=some ⟨b,o,none⟩/\∀ i j d,(rows[i]?.bind (·[j]?))=some d->∃ u,F b (o+i * w+j)=some u/\bj F d u):=by
 cases h with
 | wG w a cap=>exact ⟨a,cap,rfl,Nat.zero_le _,by simp,.inl rfl⟩
 | imm w rows b o cap f hc h0 h1 h2=>exact ⟨_,cap,rfl,hc,h0,.inr ⟨b,o,rfl,fun i j d hd=>⟨_,h1 i j d hd,h2 i j d hd⟩⟩⟩
theorem b6.BS {x:D} (h:b6 e F (.d x) v):bj F x v:=h
def Good (C:Ctx) (o:Oper) (fr:Fr) (nx:Nat) (eff:Eff):Prop :=
 ∀ (e:Emb) (F:Fz) (g:Sto) (w:World) (a:Act),FR e F fr a->Rel C e F g w->(∀ p∈eff.rd,g p.1=some p.2)->(∀ i,nx<=i->i < nx+eff.n->e i=none) ->
  ∀ (next:Act->World->Prop) (Q:Exit->Act->World->Prop),(∀ x w',Res C e F g w nx eff.n eff.v (cH g eff.pt) x w'->next (a.put o.dst x) w')->o.wp C.P a w next Q
theorem Good.fl {o:Oper} 
  (h:∀ (e:Emb) (F:Fz) (g:Sto) (w:World) (a:Act),FR e F fr a->Rel C e F g w->(∀ p∈eff.rd,g p.1=some p.2)->(∀ i,nx<=i->i < nx+eff.n->e i=none) ->
   ∃ x w',(execOp a.eval o).run C.P w= .ok (.value x) w'/\Res C e F g w nx eff.n eff.v (cH g eff.pt) x w'):Good C o fr nx eff:=by
 intro e F g w a hf hr hrd hn next Q hk;obtain ⟨x,w',h1,h2⟩:=h e F g w a hf hr hrd hn;unfold Oper.wp;rw [h1];exact hk x w' h2
theorem Good.cz {o:Oper} {v:V} 
  (h:∀ (e:Emb) (F:Fz) (g:Sto) (w:World) (a:Act),FR e F fr a->Rel C e F g w->(∀ p∈rd,g p.1=some p.2) ->
   ∃ x,(execOp a.eval o).run C.P w= .ok (.value x) w/\b6 e F v x):Good C o fr nx {v:=v,rd:=rd} :=
 Good.fl fun e F g w a hf hr hrd hn=>let ⟨x,h1,h2⟩:=h e F g w a hf hr hrd;⟨x,w,h1,Res.same hr h2⟩
section
variable {C:Ctx} {o:Oper} {fr:Fr} {σ:Ob} {nx:Nat} {K:Eff->Prop}
theorem AK {y:A} (ho:o.op= .move x\/o.op= .assign x) (h:okA x y=true) (hk:wpR C σ nx K (sem (.mv y) fr σ nx)):∃ eff,K eff/\Good C o fr nx eff :=
 ⟨_,hk,Good.cz fun e F g w a hf hr _=>⟨a.eval x,by rcases ho with ho | ho<;>simp [execOp,ho],aO h hf⟩⟩
theorem AI {c:Operand} {c':A} (ho:o.op= .pick c x y) (hc:okA c c'=true) (hx:okA x x'=true) (hy:okA y y'=true) (hk:wpR C σ nx K (sem (.pick c' x' y') fr σ nx)):∃ eff,K eff/\Good C o fr nx eff:=by
 have key:∀ (b:Bool) (v:V),v=(if b then x'.ev fr else y'.ev fr)->(∀ (e:Emb) (F:Fz) (a:Act),FR e F fr a->a.eval c= .bool b)->Good C o fr nx {v:=v}:=by
  intro b v hv hb;refine Good.cz fun e F g w a hf hr _=>⟨if b then a.eval x else a.eval y,?_,?_⟩
  ·cases b<;>simp [execOp,ho,hb e F a hf,asBool,ax]
  ·subst hv;cases b
   ·exact aO hy hf
   ·exact aO hx hf
 simp only [sem] at hk;split at hk
 ·rename_i hv;exact ⟨_,hk,key true _ rfl fun e F a hf=>by have:=aO hc hf;rw [hv] at this;exact this⟩
 ·rename_i hv;exact ⟨_,hk,key false _ rfl fun e F a hf=>by have:=aO hc hf;rw [hv] at this;exact this⟩
 ·rename_i b hv;have hb:∀ (e:Emb) (F:Fz) (a:Act),FR e F fr a->a.eval c= .bool b:=fun e F a hf=>by
   have:=aO hc hf;rw [hv] at this;exact bj.gz this
  cases b with
  | true=>exact ⟨_,hk.1 rfl,key true _ rfl hb⟩
  | false=>exact ⟨_,hk.2 rfl,key false _ rfl hb⟩
 ·exact hk.elim
theorem AJ {y:A} (ho:o.op= .nilCheck x) (h:okA x y=true) (hk:wpR C σ nx K (sem (.zC y) fr σ nx)):∃ eff,K eff/\Good C o fr nx eff:=by
 simp only [sem] at hk;split at hk
 ·rename_i i r p hv;refine ⟨_,hk,Good.cz fun e F g w a hf hr _=>?_⟩;have:=aO h hf;rw [hv] at this;obtain ⟨W,h1,h2⟩:=this;exact ⟨a.eval x,by simp [execOp,ho,h2],⟨W,h1,h2⟩⟩
 ·rename_i row p hv;refine ⟨_,hk,Good.cz fun e F g w a hf hr _=>?_⟩;have:=aO h hf;rw [hv] at this;obtain ⟨b,q,h2,h3⟩:=this;exact ⟨a.eval x,by simp [execOp,ho,h2],⟨b,q,h2,h3⟩⟩
 ·rename_i f caps hv;refine ⟨_,hk,Good.cz fun e F g w a hf hr _=>?_⟩;have:=aO h hf;rw [hv] at this;obtain ⟨us,h2,h3⟩:=this;exact ⟨a.eval x,by simp [execOp,ho,h2],⟨us,h2,h3⟩⟩
 ·exact hk.elim
theorem CI {y:A} (ho:o.op= .extract x i) (h:okA x y=true) (hk:wpR C σ nx K (sem (.ext y i) fr σ nx)):∃ eff,K eff/\Good C o fr nx eff:=by
 simp only [sem] at hk;split at hk
 ·rename_i vs hv;split at hk
  ·rename_i v hi;refine ⟨_,hk,Good.cz fun e F g w a hf hr _=>?_⟩;have:=aO h hf;rw [hv] at this;obtain ⟨us,h2,h3⟩:=this;have hget:∀ (vs:List V) (us:List Value),cK (fu e F) vs us->∀ (i:Nat) (v:V),vs[i]?=some v->∃ u,us[i]?=some u/\fu e F v u:=by
    intro vs us h3;induction h3 with
    | nil=>intro i v hi;simp at hi
    | cons hh _ ih =>
     intro i v hi;cases i with
     | zero=>simp at hi;subst hi;exact ⟨_,rfl,hh⟩
     | succ i=>simpa using ih i v (by simpa using hi)
   obtain ⟨u,h4,h5⟩:=hget vs us h3 i v hi;exact ⟨u,by simp [execOp,ho,h2,Instr.extract,ax,h4],b6.lF h5⟩
  ·exact hk.elim
 ·exact hk.elim
theorem Cv {y:A} (ho:o.op= .unOp .not t x) (h:okA x y=true) (hk:wpR C σ nx K (sem (.not y) fr σ nx)):∃ eff,K eff/\Good C o fr nx eff:=by
 simp only [sem] at hk;split at hk
 ·rename_i b hv;refine ⟨_,hk,Good.cz fun e F g w a hf hr _=>?_⟩;have:=aO h hf;rw [hv] at this;have hb:a.eval x= .bool b:=bj.gz this;exact ⟨.bool (!b),by simp [execOp,ho,hb,Op.unary,ax],bj.bool _⟩
 ·rename_i hv;refine ⟨_,hk,Good.cz fun e F g w a hf hr _=>?_⟩;have hb:=aO h hf;rw [hv] at hb
  change a.eval x= .bool true at hb
  exact ⟨.bool false,by simp [execOp,ho,hb,Op.unary,ax],rfl⟩
 ·rename_i hv;refine ⟨_,hk,Good.cz fun e F g w a hf hr _=>?_⟩;have hb:=aO h hf;rw [hv] at hb
  change a.eval x= .bool false at hb
  exact ⟨.bool true,by simp [execOp,ho,hb,Op.unary,ax],rfl⟩
 ·exact hk.elim
theorem Cx {y:A} (ho:o.op= .unOp .neg t x) (h:okA x y=true) (hk:wpR C σ nx K (sem (.neg y) fr σ nx)):∃ eff,K eff/\Good C o fr nx eff:=by
 simp only [sem] at hk;split at hk
 ·rename_i k n hv;refine ⟨_,hk,Good.cz fun e F g w a hf hr _=>?_⟩;have:=aO h hf;rw [hv] at this;have hb:a.eval x= .int k n:=bj.et this;exact ⟨.int k (k.wrap (0 - n)),by simp [execOp,ho,hb,Op.unary,Op.intArith,ax],bj.int _ _⟩
 ·exact hk.elim
theorem zq {y:A} {k:IntKind} (ho:o.op= .convert s t x) (hs:∃ k',C.P.underlying s=some (.int k')) (ht:C.P.underlying t=some (.int k)) (h:okA x y=true) (hk:wpR C σ nx K (sem (.sV k y) fr σ nx)):∃ eff,K eff/\Good C o fr nx eff:=by
 simp only [sem] at hk;split at hk
 ·rename_i k' n hv;refine ⟨_,hk,Good.cz fun e F g w a hf hr _=>?_⟩;have:=aO h hf;rw [hv] at this;have hb:a.eval x= .int k' n:=bj.et this;obtain ⟨k2,hs⟩:=hs;exact ⟨.int k (k.wrap n),by simp [execOp,ho,hb,convert,run_underlying hs,run_underlying ht,Conv.intToInt,ax],bj.int _ _⟩
 ·exact hk.elim
theorem l6 (b:BinOp) (t:TypeId) (x y:Operand) (w:World) (u v:Value) (hh:(∀ cs,u≠ .agg cs)/\u≠ .nilIface):(eqGuard b t x y u v).run C.P w= .ok () w:=by
 cases u with
 | agg cs=>exact absurd rfl (hh.1 cs)
 | nilIface=>exact absurd rfl hh.2
 | _=>cases b<;>simp [eqGuard]
theorem bj.plain {x:D} (h:bj F x v):(∀ cs,v≠ .agg cs)/\v≠ .nilIface:=by
 cases h<;>exact ⟨by intros;simp,by simp⟩
theorem jB (s:ByteArray):s.toList=s.data.toList:=ByteArray.toList_eq s
theorem qq {b:BinOp} (ho:o.op= .binOp b t x y t') (hx:okA x x'=true) (hy:okA y y'=true) {u v:D} (hu:x'.ev fr= .d u) (hv:y'.ev fr= .d v)
  (hr:∀ (w:World) (F:Fz) (xu xv:Value),bj F u xu->bj F v xv->∃ z,(binOp b t xu xv).run C.P w= .ok z w/\bj F r z):Good C o fr nx {v:= .d r}:=by
 refine Good.cz fun e F g w a hf hrel _=>?_
 have h1:=aO hx hf;have h2:=aO hy hf;rw [hu] at h1;rw [hv] at h2;obtain ⟨z,h3,h4⟩:=hr w F _ _ (b6.BS h1) (b6.BS h2);exact ⟨z,by simp [execOp,ho,ax,l6 _ _ _ _ w _ _ (bj.plain (b6.BS h1)),h3],h4⟩
theorem B4 {b:BinOp} {k:IntKind} {p q:Int} (t:TypeId) (h:E9 b k p q=some r) (w:World) (F:Fz):∃ z,(binOp b t (.int k p) (.int k q)).run C.P w= .ok z w/\bj F r z:=by
 unfold E9 at h;split at h<;>first | (cases h;done) | (cases h;refine ⟨_,?_,by constructor⟩;simp [binOp,Op.intArith,Op.intCmp];try rfl)
theorem CL {b:BinOp} (ho:o.op= .binOp b t x y t') (hx:okA x x'=true) (hy:okA y y'=true) (hk:wpR C σ nx K (sem (.bin b x' y') fr σ nx)):∃ eff,K eff/\Good C o fr nx eff:=by
 simp only [sem] at hk;split at hk
 ·rename_i u v hu hv;split at hk
  ·rename_i s t2;refine ⟨_,hk.2,qq ho hx hy hu hv ?_⟩;intro w F xu xv h1 h2;obtain ⟨s1,rfl,rfl⟩:=bj.j1 h1;obtain ⟨s2,rfl,rfl⟩:=bj.j1 h2;have hn:=hk.1;refine ⟨.string (s1++s2),?_,?_⟩
   ·have:¬ ((IntKind.i64.max:Int) < ((s1.size+s2.size:Nat):Int)):=by
     have e1:s1.size=s1.data.toList.length:=by rw [Array.length_toList];rfl
     have e2:s2.size=s2.data.toList.length:=by rw [Array.length_toList];rfl
     have:IntKind.i64.max=9223372036854775807:=rfl;omega
    have e1:binOp .add t (.string s1) (.string s2)=if ((s1.size+s2.size:Nat):Int) > IntKind.i64.max then unsupported (.resourceLimit "string concatenation: a sum of the lengths that is no int") else pure (.string (s1++s2)):=rfl
    rw [e1,ab this];rfl
   ·have:s1.data.toList++s2.data.toList=(s1++s2).data.toList:=by simp
    rw [this];exact bj.str _
  ·rename_i k p k' q;obtain ⟨⟨rfl,hq⟩,hk⟩:=hk;refine ⟨_,hk,qq ho hx hy hu hv ?_⟩;intro w F xu xv h1 h2;rw [bj.et h1,bj.et h2];have e1:binOp .quo t (.int k p) (.int k q)=if k≠k then stuck "BinOp: operands of different kinds" else Op.intDiv .quo k p q:=rfl
   exact ⟨_,by rw [e1,ab (by simp),Op.intDiv,ab hq];rfl,bj.int _ _⟩
  ·rename_i k p k' q;obtain ⟨⟨rfl,hq⟩,hk⟩:=hk;refine ⟨_,hk,qq ho hx hy hu hv ?_⟩;intro w F xu xv h1 h2;rw [bj.et h1,bj.et h2];have e1:binOp .rem t (.int k p) (.int k q)=if k≠k then stuck "BinOp: operands of different kinds" else Op.intDiv .rem k p q:=rfl
   exact ⟨_,by rw [e1,ab (by simp),Op.intDiv,ab hq];rfl,bj.int _ _⟩
  ·split at hk
   ·rename_i z hz;refine ⟨_,hk,qq ho hx hy hu hv ?_⟩;intro w F xu xv h1 h2;cases h1 with
    | int k p =>
     cases h2 with
     | int k' q =>
      simp only [Fa] at hz;by_cases hkk:k=k'
      ·subst hkk;simp only [decide_true,cond_true] at hz;exact B4 t hz w F
      ·simp only [hkk,decide_false,cond_false] at hz;cases hz
     | _=>cases hz
    | str s1 =>
     cases h2 with
     | str s2 =>
      simp only [Fa] at hz;have e1:(s1.toList == s2.toList)=decide (s1.data.toList=s2.data.toList):=by rw [jB,jB,Bool.eq_iff_iff];simp
      split at hz
      ·cases hz;exact ⟨.bool (s1.toList == s2.toList),rfl,by rw [e1];exact bj.bool _⟩
      ·cases hz;exact ⟨.bool (!(s1.toList == s2.toList)),rfl,by rw [e1];exact bj.bool _⟩
      ·cases hz;exact ⟨.bool (Op.bytesLess s1.toList s2.toList),rfl,by rw [jB,jB];exact bj.bool _⟩
      ·cases hz
     | _=>cases hz
    | _=>cases h2<;>cases hz
   ·exact hk.elim
 ·exact hk.elim
end
theorem jD {x:V} {d:D} (h:b6 e F x v) (hx:x.asD=some d):bj F d v:=by
 cases x with
 | d y=>cases hx;exact h
 | tt=>cases hx;cases (show v=_ from h);exact bj.bool _
 | ff=>cases hx;cases (show v=_ from h);exact bj.bool _
 | _=>cases hx
theorem kP {α:Type}:∀ (xs:List α) (o n:Nat) (ys:List α),takeN xs o n=some ys->ys=(xs.drop o).take n/\ys.length=n/\o+n<=xs.length+(if n=0 then o else 0)
 | xs,0,0,ys,h=>by simp only [takeN] at h;cases h;simp
 | x::xs,0,n+1,ys,h=>by
  simp only [takeN,ay] at h;obtain ⟨zs,h1,rfl⟩:=h;obtain ⟨h2,h3,h4⟩:=kP xs 0 n zs h1;simp_all
 | x::xs,o+1,n,ys,h=>by
  simp only [takeN] at h;obtain ⟨h2,h3,h4⟩:=kP xs o n ys h
  grind
 | [],0,n+1,ys,h=>by cases h
 | [],o+1,n,ys,h=>by cases n<;>cases h
theorem iJ {α:Type}:∀ (xs:List α) (o n:Nat) (ys:List α),takeN xs o n=some ys->∀ j y,ys[j]?=some y->xs[o+j]?=some y
 | xs,0,0,ys,h,j,y,hj=>by simp only [takeN] at h;cases h;simp at hj
 | x::xs,0,n+1,ys,h,j,y,hj=>by
  simp only [takeN,ay] at h;obtain ⟨zs,h1,rfl⟩:=h;cases j with
  | zero=>simpa using hj
  | succ j=>simpa [aW] using iJ xs 0 n zs h1 j y (by simpa using hj)
 | x::xs,o+1,n,ys,h,j,y,hj=>by
  simp only [takeN] at h;have:=iJ xs o n ys h j y hj
  rwa [show o+1+j=(o+j)+1 by omega,List.getElem?_cons_succ]
 | [],0,n+1,ys,h,j,y,hj=>by cases h
 | [],o+1,n,ys,h,j,y,hj=>by cases n<;>cases h
theorem kq {xs:List α} {o n:Nat} {ys:List α} (h:takeN xs o n=some ys):ys.length=n:=(kP xs o n ys h).2.1
theorem cK.get {R:α->β->Prop} {l:List α} {m:List β} (h:cK R l m):∀ (i:Nat) (a:α),l[i]?=some a->∃ b,m[i]?=some b/\R a b:=by
 induction h with
 | nil=>intro i a hi;simp at hi
 | cons hh _ ih =>
  grind
theorem cK.len {R:α->β->Prop} {l:List α} {m:List β} (h:cK R l m):l.length=m.length:=by
 induction h with
 | nil=>rfl
 | cons _ _ ih=>simp [ih]
theorem cK.uA {α β:Type} {R:α->β->Prop}:∀ {l:List α} {m:List β},l.length=m.length->(∀ (i:Nat) (a:α),l[i]?=some a->∃ b,m[i]?=some b/\R a b)->cK R l m
 | [],[],_,_=> .nil
 | a::l,b::m,h,hg=>by
  obtain ⟨b',h1,h2⟩:=hg 0 a rfl;simp at h1;subst h1;exact .cons h2 (cK.uA (by simpa using h) fun i x hx=>by simpa using hg (i+1) x (by simpa using hx))
 | [],_::_,h,_=>by simp at h
 | _::_,[],h,_=>by simp at h
def okN (P:Program) (t:TypeId):Option Nat->Bool
 | none=>match P.underlying t with
  | some (.struct _) | some (.array _ _) | none=>false
  | some _=>true
 | some n=>match P.underlying t with
  | some (.struct _)=>decide ((P.info? t).map (·.size)=some n)
  | _=>false
theorem nn (h:okN P t none=true) (w:World):(isAgg t).run P w= .ok false w:=by
 unfold okN at h;cases hu:P.underlying t with
 | none=>simp [hu] at h
 | some d =>
  unfold isAgg;rw [ax,run_underlying hu];cases d<;>simp_all
theorem rz {n:Nat} (h:okN P t (some n)=true) (w:World):(isAgg t).run P w= .ok true w/\(sizeOf t).run P w= .ok n w:=by
 unfold okN at h;cases hu:P.underlying t with
 | none=>simp [hu] at h
 | some d =>
  cases d with
  | struct fs =>
   simp only [hu,ak] at h;constructor
   ·unfold isAgg;rw [ax,run_underlying hu];rfl
   ·cases hi:P.info? t with
    | none=>simp [hi] at h
    | some i=>simp [hi] at h;simp [sizeOf,typeInfo,hi,h]
  | _=>simp [hu] at h
theorem kt {n:Nat} (h:(P.info? t).map (·.size)=some n) (w:World):(sizeOf t).run P w= .ok n w:=by
 cases hi:P.info? t with
 | none=>simp [hi] at h
 | some i=>simp [hi] at h;simp [sizeOf,typeInfo,hi,h]
section
variable {C:Ctx} {o:Oper} {fr:Fr} {σ:Ob} {nx:Nat} {K:Eff->Prop}
theorem Dr (hu:P.underlying t=some .bool) (p q:Bool) (w:World) (d:Nat):(Op.equalIn (d+1) t (.bool p) (.bool q)).run P w= .ok (p == q) w:=by
 simp only [Op.equalIn,ax,run_underlying hu,aF,bq]
theorem EP (hu:P.underlying t=some (.pointer el)) (p:Option Addr) (w:World) (d:Nat):(Op.equalIn (d+1) t (.pointer p) (.pointer none)).run P w= .ok p.isNone w:=by
 cases p<;>simp only [Op.equalIn,ax,run_underlying hu,aF,bq,Option.isNone]
theorem CM (ho:o.op= .binOp (if ne then .neq else .eql) t x y t') (hu:C.P.underlying t=some .bool) (hx:okA x x'=true) (hy:okA y y'=true)
  (hk:wpR C σ nx K (sem (.beq ne x' y') fr σ nx)):∃ eff,K eff/\Good C o fr nx eff:=by
 simp only [sem] at hk;split at hk
 ·rename_i p q hp hq;refine ⟨_,hk,Good.cz fun e F g w a hf hr _=>?_⟩;have h1:=bj.gz (jD (aO hx hf) hp);have h2:=bj.gz (jD (aO hy hf) hq);have e2:(Op.equal t (.bool p) (.bool q)).run C.P w= .ok (p == q) w:=Dr hu p q w 9999;cases ne with
  | false =>
   have e1:binOp .eql t (.bool p) (.bool q)=(do pure (.bool (<- Op.equal t (.bool p) (.bool q)))):=rfl;refine ⟨.bool (p == q),?_,?_⟩
   ·simp only [bB,aV] at ho;simp only [execOp,ho,ax,h1,h2,l6 .eql t x y w (.bool p) _ ⟨by intros;simp,by simp⟩,aF,e1,e2,bq]
   ·simp only [Bool.false_xor];exact bj.bool _
  | true =>
   have e1:binOp .neq t (.bool p) (.bool q)=(do pure (.bool (!(<- Op.equal t (.bool p) (.bool q))))):=rfl;refine ⟨.bool (!(p == q)),?_,?_⟩
   ·simp only [bo] at ho;simp only [execOp,ho,ax,h1,h2,l6 .neq t x y w (.bool p) _ ⟨by intros;simp,by simp⟩,aF,e1,e2,bq]
   ·simp only [Bool.true_xor];exact bj.bool _
 ·exact hk.elim
theorem Cu (ho:o.op= .binOp (if ne then .neq else .eql) t x y t') (hu:∃ el,C.P.underlying t=some (.pointer el)) (hx:okA x x'=true) (hy:okA y y'=true)
  (hk:wpR C σ nx K (sem (.peq ne x' y') fr σ nx)):∃ eff,K eff/\Good C o fr nx eff:=by
 obtain ⟨el,hu⟩:=hu;have key:∀ (p:Option Addr),(∀ (e:Emb) (F:Fz) (a:Act),FR e F fr a->(∃ p',a.eval x= .pointer p'/\p'.isNone=p.isNone)/\a.eval y= .pointer none) ->
   ∀ v,v=(if (ne ^^ p.isNone) then V.tt else V.ff)->Good C o fr nx {v:=v}:=by
  intro p hh v hv;subst hv;refine Good.cz fun e F g w a hf hr _=>?_
  obtain ⟨⟨p',h1,hp⟩,h2⟩:=hh e F a hf;have e2:(Op.equal t (.pointer p') (.pointer none)).run C.P w= .ok p'.isNone w:=EP hu p' w 9999;refine ⟨.bool (ne ^^ p.isNone),?_,?_⟩
  ·cases ne with
   | false =>
    have e1:binOp .eql t (.pointer p') (.pointer none)=(do pure (.bool (<- Op.equal t (.pointer p') (.pointer none)))):=rfl;simp only [bB,aV] at ho;simp only [execOp,ho,ax,h1,h2,l6 .eql t x y w (.pointer p') _ ⟨by intros;simp,by simp⟩,aF,e1,e2,bq,Bool.false_xor,hp]
   | true =>
    have e1:binOp .neq t (.pointer p') (.pointer none)=(do pure (.bool (!(<- Op.equal t (.pointer p') (.pointer none))))):=rfl;simp only [bo] at ho;simp only [execOp,ho,ax,h1,h2,l6 .neq t x y w (.pointer p') _ ⟨by intros;simp,by simp⟩,aF,e1,e2,bq,Bool.true_xor,hp]
  ·cases (ne ^^ p.isNone)<;>rfl
 simp only [sem] at hk;split at hk
 ·rename_i i r q hp hq;have hh:∀ (e:Emb) (F:Fz) (a:Act),FR e F fr a->(∃ p',a.eval x= .pointer p'/\p'.isNone=(some (default:Addr)).isNone)/\a.eval y= .pointer none:=fun e F a hf=>by
   have h1:=aO hx hf;have h2:=aO hy hf;rw [hp] at h1;rw [hq] at h2;obtain ⟨W,_,h3⟩:=h1;exact ⟨⟨_,h3,rfl⟩,h2⟩
  cases ne with
  | true=>exact ⟨_,hk,key _ hh _ rfl⟩
  | false=>exact ⟨_,hk,key _ hh _ rfl⟩
 ·rename_i hp hq;have hh:∀ (e:Emb) (F:Fz) (a:Act),FR e F fr a->(∃ p',a.eval x= .pointer p'/\p'.isNone=(none:Option Addr).isNone)/\a.eval y= .pointer none:=fun e F a hf=>by
   have h1:=aO hx hf;have h2:=aO hy hf;rw [hp] at h1;rw [hq] at h2;exact ⟨⟨_,h1,rfl⟩,h2⟩
  cases ne with
  | true=>exact ⟨_,hk,key _ hh _ rfl⟩
  | false=>exact ⟨_,hk,key _ hh _ rfl⟩
 ·exact hk.elim
theorem pM (hu:P.underlying s=some (.struct fs)) (hf:fs[f]?=some fd) (hs:(P.info? fd.type).map (·.size)=some k) (hk:k≠0) (w:World) :
  (Instr.fieldAt s (.pointer (some ⟨b,p,none⟩)) f).run P w= .ok (.pointer (some ⟨b,p+fd.offset,none⟩)) w:=by
 have h1:(fieldPlace ⟨b,p,none⟩ fd).run P w= .ok ⟨b,p+fd.offset,none⟩ w:=by
  unfold fieldPlace;rw [ax,kt hs];simp [aF,hk,aV,bq,Addr.add_mid]
 simp only [Instr.fieldAt,ax,run_underlying hu,aF,hf,Instr.sureAddr,bq,h1]
theorem CH (ho:o.op= .fieldAddr s x f) (hu:C.P.underlying s=some (.struct fs)) (hf':fs[f]?=some fd) (hoff:fd.offset=off)
  (hs:(C.P.info? fd.type).map (·.size)=some k) (hk0:k≠0) (hx:okA x x'=true) (hk:wpR C σ nx K (sem (.fad off x') fr σ nx)):∃ eff,K eff/\Good C o fr nx eff:=by
 subst hoff;simp only [sem] at hk;split at hk
 ·rename_i i r p hp;refine ⟨_,hk,Good.cz fun e F g w a hf hr _=>?_⟩;have h1:=aO hx hf;rw [hp] at h1;obtain ⟨W,h2,h3⟩:=h1;refine ⟨.pointer (some ⟨W.b,W.base+r * W.wd+p+fd.offset,none⟩),?_,⟨W,h2,by simp only [cS]⟩⟩;simp only [execOp,ho,ax,h3,pM hu hf' hs hk0,aF,bq]
 ·rename_i row p hp;refine ⟨_,hk,Good.cz fun e F g w a hf hr _=>?_⟩;have h1:=aO hx hf;rw [hp] at h1;obtain ⟨b,q,h3,h4⟩:=h1;refine ⟨.pointer (some ⟨b,q+p+fd.offset,none⟩),?_,⟨b,q,by simp only [cS],h4⟩⟩;simp only [execOp,ho,ax,h3,pM hu hf' hs hk0,aF,bq]
 ·exact hk.elim
theorem kY {o:Nat} {e:Eff} (h:ldV n o rd row=some e) :
  (n=none/\∃ c,row[o]?=some c/\c.dW=false/\e={v:=c,rd:=rd})\/∃ k vs,n=some k/\takeN row o k=some vs/\nz vs=false/\e={v:= .agg vs,rd:=rd}:=by
 unfold ldV at h
 grind
theorem su:∀ {vs:List V} {j:Nat} {c:V},nz vs=false->vs[j]?=some c->c.dW=false
 | [],j,c,_,h=>by simp at h
 | x::l,j,c,ho,h=>by
  unfold nz at ho;split at ho
  ·cases ho
  ·rename_i hx;cases j with
   | zero=>simp only [az,aw] at h;subst h;exact hx
   | succ j=>exact su ho (by simpa using h)
theorem AV (hn:okN P t n=true) (hc:cK (cj e F) cs us) (h:ldV n off [] cs=some eff) (w:World) :
  ∃ x,(part t us.toArray off).run P w= .ok x w/\b6 e F eff.v x/\eff={v:=eff.v}:=by
 rcases kY h with ⟨rfl,c,hj,_,rfl⟩ | ⟨n,vs,rfl,hj,_,rfl⟩
 ·obtain ⟨u,h1,h2⟩:=hc.get off c hj;refine ⟨u,?_,b6.lF (fu.lR h2),rfl⟩;unfold part;rw [ax,nn hn];simp_all
 ··refine ⟨.agg (us.toArray.extract off (off+n)),?_,⟨(us.drop off).take n,?_,?_⟩,rfl⟩
   ·unfold part;rw [ax,(rz hn w).1];simp only [aF,bo,ax,(rz hn w).2,bq]
   ·simp
   ·refine cK.uA ?_ ?_
    ·have h1:=kP _ _ _ _ hj;simp [h1.1,hc.len]
    ·intro i a hi;obtain ⟨u,h1,h2⟩:=hc.get (off+i) a (iJ _ _ _ _ hj i a hi);refine ⟨u,?_,h2⟩;have hlt:i < n:=by
      have:=(af.1 hi).1;rw [kq hj] at this;exact this
     rw [List.getElem?_take_of_lt hlt,dF];exact h1
theorem CG (ho:o.op= .field s x f) (hu:C.P.underlying s=some (.struct fs)) (hf':fs[f]?=some fd) (hoff:fd.offset=off)
  (hn:okN C.P fd.type n=true) (hx:okA x x'=true) (hk:wpR C σ nx K (sem (.fld off n x') fr σ nx)):∃ eff,K eff/\Good C o fr nx eff:=by
 subst hoff;simp only [sem] at hk;split at hk
 ·rename_i cs hp;cases hl:ldV n fd.offset [] cs with
  | none=>rw [hl] at hk;exact hk.elim
  | some eff =>
   rw [hl] at hk;have hh:eff={v:=eff.v}:=by
    rcases kY hl with ⟨rfl,c,hj,_,rfl⟩ | ⟨n,vs,rfl,hj,_,rfl⟩<;>rfl
   refine ⟨eff,hk,?_⟩;rw [hh];refine Good.cz fun e F g w a hf hr _=>?_
   have h1:=aO hx hf;rw [hp] at h1;obtain ⟨us,h2,h3⟩:=h1;obtain ⟨z,h4,h5,_⟩:=AV hn h3 hl w;exact ⟨z,by simp only [execOp,ho,Instr.field,ax,run_underlying hu,aF,hf',h2,asAgg,bq,h4],h5⟩
 ·exact hk.elim
theorem B3 {s:ByteArray} {b:UInt8} (h:s.data.toList[k]?=some b):s[k]?=some b:=by
 have hlt:k < s.size:=by
  have:=(af.1 h).1;assumption
 rw [ByteArray.getElem?_lt' s k hlt,<- h,Lib.data_getElem? s k hlt]
theorem CE (ho:o.op= .index t x y) (hu:C.P.underlying t=some .string) (hx:okA x x'=true) (hy:okA y y'=true)
  (hk:wpR C σ nx K (sem (.idx x' y') fr σ nx)):∃ eff,K eff/\Good C o fr nx eff:=by
 simp only [sem] at hk;split at hk
 ·rename_i s kk k hp hq;obtain ⟨h0,b,hb,hk⟩:=hk;refine ⟨_,hk,Good.cz fun e F g w a hf hr _=>?_⟩;have h1:=aO hx hf;have h2:=aO hy hf;rw [hp] at h1;rw [hq] at h2;obtain ⟨s,h3,rfl⟩:=bj.j1 h1;have h2:=bj.et h2;refine ⟨.int .u8 b.toNat,?_,bj.int _ _⟩;have e1:(if 0<=k then s[k.toNat]? else none)=some b:=by rw [aj h0,B3 hb]
  simp only [execOp,ho,ax,h3,h2,Instr.index,asIntOf,bq,aF,run_underlying hu,e1]
 ·exact hk.elim
theorem AH (ho:∃ c,o.op= .call c/\c.callee= .builtin .len/\c.args=#[x]/\c.argTypes=#[t]) (hu:C.P.underlying t=some .string) (hx:okA x x'=true)
  (hk:wpR C σ nx K (sem (.zm x') fr σ nx)):∃ eff,K eff/\Good C o fr nx eff:=by
 obtain ⟨c,ho,hc,ha,ht⟩:=ho;simp only [sem] at hk;split at hk
 ·rename_i s hp;refine ⟨_,hk,Good.cz fun e F g w a hf hr _=>?_⟩;have h1:=aO hx hf;rw [hp] at h1;obtain ⟨s,h3,rfl⟩:=bj.j1 h1;refine ⟨goInt s.size,?_,?_⟩
  ·simp [execOp,ho,resolve,hc,invoke,builtin,Builtin.len_,ha,ht,h3,ax,run_underlying hu]
  ·have:s.size=s.data.toList.length:=by rw [Array.length_toList];rfl
   unfold goInt;rw [this];exact bj.int _ _
 ·exact hk.elim
theorem CD (ho:∃ c,o.op= .call c/\c.callee= .builtin .len/\c.args=#[x]/\c.argTypes=#[t]) (hu:C.P.underlying t=some (.slice el)) (hx:okA x x'=true)
  (hk:wpR C σ nx K (sem (.len x') fr σ nx)):∃ eff,K eff/\Good C o fr nx eff:=by
 obtain ⟨c,ho,hc,ha,ht⟩:=ho;have key:∀ n:Nat,(∀ (e:Emb) (F:Fz) (a:Act),FR e F fr a->∃ b cap,a.eval x= .slice b n cap)->Good C o fr nx {v:= .d (.int .i64 n)}:=by
  intro n hh;refine Good.cz fun e F g w a hf hr _=>?_
  obtain ⟨b,cap,h1⟩:=hh e F a hf;exact ⟨goInt n,by simp [execOp,ho,resolve,hc,invoke,builtin,Builtin.len_,ha,ht,h1,ax,run_underlying hu],bj.int _ _⟩
 simp only [sem] at hk;split at hk
 ·rename_i w' rows hp;refine ⟨_,hk,key _ fun e F a hf=>?_⟩;have h1:=aO hx hf;rw [hp] at h1;obtain ⟨b,cap,h2,_⟩:=bj.ql h1;simp_all
 ·rename_i hp;refine ⟨_,hk,key 0 fun e F a hf=>?_⟩;have h1:=aO hx hf;rw [hp] at h1;obtain ⟨b,h2⟩:=bj.iQ h1;simp_all
 ·rename_i i off n hp;refine ⟨_,hk,key _ fun e F a hf=>?_⟩;have h1:=aO hx hf;rw [hp] at h1;obtain ⟨W,b,cap,_,h2,_⟩:=h1;simp_all
 ·exact hk.elim
theorem D1 (ho:∃ c,o.op= .call c/\c.callee= .builtin .max/\c.args=#[x,y]) (hx:okA x x'=true) (hy:okA y y'=true)
  (hk:wpR C σ nx K (sem (.mx x' y') fr σ nx)):∃ eff,K eff/\Good C o fr nx eff:=by
 obtain ⟨c,ho,hc,ha⟩:=ho;simp only [sem] at hk;split at hk
 ·rename_i k p k' q hp hq;refine ⟨_,hk,Good.cz fun e F g w a hf hr _=>?_⟩;have h1:=aO hx hf;have h2:=aO hy hf;rw [hp] at h1;rw [hq] at h2;have h1:=bj.et h1;have h2:=bj.et h2;exact ⟨.int k (if q > p then q else p),by simp [execOp,ho,resolve,hc,invoke,builtin,Builtin.max_,Builtin.max2,ha,h1,h2,ax],bj.int _ _⟩
 ·exact hk.elim
theorem D2 (ho:∃ c,o.op= .call c/\c.callee= .builtin .min/\c.args=#[x,y]) (hx:okA x x'=true) (hy:okA y y'=true)
  (hk:wpR C σ nx K (sem (.mn x' y') fr σ nx)):∃ eff,K eff/\Good C o fr nx eff:=by
 obtain ⟨c,ho,hc,ha⟩:=ho;simp only [sem] at hk;split at hk
 ·rename_i k p k' q hp hq;refine ⟨_,hk,Good.cz fun e F g w a hf hr _=>?_⟩;have h1:=aO hx hf;have h2:=aO hy hf;rw [hp] at h1;rw [hq] at h2;have h1:=bj.et h1;have h2:=bj.et h2;exact ⟨.int k (if q < p then q else p),by simp [execOp,ho,resolve,hc,invoke,builtin,Builtin.min_,Builtin.min2,ha,h1,h2,ax],bj.int _ _⟩
 ·exact hk.elim
def okO:Option Operand->Option A->Bool
 | none,none=>true
 | some x,some y=>okA x y
 | _,_=>false
def Cf (a:Act) (lo:Option Operand):Option Int->Prop
 | none=>lo=none
 | some n=>∃ x k,lo=some x/\a.eval x= .int k n
def sx (v:Option Value):Option Int->Prop
 | none=>v=none
 | some n=>∃ k,v=some (.int k n)
theorem j6 (hf:FR e F fr a) (h:okO lo lo'=true) (hl:evo fr lo'=some l) :
  Cf a lo l:=by
 cases lo' with
 | none=>cases hl;cases lo<;>first | rfl | cases h
 | some y =>
  cases lo with
  | none=>cases h
  | some x =>
   simp only [evo] at hl;split at hl
   ·rename_i k n hv;cases hl;have h1:=aO (show okA x y=true from h) hf;rw [hv] at h1;exact ⟨x,k,rfl,bj.et h1⟩
   ·cases hl
theorem sj {b:Bool} {len cap:Nat} {lo:Option Value} (hl:sx lo l) (hh:sx hi h)
  (hc:len<=cap) (hok:fb len l h) (w:World):(Instr.sliceBounds b len cap lo hi none).run P w= .ok (bH l,eA len h,cap) w/\bH l<=eA len h/\eA len h<=len:=by
 cases h with
 | none =>
  cases hh;cases l with
  | none=>cases hl;exact ⟨by simp [Instr.sliceBounds,ax,bH,eA],by simp [bH,eA],al _⟩
  | some l =>
   obtain ⟨k,rfl⟩:=hl;simp_all [fb,bH,eA,Instr.sliceBounds,Instr.sliceBound,ax,asIntOf,hok]
 | some h =>
  obtain ⟨k,rfl⟩:=hh;cases l with
  | none =>
   cases hl;simp only [fb] at hok;have:h<=(cap:Int):=by omega
   simp [bH,eA,Instr.sliceBounds,Instr.sliceBound,ax,asIntOf,hok,this]
  | some l =>
   obtain ⟨k',rfl⟩:=hl;simp only [fb] at hok;have h1:h<=(cap:Int):=by omega
   have h2:0<=h:=by omega
   have h4:l<=max h 0:=by omega
   refine ⟨?_,by simp only [bH,eA];omega,by simp only [eA];omega⟩;simp [Instr.sliceBounds,Instr.sliceBound,ax,bH,eA,asIntOf,hok.1,h1,h2,h4]
end
theorem lV (h:Cf a lo l):sx (lo.map a.eval) l:=by
 cases l with
 | none=>cases h;rfl
 | some n=>obtain ⟨x,k,rfl,hx⟩:=h;exact ⟨k,by simp [hx]⟩
theorem sub_eq (s:List α) (l h:Option Int) (hok:fb s.length l h):sub s l h=(s.take (eA s.length h)).drop (bH l):=by
 cases l<;>cases h<;>simp [sub,bH,eA]
theorem bj.xT {w cap:Nat} {a:Option Addr} (hc:rows.length<=cap) (h0:∀ row∈rows,row.length=w)
  (h:rows=[]\/∃ b o,a=some ⟨b,o,none⟩/\∀ i j d,(rows[i]?.bind (·[j]?))=some d->∃ u,F b (o+i * w+j)=some u/\bj F d u):bj F (.imm w rows) (.slice a rows.length cap):=by
 rcases h with rfl | ⟨b,o,rfl,h⟩
 ·simp [bj.wG]
 ·refine bj.imm w rows b o cap (fun i j=>(F b (o+i * w+j)).getD undef) hc h0 ?_ ?_
  ·intro i j d hd;obtain ⟨u,h1,h2⟩:=h i j d hd;simp [h1]
  ·intro i j d hd;obtain ⟨u,h1,h2⟩:=h i j d hd;simp [h1,h2]
section
variable {C:Ctx} {o:Oper} {fr:Fr} {σ:Ob} {nx:Nat} {K:Eff->Prop}
theorem AG {hi:Option Operand} (ho:o.op= .slice t x lo hi none) (hu:C.P.underlying t=some .string) (hx:okA x x'=true) (hl:okO lo lo'=true) (hh:okO hi hi'=true)
  (hk:wpR C σ nx K (sem (.xB x' lo' hi') fr σ nx)):∃ eff,K eff/\Good C o fr nx eff:=by
 simp only [sem] at hk;split at hk
 ·rename_i l h s h1 h2 h3;obtain ⟨hok,hk⟩:=hk;refine ⟨_,hk,Good.cz fun e F g w a hf hr _=>?_⟩;have h4:=aO hx hf;rw [h3] at h4;obtain ⟨s,h5,rfl⟩:=bj.j1 h4;have e1:s.data.toList.length=s.size:=by rw [Array.length_toList];rfl
  rw [e1] at hok;obtain ⟨h6,h7,h8⟩:=sj (P:=C.P) (b:=false) (lV (j6 hf hl h1)) (lV (j6 hf hh h2)) (al _) hok w;refine ⟨.string (s.extract (bH l) (eA s.size h)),?_,?_⟩
  ·simp only [execOp,ho,ax,h5,Instr.sliceAt,run_underlying hu,aF,Instr.slice,Option.map_none,Option.isSome_none,bB,aV,h6,bq]
  ·rw [sub_eq _ _ _ (by rw [e1];exact hok),e1];have:(s.extract (bH l) (eA s.size h)).data.toList=(s.data.toList.take (eA s.size h)).drop (bH l):=by
    simp [Lib.extract_data,List.drop_take]
   rw [<- this];exact bj.str _
 ·exact hk.elim
theorem pK {w:Nat} (hu:P.underlying t=some (.slice el)) (hs:(P.info? el).map (·.size)=some w) {b p len cap:Nat} {kk:IntKind} {k:Int} (h0:0<=k) (h1:k < len) (W:World) :
  (Instr.indexAt t (.slice (some ⟨b,p,none⟩) len cap) (.int kk k)).run P W= .ok (.pointer (some ⟨b,p+k.toNat * w,none⟩)) W:=by
 simp only [Instr.indexAt,asIntOf,ax,bq,aF,run_underlying hu,h0,h1,and_self,bo,kt hs,Addr.add_mid]
theorem CF (ho:o.op= .indexAddr t x y) (hu:C.P.underlying t=some (.slice el)) (hs:(C.P.info? el).map (·.size)=some wd) (hx:okA x x'=true) (hy:okA y y'=true)
  (hk:wpR C σ nx K (sem (.iad wd x' y') fr σ nx)):∃ eff,K eff/\Good C o fr nx eff:=by
 have key:∀ (j off len:Nat) (kk:IntKind) (k:Int) (ob:O),x'.ev fr= .arr j off len->y'.ev fr= .d (.int kk k)->(∀ (e:Emb) (F:Fz) (g:Sto) (w:World),Rel C e F g w->g j=some ob->∀ W,e j=some W->wd=W.wd)->0<=k/\k < len ->
   Good C o fr nx {v:= .ptr j (off+k.toNat) 0,rd:=[(j,ob)]}:=by
  intro j off len kk k ob hp hq hw hb;refine Good.cz fun e F g w a hf hr hrd=>?_
  have h1:=aO hx hf;have h2:=aO hy hf;rw [hp] at h1;rw [hq] at h2;have h2:=bj.et h2;obtain ⟨W,b,cap,h3,h4,h5,h6,h7⟩:=h1;have hwd:=hw e F g w hr (hrd (j,ob) (by simp)) W h3;have hcap:¬ cap=0:=by omega
  obtain ⟨rfl,h8⟩:=h7.resolve_left hcap;refine ⟨.pointer (some ⟨W.b,W.base+off * W.wd+k.toNat * wd,none⟩),?_,⟨W,h3,?_⟩⟩
  ·simp only [execOp,ho,ax,h4,h2,pK hu hs hb.1 hb.2,aF,bq]
  ·grind
 simp only [sem] at hk;split at hk
 ·rename_i j off len kk k hp hq;split at hk
  ·rename_i w' rows hl;cases hb:Nat.beq wd w' with
   | false=>simp only [hb,cond_false] at hk;exact hk.elim
   | true =>
    simp only [hb,cond_true] at hk;refine ⟨_,hk.2,key j off len kk k _ hp hq ?_ hk.1⟩;intro e F g w hr hg W hW;rw [aN hb];exact (hr.wd j _ W hg hW w' rows rfl).1
  ·rename_i w' rows hl;cases hb:Nat.beq wd w' with
   | false=>simp only [hb,cond_false] at hk;exact hk.elim
   | true =>
    simp only [hb,cond_true] at hk;refine ⟨_,hk.2,key j off len kk k _ hp hq ?_ hk.1⟩;intro e F g w hr hg W hW;rw [aN hb];exact (hr.wv j _ W hg hW w' rows rfl).1
  ·rename_i w' rows hl;cases hb:Nat.beq wd w' with
   | false=>simp only [hb,cond_false] at hk;exact hk.elim
   | true =>
    simp only [hb,cond_true] at hk;refine ⟨_,hk.2,key j off len kk k _ hp hq ?_ hk.1⟩;intro e F g w hr hg W hW;rw [aN hb];exact (hr.wo j _ W hg hW w' rows rfl).1
  ·exact hk.elim
 ·rename_i w' rows kk k hp hq;cases hb:Nat.beq wd w' with
  | false=>simp only [hb,cond_false] at hk;exact hk.elim
  | true =>
   simp only [hb,cond_true] at hk;obtain ⟨h0,row,eff,hrow,he,hk⟩:=hk;cases he;refine ⟨_,hk,Good.cz fun e F g w a hf hr _=>?_⟩;have h1:=aO hx hf;have h2:=aO hy hf;rw [hp] at h1;rw [hq] at h2;have h2:=bj.et h2;obtain ⟨b,cap,h3,h4,_,h5⟩:=bj.ql h1;have hlt:k.toNat < rows.length:=(af.1 hrow).1;obtain ⟨b,p,rfl,h6⟩:=h5.resolve_left (by rintro rfl;simp at hlt);refine ⟨.pointer (some ⟨b,p+k.toNat * wd,none⟩),?_,⟨b,p+k.toNat * wd,rfl,?_⟩⟩
   ·simp only [execOp,ho,ax,h3,h2,pK hu hs h0 (by omega:k < (rows.length:Int)),aF,bq]
   ·intro j d hd;rw [aN hb];simp [hrow,hd,h6]
 ·exact hk.elim
theorem lM (hu:P.underlying t=some (.slice el)) (hs:(P.info? el).map (·.size)=some wd) {a:Option Addr} {len cap:Nat} {lo:Option Value} 
  (hl:sx lo l) (hh:sx hi h) (hc:len<=cap) (hok:fb len l h) (w:World) :
  (Instr.sliceAt t (.slice a len cap) lo hi none).run P w= .ok (.slice (if cap=bH l then a else a.map (·.add (bH l * wd))) (ct len l h) (cap - bH l)) w/\bH l+ct len l h<=len:=by
 obtain ⟨h6,h7,h8⟩:=sj (P:=P) (b:=true) hl hh hc hok w;refine ⟨?_,?_⟩
 ·simp only [Instr.sliceAt,ax,run_underlying hu,aF,Instr.slice,h6,kt hs,bq,ct]
 ·simp_all [ct]
theorem Ct {hi:Option Operand} (ho:o.op= .slice t x lo hi none) (hu:C.P.underlying t=some (.slice el)) (hs:(C.P.info? el).map (·.size)=some wd) (hx:okA x x'=true) (hl:okO lo lo'=true) (hh:okO hi hi'=true)
  (hk:wpR C σ nx K (sem (.slc wd x' lo' hi') fr σ nx)):∃ eff,K eff/\Good C o fr nx eff:=by
 simp only [sem] at hk;split at hk
 ·rename_i l h h1 h2;have key:∀ (i off len:Nat) (ob:O),x'.ev fr= .arr i off len->(∀ (e:Emb) (F:Fz) (g:Sto) (w:World),Rel C e F g w->g i=some ob->∀ W,e i=some W->wd=W.wd)->fb len l h ->
    Good C o fr nx {v:= .arr i (off+bH l) (ct len l h),rd:=[(i,ob)]}:=by
   intro i off len ob hp hw hok;refine Good.cz fun e F g w a hf hr hrd=>?_
   have h3:=aO hx hf;rw [hp] at h3;obtain ⟨W,b,cap,h4,h5,h6,h7,h8⟩:=h3;have hwd:=hw e F g w hr (hrd (i,ob) (by simp)) W h4;obtain ⟨h9,h10⟩:=lM (P:=C.P) hu hs (a:=b) (lV (j6 hf hl h1)) (lV (j6 hf hh h2)) h7 hok w;refine ⟨.slice (if cap=bH l then b else b.map (·.add (bH l * wd))) (ct len l h) (cap - bH l),by simp only [execOp,ho,ax,h5,Option.map_none,h9,aF,bq],⟨W,_,_,h4,rfl,by omega,by omega,?_⟩⟩;by_cases hc:cap=bH l
   ·left;omega
   ·right;obtain ⟨rfl,h11⟩:=h8.resolve_left (by omega);refine ⟨?_,?_⟩
    ·simp [hc,aV,aS,Addr.add_mid,hwd,bK,cS]
    ·grind
  split at hk
  ·rename_i w' rows hp;cases hb:Nat.beq wd w' with
   | false=>simp only [hb,cond_false] at hk;exact hk.elim
   | true =>
    simp only [hb,cond_true] at hk;obtain ⟨hok,hk⟩:=hk;refine ⟨_,hk,Good.cz fun e F g w a hf hr hrd=>?_⟩;have h3:=aO hx hf;rw [hp] at h3;obtain ⟨b,cap,h4,h5,hu0,h6⟩:=bj.ql h3;obtain ⟨h9,h10⟩:=lM (P:=C.P) hu hs (a:=b) (lV (j6 hf hl h1)) (lV (j6 hf hh h2)) h5 hok w;have hsub:=sub_eq rows l h hok;have hlen:(sub rows l h).length=ct rows.length l h:=by
     rw [hsub,bD,bh];simp only [ct];have:eA rows.length h<=rows.length:=by
      cases h with
      | none=>exact al _
      | some h=>cases l<;>simp only [fb] at hok<;>simp only [eA]<;>omega
     omega
    refine ⟨.slice (if cap=bH l then b else b.map (·.add (bH l * wd))) (ct rows.length l h) (cap - bH l),by simp only [execOp,ho,ax,h4,Option.map_none,h9,aF,bq],?_⟩;rw [<- hlen];have e0:=aN hb;refine bj.xT (by omega) (fun row hrow=>by rw [e0];rw [hsub] at hrow;exact hu0 row (cw (br hrow))) ?_;by_cases hz:sub rows l h=[]
    ·exact .inl hz
    ·right;have hne:(sub rows l h).length≠0:=by simpa using hz
     obtain ⟨b,p,rfl,h7⟩:=h6.resolve_left (by rintro rfl;apply hz;rw [hsub];simp);have hc:¬ cap=bH l:=by omega
     refine ⟨b,p+bH l * wd,by simp only [hc,aV,aS,Addr.add_mid],?_⟩;intro i j d hd;subst e0;have hd':(rows[bH l+i]?.bind (·[j]?))=some d:=by
      grind
     obtain ⟨u,h8,h11⟩:=h7 (bH l+i) j d hd'
     grind
  ·rename_i hp;obtain ⟨hok,hk⟩:=hk;refine ⟨_,hk,Good.cz fun e F g w a hf hr hrd=>?_⟩;have h3:=aO hx hf;rw [hp] at h3;obtain ⟨b,h4⟩:=bj.iQ h3;obtain ⟨h9,h10⟩:=lM (P:=C.P) hu hs (a:=b) (lV (j6 hf hl h1)) (lV (j6 hf hh h2)) (al 0) hok w;refine ⟨.slice (if 0=bH l then b else b.map (·.add (bH l * wd))) (ct 0 l h) (0 - bH l),by simp only [execOp,ho,ax,h4,Option.map_none,h9,aF,bq],?_⟩;simp_all
  ·rename_i i off len hp;split at hk
   ·rename_i w' rows hl';cases hb:Nat.beq wd w' with
    | false=>simp only [hb,cond_false] at hk;exact hk.elim
    | true =>
     simp only [hb,cond_true] at hk;refine ⟨_,hk.2,key i off len _ hp ?_ hk.1⟩;intro e F g w hr hg W hW;rw [aN hb];exact (hr.wd i _ W hg hW w' rows rfl).1
   ·rename_i w' rows hl';cases hb:Nat.beq wd w' with
    | false=>simp only [hb,cond_false] at hk;exact hk.elim
    | true =>
     simp only [hb,cond_true] at hk;refine ⟨_,hk.2,key i off len _ hp ?_ hk.1⟩;intro e F g w hr hg W hW;rw [aN hb];exact (hr.wv i _ W hg hW w' rows rfl).1
   ·rename_i w' rows hl';cases hb:Nat.beq wd w' with
    | false=>simp only [hb,cond_false] at hk;exact hk.elim
    | true =>
     simp only [hb,cond_true] at hk;refine ⟨_,hk.2,key i off len _ hp ?_ hk.1⟩;intro e F g w hr hg W hW;rw [aN hb];exact (hr.wo i _ W hg hW w' rows rfl).1
   ·exact hk.elim
  ·exact hk.elim
 ·exact hk.elim
theorem nX (hn:okN P t n=true) {q:Nat} 
  (hc:∀ j c,row[j]?=some c->c.dW=false->∃ u,w.cell? ⟨b,q+j,none⟩=some u/\cj e F c u) (h:ldV n p rd row=some eff) :
  ∃ x,(Instr.loadAt t (.pointer (some ⟨b,q+p,none⟩))).run P w= .ok x w/\b6 e F eff.v x/\eff={v:=eff.v,rd:=rd}:=by
 rcases kY h with ⟨rfl,c,hj,ho,rfl⟩ | ⟨n,vs,rfl,hj,ho,rfl⟩
 ·obtain ⟨u,h1,h2⟩:=hc p c hj ho;refine ⟨u,?_,b6.lF (fu.lR h2),rfl⟩;simp only [Instr.loadAt,Instr.sureAddr,ax,bq,aF,loadVar,nn hn,bB,aV,run_load,h1]
 ··have hget:=iJ _ _ _ _ hj;have hlen:=kq hj
   let us:List Value:=(List.range n).map fun j=>(w.cell? ⟨b,q+p+j,none⟩).getD undef
   have hus:∀ j c,vs[j]?=some c->us[j]?=w.cell? ⟨b,q+p+j,none⟩/\∃ u,us[j]?=some u/\cj e F c u:=by
    intro j c hj';have hlt:j < n:=by rw [<- hlen];exact (af.1 hj').1
    obtain ⟨u,h1,h2⟩:=hc (p+j) c (hget j c hj') (su ho hj');rw [<- cS] at h1;have:us[j]?=some u:=by
     simp only [us,bf,List.getElem?_range hlt,aS,h1,gx]
    exact ⟨by rw [this,h1],u,this,h2⟩
   have hul:us.length=n:=by simp [us]
   refine ⟨.agg us.toArray,?_,⟨us,rfl,cK.uA (by rw [hul,hlen]) fun i a hi=>(hus i a hi).2⟩,rfl⟩;unfold okN at hn;cases hu:P.underlying t with
   | none=>simp [hu] at hn
   | some d =>
    cases d with
    | struct fs =>
     simp only [hu,ak] at hn;refine run_loadAt_mid w b (q+p) t us (.struct fs) ?_ hu rfl (by rw [hn,hul]);intro j v hv;have hlt:j < vs.length:=by rw [hlen,<- hul];exact (af.1 hv).1
     rw [<- (hus j vs[j] (aa hlt)).1];exact hv
    | _=>simp [hu] at hn
theorem lS:∀ (row:List D) (j:Nat),(lT row)[j]?=(row[j]?).map .d
 | [],j=>by simp [lT]
 | x::l,0=>by simp [lT]
 | x::l,j+1=>by simp [lT,lS l j]
theorem mT:∀ (row:List D) (p n:Nat),takeN (lT row) p n=(takeN row p n).map lT
 | xs,0,0=>by cases xs<;>rfl
 | x::xs,0,n+1=>by
  simp only [lT,takeN,mT xs 0 n];cases takeN xs 0 n<;>rfl
 | x::xs,o+1,n=>by simp only [lT,takeN,mT xs o n]
 | [],0,n+1=>rfl
 | [],o+1,n=>by cases n<;>rfl
theorem pQ:∀ (row:List D),nz (lT row)=false
 | []=>rfl
 | x::l=>by simp only [lT,nz,V.dW];exact pQ l
theorem Bd (w:Nat) (n:Option Nat) (p:Nat) (rd:List (Nat×O)) (row:List D):ldD w n p rd row=ldV n p rd (lT row):=by
 cases n with
 | none=>simp only [ldD,ldV,lS];cases row[p]?<;>rfl
 | some n =>
  simp only [ldD,ldV,mT];cases takeN row p n with
  | none=>rfl
  | some vs=>simp [pQ]
theorem D3 (ho:o.op= .load t x) (hn:okN C.P t n=true) (hx:okA x x'=true)
  (hk:wpR C σ nx K (sem (.ld n x') fr σ nx)):∃ eff,K eff/\Good C o fr nx eff:=by
 have key:∀ (i r p:Nat) (ob:O) (row:List V) (eff:Eff),x'.ev fr= .ptr i r p->ldV n p [(i,ob)] row=some eff->(∀ j c,row[j]?=some c->ob.cell r j=some c)->Good C o fr nx eff:=by
  intro i r p ob row eff hp hl hc;have hh:eff={v:=eff.v,rd:=[(i,ob)]}:=by
   rcases kY hl with ⟨rfl,c,hj,_,rfl⟩ | ⟨n,vs,rfl,hj,_,rfl⟩<;>rfl
  rw [hh];refine Good.cz fun e F g w a hf hr hrd=>?_
  have h1:=aO hx hf;rw [hp] at h1;obtain ⟨W,h2,h3⟩:=h1;obtain ⟨z,h4,h5,_⟩:=nX (P:=C.P) hn (e:=e) (F:=F) (b:=W.b) (q:=W.base+r * W.wd) (w:=w) (fun j c hj ho=>hr.cells i ob W (hrd (i,ob) (by simp)) h2 r j c (hc j c hj) (.inr ho)) hl;exact ⟨z,by simp only [execOp,ho,ax,h3,h4,aF,bq],h5⟩
 simp only [sem] at hk;split at hk
 ·rename_i i r p hp;split at hk
  ·rename_i cs hl;split at hk
   ·cases hld:ldV n p [(i,.st cs)] cs with
    | none=>rw [hld] at hk;exact hk.elim
    | some eff =>
     rw [hld] at hk;exact ⟨eff,hk,key i 0 p _ cs eff hp hld fun j c hj=>by simpa [O.cell] using hj⟩
   ·exact hk.elim
  ·rename_i wd rows hl;obtain ⟨_,row,eff,hrow,he,hk⟩:=hk;rw [Bd] at he;exact ⟨eff,hk,key i r p _ _ eff hp he fun j c hj=>by simp only [lS] at hj;simp [O.cell,hrow,hj]⟩
  ·rename_i wd rows hl;obtain ⟨_,row,eff,hrow,he,hk⟩:=hk;exact ⟨eff,hk,key i r p _ _ eff hp he fun j c hj=>by simp [O.cell,hrow,hj]⟩
  ·exact hk.elim
  ·exact hk.elim
  ·exact hk.elim
  ·rename_i cs h m k hl;split at hk
   ·rename_i hb;simp only [ag,Nat.ble_eq,Nat.blt_eq] at hb;split at hk
    ·rename_i vs hlk;cases hld:ldV n (p - h) [(i,O.rst cs h m k),(k,.st vs)] vs with
     | none=>rw [hld] at hk;exact hk.elim
     | some eff =>
      rw [hld] at hk;refine ⟨eff,hk,?_⟩;have hh:eff={v:=eff.v,rd:=[(i,O.rst cs h m k),(k,.st vs)]}:=by
       rcases kY hld with ⟨rfl,c,hj,_,rfl⟩ | ⟨n,vs,rfl,hj,_,rfl⟩<;>rfl
      rw [hh];refine Good.cz fun e F g w a hf hr hrd=>?_
      have h1:=aO hx hf;rw [hp] at h1;obtain ⟨W,h2,h3⟩:=h1;have hgi:=hrd (i,.rst cs h m k) (by simp);have hgk:=hrd (k,.st vs) (by simp);have hid:fw e F w (F.H i) W (.st cs) 0 h m k:=hr.hid i _ W hgi h2;obtain ⟨z,h4,h5,_⟩:=nX (P:=C.P) hn (e:=e) (F:=F) (b:=W.b) (q:=W.base+0 * W.wd+h) (w:=w) (fun j c hj ho=>by
       obtain ⟨u,q1,q2⟩:=hr.cells k (.st vs) _ hgk hid.kid 0 j c (by simpa [O.cell] using hj) (.inr ho);exact ⟨u,by simpa using q1,q2⟩) hld
      rw [show W.base+0 * W.wd+h+(p - h)=W.base+0 * W.wd+p by omega] at h4;exact ⟨z,by simp only [execOp,ho,ax,h3,h4,aF,bq],h5⟩
    ·exact hk.elim
   ·rename_i hb;split at hk
    ·rename_i c hc;split at hk
     ·rename_i hown;refine ⟨_,hk,Good.cz fun e F g w a hf hr hrd=>?_⟩;have h1:=aO hx hf;rw [hp] at h1;obtain ⟨W,h2,h3⟩:=h1;have hgi:=hrd (i,.rst cs h m k) (by simp);have hid:fw e F w (F.H i) W (.st cs) 0 h m k:=hr.hid i _ W hgi h2;have hno:¬ ((0:Nat)=0/\h<=p/\p < h+m):=by
       rintro ⟨_,q1,q2⟩
       have:(Nat.ble h p&&Nat.blt p (h+m))=true:=by simp only [ag,Nat.ble_eq,Nat.blt_eq];exact ⟨q1,q2⟩
       rw [this] at hb;cases hb
      obtain ⟨u,q1,q2⟩:=hid.cells 0 p c (by simpa [O.cell] using hc) hno hown;have hrow:(List.replicate p (V.own false 0 [])++[c])[p]?=some c:=by simp
      obtain ⟨z,h4,h5,_⟩:=nX (P:=C.P) hn (e:=e) (F:=F) (row:=List.replicate p (V.own false 0 [])++[c]) (b:=W.b) (q:=W.base+0 * W.wd) (p:=p) (rd:=[]) (eff:={v:=c,rd:=[]}) (w:=w) (fun j c' hj ho'=>by
       by_cases hjp:j < p
       ·rw [bU (by simpa using hjp),List.getElem?_replicate,aj hjp] at hj;cases hj;cases ho'
       ·rw [cx (by simpa using hjp)] at hj;have hj0:j=p:=by
         grind
        subst hj0;simp at hj;subst hj;exact ⟨u,q1,q2⟩) (by simp only [ldV,hrow,hown])
      exact ⟨z,by simp only [execOp,ho,ax,h3,h4,aF,bq],h5⟩
     ·exact hk.elim
    ·exact hk.elim
   ·exact hk.elim
  ·exact hk.elim
 ·rename_i row p hp;cases hld:ldD 0 n p [] row with
  | none=>rw [hld] at hk;exact hk.elim
  | some eff =>
   rw [hld] at hk;rw [Bd] at hld;refine ⟨eff,hk,?_⟩;have hh:eff={v:=eff.v,rd:=[]}:=by
    rcases kY hld with ⟨rfl,c,hj,_,rfl⟩ | ⟨n,vs,rfl,hj,_,rfl⟩<;>rfl
   rw [hh];refine Good.cz fun e F g w a hf hr hrd=>?_
   have h1:=aO hx hf;rw [hp] at h1;obtain ⟨b,q,h3,h2⟩:=h1;obtain ⟨z,h4,h5,_⟩:=nX (P:=C.P) hn (e:=e) (F:=F) (b:=b) (q:=q) (w:=w) (fun j c hj _=>by
    rw [lS] at hj;cases hd:row[j]? with
    | none=>simp [hd] at hj
    | some d =>
     simp [hd] at hj;subst hj;obtain ⟨u,h6,h7⟩:=h2 j d hd;exact ⟨u,hr.fz _ _ _ h6,h7⟩) hld
   exact ⟨z,by simp only [execOp,ho,ax,h3,h4,aF,bq],h5⟩
 ·exact hk.elim
theorem rh (t:TypeId) (v:Value) (w:World):(newVar t v).run P w= .ok ⟨w.heap.size,0,none⟩ (w.alloc (.cells v.cells t (0,0))):=by
 rfl
theorem ir {x:V} (h:cj e F x v):∃ us:List Value,v.cells=us.toArray/\cK (cj e F) [x] us:=⟨[v],cj.cells h,.cons h .nil⟩
theorem jU {x:V} (h:b6 e F x v) (hx:x.pe=some cs):∃ us,v.cells=us.toArray/\cK (cj e F) cs us:=by
 cases x with
 | agg l=>cases hx;obtain ⟨us,rfl,h2⟩:=h;exact ⟨us,rfl,h2⟩
 | rd=>cases hx
 | tup=>cases hx
 | un=>cases hx
 | d y=>cases hx;exact ir (x:= .d y) h
 | ptr i r p=>cases hx;exact ir (x:= .ptr i r p) h
 | iM=>cases hx;exact ir (x:= .iM) h
 | arr i r p=>cases hx;exact ir (x:= .arr i r p) h
 | fn f c=>cases hx;exact ir (x:= .fn f c) h
 | tt=>cases hx;exact ir (x:= .tt) h
 | ff=>cases hx;exact ir (x:= .ff) h
 | mp i=>cases hx;exact ir (x:= .mp i) h
 | nmp=>cases hx;exact ir (x:= .nmp) h
 | own dp w rows=>exact h.elim
theorem A5 {g:Sto} (hr:Rel C e F g w) (hc:cK (cj e F) cs us) (t:TypeId) (hn:e nx=none) :
  Res C e F g w nx 1 (.ptr nx 0 0) (upd g nx (some (.st cs))) (.pointer (some ⟨w.heap.size,0,none⟩)) (w.alloc (.cells us.toArray t (0,0))):=by
 refine hr.new (b9.refl _ _) (W:=⟨w.heap.size,0,us.length,us.length,1⟩) rfl hn rfl rfl (by simp) ?_ ?_ (by intro v rows h;cases h) (by intro v rows h;cases h) (by intro v rows h;cases h) ⟨⟨w.heap.size,0,us.length,us.length,1⟩,by simp,by simp⟩
 ·intro r k c hc';simp only [O.cell] at hc';split at hc'
  ·rename_i h0;subst h0;have:k < us.length:=by rw [<- hc.len];exact (af.1 hc').1
   simp_all
  ·cases hc'
 ·intro r k c hc';simp only [O.cell] at hc';split at hc'
  ·rename_i h0;subst h0;obtain ⟨u,h1,h2⟩:=hc.get k c hc';simp_all
  ·cases hc'
theorem CK (ho:o.op= .box t x) (hx:okA x x'=true) (hk:wpR C σ nx K (sem (.box x') fr σ nx)):∃ eff,K eff/\Good C o fr nx eff:=by
 simp only [sem] at hk;split at hk
 ·rename_i cs hcs;refine ⟨_,hk,Good.fl fun e F g w a hf hr _ hn=>?_⟩;obtain ⟨us,h1,h2⟩:=jU (aO hx hf) hcs;refine ⟨_,_,?_,A5 hr h2 t (hn nx (al _) (Nat.lt_succ_self _))⟩;simp [execOp,ho,Instr.box,ax,rh,aF,bq,h1]
 ·exact hk.elim
def okZ (P:Program) (t:TypeId) (z:List V):Bool :=
 match P.info? t with
 | some i=>match i.zero with
  | some v=>xf v.cells.toList z
  | none=>false
 | none=>false
theorem zy (h:okZ P t z=true):∃ v,(∀ w,(zeroValue t).run P w= .ok v w)/\xf v.cells.toList z=true:=by
 unfold okZ at h;cases hi:P.info? t with
 | none=>simp [hi] at h
 | some i =>
  cases hz:i.zero with
  | none=>simp [hi,hz] at h
  | some v =>
   simp_all [hi,hz,zeroValue,typeInfo]
theorem Cw (ho:o.op= .alloc t) (hz:okZ C.P t z=true) (hk:wpR C σ nx K (sem (.new z) fr σ nx)):∃ eff,K eff/\Good C o fr nx eff:=by
 refine ⟨_,hk,Good.fl fun e F g w a hf hr _ hn=>?_⟩;obtain ⟨v,h1,h2⟩:=zy hz;refine ⟨_,_,?_,A5 hr (gQ h2 e F) t (hn nx (al _) (Nat.lt_succ_self _))⟩;simp [execOp,ho,Instr.alloc,ax,h1,rh,aF,bq]
end
theorem fx {α:Type}:∀ (xs:List α) (p:Nat) (vs ys:List α),cu xs p vs=some ys->ys.length=xs.length/\p+vs.length<=xs.length+(if vs=[] then p else 0) /\
  ∀ q,ys[q]?=if p<=q/\q < p+vs.length then vs[q - p]? else xs[q]?
 | xs,0,[],ys,h=>by simp only [cu] at h;cases h;refine ⟨rfl,by simp,fun q=>?_⟩;simp
 | x::xs,0,v::vs,ys,h=>by
  simp only [cu,ay] at h;obtain ⟨zs,h1,rfl⟩:=h;obtain ⟨h2,h3,h4⟩:=fx xs 0 vs zs h1
  grind
 | x::xs,p+1,vs,ys,h=>by
  have h':(cu xs p vs).map (x::·)=some ys:=by cases vs<;>exact h
  simp only [ay] at h';obtain ⟨zs,h1,rfl⟩:=h';obtain ⟨h2,h3,h4⟩:=fx xs p vs zs h1
  grind
 | [],0,v::vs,ys,h=>by cases h
 | [],p+1,vs,ys,h=>by cases vs<;>cases h
theorem o9 (off:Nat):∀ (vs:List Value) (k:Nat) (cells:Array Value),off+k+vs.length<=cells.size ->
  ((vs.zipIdx k).foldl (fun cs (x:Value×Nat)=>cs.setIfInBounds (off+x.2) x.1) cells).size=cells.size /\
  ∀ q,((vs.zipIdx k).foldl (fun cs (x:Value×Nat)=>cs.setIfInBounds (off+x.2) x.1) cells)[q]?=if off+k<=q/\q < off+k+vs.length then vs[q - (off+k)]? else cells[q]?
 | [],k,cells,h=>by simp;intro q h1 h2;omega
 | v::vs,k,cells,h=>by
  simp only [aT] at h;obtain ⟨h1,h2⟩:=o9 off vs (k+1) (cells.setIfInBounds (off+k) v) (by simp;omega);simp only [List.zipIdx_cons,List.foldl_cons]
  grind
theorem BN {z':List V} {us:Array Value} {ws:List Value} (hz:cK (cj e F) z us.toList) (hc:cK (cj e F) cs ws) (h:cu z off cs=some z') :
  off+ws.length<=us.size+(if ws=[] then off else 0)/\cK (cj e F) z' ((ws.toArray.zipIdx.foldl (fun cs (x:Value×Nat)=>cs.setIfInBounds (off+x.2) x.1) us).toList):=by
 obtain ⟨h1,h2,h3⟩:=fx _ _ _ _ h;have hl:=hc.len;have hzl:=hz.len;simp only [Array.length_toList] at hzl;have h2':off+ws.length<=us.size+(if ws=[] then off else 0):=by
  grind
 refine ⟨h2',?_⟩;have e1:ws.toArray.zipIdx.foldl (fun cs (x:Value×Nat)=>cs.setIfInBounds (off+x.2) x.1) us=(ws.zipIdx 0).foldl (fun cs (x:Value×Nat)=>cs.setIfInBounds (off+x.2) x.1) us:=by
  simp
 rw [e1];by_cases hw:ws=[]
 ·subst hw;have hcs:cs=[]:=by simpa using hl
  subst hcs;have:z'=z:=List.ext_getElem? fun q=>by rw [h3 q,ab (by simp)]
  simp_all
 ·simp only [hw,aV,cr] at h2';obtain ⟨h4,h5⟩:=o9 off ws 0 us (by omega);refine cK.uA (by simp only [Array.length_toList];rw [h1,hzl,h4]) fun q a hq=>?_
  rw [h3 q] at hq;rw [Array.getElem?_toList,h5 q];simp only [cr];rw [hl] at hq;split at hq
  ·simp_all [hc.get]
  ·rename_i hr;rw [ab hr];have:=hz.get _ a hq;simpa using this
def okQ (P:Program) (fs:Array Field):List (Nat×Operand)->List (Nat×Nat×A)->Bool
 | [],[]=>true
 | (i,x)::l,(off,n,a)::m=>(match fs[i]? with
  | some f=>decide (f.offset=off)&&decide ((P.info? f.type).map (·.size)=some n)&&decide (n≠0)
  | none=>false)&&okA x a&&okQ P fs l m
 | _,_=>false
theorem rN {P:Program} {e:Emb} {F:Fz} {fr:Fr} {a:Act} (hf:FR e F fr a) {fs:Array Field} {places:List (Nat×Nat)} (hp:fs.toList.mapM (fun f=>(P.info? f.type).map fun i=>(f.offset,i.size))=some places) :
  ∀ (l:List (Nat×Operand)) (m:List (Nat×Nat×A)) (z z':List V) (us:Array Value),okQ P fs l m=true->cK (cj e F) z us.toList->si z (evq fr m)=some z' ->
   ∃ us',Instr.fill (places.toArray[·]?) us (l.map fun p=>(p.1,a.eval p.2))=some us'/\cK (cj e F) z' us'.toList
 | [],[],z,z',us,_,hz,hb=>by simp only [evq,si] at hb;cases hb;exact ⟨us,rfl,hz⟩
 | (i,x)::l,(off,n,y)::m,z,z',us,hq,hz,hb=>by
  simp only [okQ,ag] at hq;obtain ⟨⟨hq1,hq2⟩,hq3⟩:=hq;cases hfi:fs[i]? with
  | none=>simp [hfi] at hq1
  | some f =>
   simp only [hfi,ag,ak] at hq1;obtain ⟨⟨rfl,hs⟩,hn0⟩:=hq1;simp only [evq,si] at hb;split at hb
   ·rename_i cs hcs;split at hb
    ·rename_i z1 hlen hsp;obtain ⟨ws,h1,h2⟩:=jU (aO hq2 hf) hcs;have hpl:places.toArray[i]?=some (f.offset,n):=by
      have:∀ (fs:List Field) (places:List (Nat×Nat)),fs.mapM (fun f=>(P.info? f.type).map fun i=>(f.offset,i.size))=some places->∀ (i:Nat) (f:Field),fs[i]?=some f->∃ k,(P.info? f.type).map (·.size)=some k/\places[i]?=some (f.offset,k):=by
       intro fs;induction fs with
       | nil=>intro places h i f hi;simp at hi
       | cons f0 fs ih =>
        intro places h i f hi;simp only [List.mapM_cons,Option.bind_eq_bind,Option.pure_def] at h;cases hi0:P.info? f0.type with
        | none=>simp [hi0] at h
        | some i0 =>
         cases hr:fs.mapM (fun f=>(P.info? f.type).map fun i=>(f.offset,i.size)) with
         | none=>simp [hi0,hr] at h
         | some rest =>
          grind
      obtain ⟨k,h3,h4⟩:=this _ _ hp i f (by simpa using hfi);simp_all
     have hn:ws.length=n:=by rw [<- h2.len];exact aN hlen
     obtain ⟨h5,h6⟩:=BN hz h2 hsp;obtain ⟨us',h7,h8⟩:=rN hf hp l m z1 z' _ hq3 h6 hb;refine ⟨us',?_,h8⟩;simp only [cT,Instr.fill,hpl]
     grind
    ·cases hb
   ·cases hb
 | [],_::_,_,_,_,h,_,_=>by cases h
 | _::_,[],_,_,_,h,_,_=>by cases h
section
variable {C:Ctx} {o:Oper} {fr:Fr} {σ:Ob} {nx:Nat} {K:Eff->Prop}
theorem zu {ps:Array (Nat×Operand)} {qs:List (Nat×Nat×A)} (ho:o.op= .build t ps) (hu:C.P.underlying t=some (.struct fs)) (hz:okZ C.P t z=true)
  (hp:(fs.toList.mapM (fun f=>(C.P.info? f.type).map fun i=>(f.offset,i.size))).isSome=true) (hq:okQ C.P fs ps.toList qs=true) (hk:wpR C σ nx K (sem (.build z qs) fr σ nx)):∃ eff,K eff/\Good C o fr nx eff:=by
 simp only [sem] at hk;split at hk
 ·rename_i cs hb;refine ⟨_,hk,Good.cz fun e F g w a hf hr _=>?_⟩;obtain ⟨places,hp⟩:=bX.1 hp;unfold okZ at hz;cases hi:C.P.info? t with
  | none=>simp [hi] at hz
  | some it =>
   cases hiz:it.zero with
   | none=>simp [hi,hiz] at hz
   | some v =>
    simp [hi,hiz] at hz;obtain ⟨us',h1,h2⟩:=rN hf hp ps.toList qs z cs v.cells hq (by simpa using gQ hz e F) hb;refine ⟨.agg us',?_,⟨us'.toList,rfl,h2⟩⟩;have hbuilt:C.P.built t (ps.map fun (i,x)=>(i,a.eval x)).toList=some us':=by
     unfold Program.built;simp_all
    simp only [execOp,ho,ax,run_build w t _ us' hbuilt,aF,bq]
 ·exact hk.elim
end
end Go.Proofs.YtggoiofammbchaaGreatDoor.Loc
