/- Part 6 of a chain that ends in the statement named in GOCLAIM.json; no condition. -/
import Derived.Test.YtggoiofammbchaaGreatDoorK5
import Derived.Laws.StructEq
import Derived.MapKept
set_option maxRecDepth 100000
set_option maxHeartbeats 2000000
set_option linter.all false
namespace Go.Proofs.YtggoiofammbchaaGreatDoor.Loc
open Go
variable {C:Ctx} {F F':Fz} {K:Eff->Prop} {P:Program} {R S:Nat->Nat->Prop} {Sub:Nat->Nat->Nat->Nat->Prop} {W:Win} {a a1 a2:Option Addr} {b cap dCap dLen i n nx p sCap sLen wd:Nat} {e e':Emb} {el t t':TypeId} {fr:Fr} {fs:Array Field} {g:Sto} {inf:TypeInfo} {k:D} {kd:Option IntKind} {ne:Bool} {rows:List (List D)} {v z:Value} {w w':World} {x y:Operand} {x' y':A} {σ:Ob}
theorem HT.one {dp:Bool} {u:Value} (h:HT F w dp wd rows u S):u.oneCell'=true:=by cases h<;>rfl
theorem Res.Fj {v:V} {x:Value} (hr:Rel C e F g w) {g':Sto} (T:Nat->Prop) (hup:b9 S w w') (hng:∀ b,b < C.ng->∀ o,¬ S b o) (hle:Emb.le e e') (hee:∀ i,(i < nx\/nx+n<=i)->e' i=e i) (hf:F'.f=F.f)
  (hold:∀ i x,g' i=some x->¬ T i->g i=some x/\F'.H i=F.H i)
  (hnew:∀ i x,g' i=some x->T i->∃ W,e' i=some W/\lA C e' F' w' (F'.H i) x W)
  (hS:∀ b o,S b o->(w.cell? ⟨b,o,none⟩).isSome=true/\(∃ i x W,T i/\g i=some x/\e i=some W/\(InR x W b o\/F.H i b o)))
  (dY:∀ i x W,T i->g' i=some x->e' i=some W->∀ b o,(InR x W b o\/F'.H i b o)->(∃ i0 x0 W0,T i0/\g i0=some x0/\e i0=some W0/\(InR x0 W0 b o\/F.H i0 b o))\/w.heap.size<=b)
  (hdis:∀ i x W i' x' W',T i->T i'->i≠i'->g' i=some x->e' i=some W->g' i'=some x'->e' i'=some W'->∀ b o,(InR x W b o\/F'.H i b o)->¬ (InR x' W' b o\/F'.H i' b o))
  (hv:b6 e' F' v x):Res C e F g w nx n v g' x w':=by
 obtain ⟨h1,h2⟩:=hr.many T hup hng hle hf hold hnew hS dY hdis;exact ⟨e',F',hle,hee,fun b o u hu=>by rw [hf];exact hu,hv,h1,hup.mono fun b o h=>(hS b o h).2.elim fun i ⟨x,W,_,q1,q2,q3⟩=>⟨i,x,W,q1,q2,q3⟩,h2,fun b o u hu=> .inl ⟨u,by rw [<- hf];exact hu⟩⟩
structure Part (C:Ctx) (F:Fz) (w:World) (wd:Nat) (rows:List (List D)) (a:Option Addr) (cap:Nat) (R:Nat->Nat->Prop) (Sub:Nat->Nat->Nat->Nat->Prop):Prop where
 uni:∀ row∈rows,row.length=wd
 le:rows.length<=cap
 Eb:cap=0\/∃ b p,a=some ⟨b,p,none⟩/\C.ng<=b/\(∀ q,q < cap * wd->R b (p+q)/\(w.cell? ⟨b,p+q,none⟩).isSome=true/\w.frozen? ⟨b,p+q,none⟩=false) /\
  ∀ (r k:Nat) d,(rows[r]?.bind (·[k]?))=some d->∃ u,w.cell? ⟨b,p+r * wd+k,none⟩=some u/\u.oneCell'=true/\(d.dW=false->bj F d u)/\∀ dp w' rows',d= .own dp w' rows'->HT F w dp w' rows' u (Sub r k)
 apart:∀ r k r' k' b o,(r≠r'\/k≠k')->Sub r k b o->¬ Sub r' k' b o
theorem AW :Part C F w wd [] a 0 R (fun _ _ _ _=>False):=⟨by simp,al _,.inl rfl,fun _ _ _ _ _ _ _ h=>h.elim⟩
theorem uw (hr:Rel C e F g w) {off len:Nat} (hi:g i=some (.oa wd rows)) (hW:e i=some W) (hv:cj e F (.arr i off len) v) :
  ∃ a cap Sub,v= .slice a len cap/\((rows.drop off).take len).length=len/\Part C F w wd ((rows.drop off).take len) a cap (InW W) Sub/\∀ r k b o,Sub r k b o->F.H i b o:=by
 have h:=hr.obj hi hW;obtain ⟨W',a,cap,hW',rfl,hn,hlc,hcap⟩:=hv;rw [hW] at hW';cases hW';have hwd:=h.wo _ _ rfl;have hlen:((rows.drop off).take len).length=len:=by rw [bh,bD];omega
 have hget:∀ (r k:Nat) d,(((rows.drop off).take len)[r]?.bind (·[k]?))=some d->(rows[off+r]?.bind (·[k]?))=some d:=by
  grind
 obtain ⟨Sub,s1,s2,s3⟩:=(Hid.plain (x:= .oa wd rows) rfl).1 h.hid;refine ⟨a,cap,fun r k=>Sub (off+r) k,rfl,hlen,⟨fun row hr=>hwd.2.2 row (br (cw hr)),by omega,?_,fun r k r' k' b o hne h1=>s2 _ _ _ _ b o (by omega) h1⟩,fun r k b o hh=>(s1 _ _ b o hh).1⟩;rcases hcap with h0 | ⟨rfl,hcap⟩
 ·exact .inl h0
 ·refine .inr ⟨W.b,W.base+off * W.wd,rfl,h.ng,fun q hq=>?_,fun r k d hd=>?_⟩
  ·have h6:(off+cap) * W.wd=off * W.wd+cap * wd:=by rw [bK,hwd.1]
   have:=h.own rfl (off * W.wd+q) (by omega);rw [show W.base+(off * W.wd+q)=W.base+off * W.wd+q by omega] at this;exact ⟨⟨rfl,by omega,by omega⟩,this⟩
  ·have hd':=hget r k d hd;have hc:(O.oa wd rows).cell (off+r) k=some d.toV:=by simp only [O.cell,hd',aS]
   have hadr:W.base+(off+r) * W.wd+k=W.base+off * W.wd+r * wd+k:=by rw [hwd.1,bK];omega
   cases hdo:d.dW with
   | false =>
    have hv:d.toV= .d d:=by cases d<;>first | rfl | cases hdo
    rw [hv] at hc;obtain ⟨u,h1,h2⟩:=h.cells _ _ _ hc (.inr rfl);rw [hadr] at h1;exact ⟨u,h1,cj.one h2,fun _=>h2,fun dp w' rows' hd2=>by rw [hd2] at hdo;cases hdo⟩
   | true =>
    cases d with
    | own dp w' rows' =>
     obtain ⟨u,h1,h2⟩:=s3 _ _ dp w' rows' hc;rw [hadr] at h1;exact ⟨u,h1,h2.one,nofun,fun _ _ _ hd2=>by cases hd2;exact h2⟩
    | _=>cases hdo
theorem DI (hw:wd≠0) (u:∀ row∈rows,row.length=wd) {q:Nat} (hq:q < rows.length * wd):∃ d,(rows[q / wd]?.bind (·[q % wd]?))=some d/\q / wd * wd+q % wd=q:=by
 have h0:0 < wd:=Nat.pos_of_ne_zero hw;have h1:q / wd < rows.length:=by rw [Nat.div_lt_iff_lt_mul h0];exact hq
 have h2:q % wd < wd:=Nat.mod_lt _ h0;simp_all [bQ,aa,Nat.mul_comm,Nat.div_add_mod]
theorem Part.Fi (h:Part C F w wd rows a cap R Sub) (hw:wd≠0) :
  ∃ us:List Value,us.length=rows.length * wd/\(rows.length=0\/∃ b p,a=some ⟨b,p,none⟩/\∀ (j:Nat) v,us[j]?=some v->w.cell? ⟨b,p+j,none⟩=some v)/\(∀ v∈us,v.oneCell'=true) /\
   ∀ (r k:Nat) d,(rows[r]?.bind (·[k]?))=some d->∃ u,us[r * wd+k]?=some u/\(d.dW=false->bj F d u)/\∀ dp w' rows',d= .own dp w' rows'->HT F w dp w' rows' u (Sub r k):=by
 rcases h.Eb with h0 | ⟨b,p,rfl,_,_,hc⟩
 ·have:rows=[]:=by have:=h.le;exact cI.1 (by omega)
  simp_all
 ·have hfl:∀ q,q < rows.length * wd->∃ u,w.cell? ⟨b,p+q,none⟩=some u/\u.oneCell'=true:=by
   intro q hq;obtain ⟨d,h1,h2⟩:=DI hw h.uni hq;obtain ⟨u,h3,h4,_⟩:=hc _ _ _ h1
   grind
  have hget:=j8 (w:=w) (b:=b) (p:=p) (n:=rows.length * wd) fun q hq=>by obtain ⟨u,h3,_⟩:=hfl q hq;rw [h3];rfl
  refine ⟨iB w b p (rows.length * wd),fT _ _ _ _,.inr ⟨b,p,rfl,hget⟩,fun v hv=>?_,fun r k d hd=>?_⟩
  ·obtain ⟨q,hq⟩:=List.mem_iff_getElem?.1 hv;have hq':q < rows.length * wd:=by rw [<- fT w b p (rows.length * wd)];exact (af.1 hq).1
   grind
  ·obtain ⟨u,h3,_,h4⟩:=hc r k d hd;have hrk:=mw h.uni hd;exact ⟨u,nv (oW hrk.1 hrk.2) (by rw [<- h3,cS]),h4⟩
theorem xL (uni:∀ row∈rows,row.length=wd) (hcap:rows.length<=cap) (hng:C.ng<=b)
  (hroom:∀ q,q < cap * wd->(w.cell? ⟨b,p+q,none⟩).isSome=true/\w.frozen? ⟨b,p+q,none⟩=false)
  (hc:∀ (r k:Nat) d,(rows[r]?.bind (·[k]?))=some d->∃ u,w.cell? ⟨b,p+r * wd+k,none⟩=some u/\(d.dW=false->bj F d u)/\∀ dp w' rows',d= .own dp w' rows'->HT F w dp w' rows' u (Sub r k))
  (hs:∀ r k b' o,Sub r k b' o->S b' o) (ha:∀ r k r' k' b o,(r≠r'\/k≠k')->Sub r k b o->¬ Sub r' k' b o) (hS:∀ b' o,S b' o->C.ng<=b'/\(w.cell? ⟨b',o,none⟩).isSome=true/\w.frozen? ⟨b',o,none⟩=false)
  (hSW:∀ b' o,S b' o->¬ (b'=b/\p<=o/\o < p+cap * wd)):lA C e F w S (.oa wd rows) ⟨b,p,cap * wd,wd,rows.length⟩:=by
 have hcell:∀ r k c,(O.oa wd rows).cell r k=some c->∃ d,(rows[r]?.bind (·[k]?))=some d/\c=d.toV:=by
  grind [O.cell,Option.map_eq_some_iff]
 refine ⟨hng,fun r k c h=>?_,fun r k c h hoc=>?_,fun _ k hk=>hroom k hk,nofun,nofun,nofun,fun v rows' h=>?_,?_,hS,fun b' o h1 h2=>hSW b' o h1 h2.2⟩
 ·obtain ⟨d,h1,_⟩:=hcell r k c h;have:=mw uni h1;exact ⟨this.2,oW (by omega) this.2⟩
 ·obtain ⟨d,h1,rfl⟩:=hcell r k c h;obtain ⟨h2,h3⟩:=ml.1 (hoc.resolve_left (by simp [O.dU]));obtain ⟨u,h4,h5,_⟩:=hc r k d h1;refine ⟨u,h4,?_⟩;rw [h3];exact h5 h2
 ·cases h;exact ⟨rfl,rfl,uni⟩
 ·rw [Hid.plain rfl];refine ⟨Sub,fun r k b' o h=>⟨hs r k b' o h,hSW b' o (hs r k b' o h)⟩,ha,fun r k dp w' rows' h=>?_⟩;obtain ⟨d,h1,h2⟩:=hcell r k _ h;obtain ⟨u,h4,_,h5⟩:=hc r k d h1;exact ⟨u,h4,h5 _ _ _ (ml.2 _ _ _ h2.symm)⟩
section
variable {C:Ctx} {e:Emb} {F:Fz} {g:Sto} {w:World} {nx:Nat}
theorem FB (hu:C.P.underlying t=some (.slice el)) (hi:C.P.info? el=some inf) (hz:inf.zero=some z) (hs:inf.size=wd) (hw:wd≠0) (hzs:z.cells.size=wd) (hby:inf.bytes<=65536)
  (hr:Rel C e F g w) {rows1 rows2:List (List D)} {c1 c2:Nat} {R1 R2:Nat->Nat->Prop} {Sub1 Sub2:Nat->Nat->Nat->Nat->Prop} (p1:Part C F w wd rows1 a1 c1 R1 Sub1) (p2:Part C F w wd rows2 a2 c2 R2 Sub2) (T0:Nat->Prop) (H1 H2:Nat->Nat->Prop)
  (dY:∀ b o,(R1 b o\/H1 b o\/H2 b o)->∃ k x W,T0 k/\g k=some x/\e k=some W/\(InR x W b o\/F.H k b o)) (s1:∀ r k b o,Sub1 r k b o->H1 b o) (s2:∀ r k b o,Sub2 r k b o->H2 b o)
  (d1:∀ b o,R1 b o->¬ H1 b o) (d2:∀ b o,R1 b o->¬ H2 b o) (d3:∀ b o,H1 b o->¬ H2 b o) (hH:∀ b o,(H1 b o\/H2 b o)->C.ng<=b/\(w.cell? ⟨b,o,none⟩).isSome=true/\w.frozen? ⟨b,o,none⟩=false)
  (hnx:e nx=none) (hT:¬ T0 nx) (hmax:rows1.length+rows2.length<=1073741824) (ty:TypeId) (g':Sto) (hg1:g' nx=some (.oa wd (rows1++rows2))) (hg2:∀ k,k≠nx->∀ x,g' k=some x->g k=some x/\¬ T0 k) :
  ∃ y w',(Builtin.append_ #[t,t] ty #[.slice a1 rows1.length c1,.slice a2 rows2.length c2]).run C.P w= .ok y w'/\Res C e F g w nx 1 (.arr nx 0 (rows1.length+rows2.length)) g' y w':=by
 obtain ⟨olds,hol,ho,_,hoc⟩:=p1.Fi hw;obtain ⟨news,hnl,hnn,hone,hnc⟩:=p2.Fi hw;have huni:∀ row∈rows1++rows2,row.length=wd:=nE p1.uni p2.uni;have hroom:c1=0\/∃ b p,a1=some ⟨b,p,none⟩/\∀ q,q < (c1 - rows1.length) * wd->(w.cell? ⟨b,p+rows1.length * wd+q,none⟩).isSome=true/\w.frozen? ⟨b,p+rows1.length * wd+q,none⟩=false:=by
  rcases p1.Eb with h0 | ⟨b,p,rfl,_,h,_⟩
  ·exact .inl h0
  ·refine .inr ⟨b,p,rfl,fun q hq=>?_⟩;have h5:rows1.length * wd+(c1 - rows1.length) * wd=c1 * wd:=by rw [<- bK];congr 1;have:=p1.le;omega
   have:=(h (rows1.length * wd+q) (by omega)).2
   rwa [<- cS] at this
 let Sub:Nat->Nat->Nat->Nat->Prop:=fun r k b o=>if r < rows1.length then Sub1 r k b o else Sub2 (r - rows1.length) k b o
 let S:Nat->Nat->Prop:=fun b o=>H1 b o\/H2 b o
 have hSub:∀ r k b o,Sub r k b o->S b o:=by
  intro r k b o h;simp only [Sub] at h;split at h
  ·exact .inl (s1 _ _ _ _ h)
  ·exact .inr (s2 _ _ _ _ h)
 have hap:∀ r k r' k' b o,(r≠r'\/k≠k')->Sub r k b o->¬ Sub r' k' b o:=by
  intro r k r' k' b o hne h h';simp only [Sub] at h h';split at h<;>split at h'
  ·exact p1.apart _ _ _ _ b o hne h h'
  ·exact d3 b o (s1 _ _ _ _ h) (s2 _ _ _ _ h')
  ·exact d3 b o (s1 _ _ _ _ h') (s2 _ _ _ _ h)
  ·exact p2.apart _ _ _ _ b o (by omega) h h'
 have hall:∀ (r k:Nat) d,((rows1++rows2)[r]?.bind (·[k]?))=some d->r * wd+k < (rows1.length+rows2.length) * wd/\∃ u,(olds++news)[r * wd+k]?=some u/\(d.dW=false->bj F d u)/\∀ dp w' rows',d= .own dp w' rows'->HT F w dp w' rows' u (Sub r k):=by
  intro r k d hd;have hrk:=mw huni hd;rw [aH] at hrk;refine ⟨oW hrk.1 hrk.2,?_⟩;rw [ow] at hd;split at hd
  ·rename_i hlt;obtain ⟨u,h3,h4,h5⟩:=hoc r k d hd;refine ⟨u,by rw [bU (af.1 h3).1];exact h3,h4,fun dp w' rows' h=>?_⟩;have:=h5 dp w' rows' h;simp only [Sub,aj hlt];exact this
  ·rename_i hlt;obtain ⟨u,h3,h4,h5⟩:=hnc _ k d hd;refine ⟨u,?_,h4,fun dp w' rows' h=>?_⟩
   ·have hidx:r * wd+k=olds.length+((r - rows1.length) * wd+k):=by
     rw [hol,<- cS,<- bK];congr 2;omega
    rw [hidx,cx (by omega),Nat.add_sub_cancel_left];exact h3
   ·have:=h5 dp w' rows' h;simp only [Sub,ab hlt];exact this
 have hgnx:=hr.free hnx;have fin:∀ (W:Win) (w':World) (S0:Nat->Nat->Prop) (y:Value),b9 S0 w w'->(∀ b o,S0 b o->R1 b o)->(∀ b o,S0 b o->C.ng<=b)->(∀ b o,S0 b o->(w.cell? ⟨b,o,none⟩).isSome=true)->lA C (fun k=>if k=nx then some W else e k) (F.ke nx S) w' S (.oa wd (rows1++rows2)) W ->
   (∀ b o,InW W b o->R1 b o\/w.heap.size<=b)->cj (fun k=>if k=nx then some W else e k) F (.arr nx 0 (rows1.length+rows2.length)) y->Res C e F g w nx 1 (.arr nx 0 (rows1.length+rows2.length)) g' y w':=by
  intro W w' S0 y hup hS0 hS1 hS2 hob hW hv;have hle:Emb.le e (fun k=>if k=nx then some W else e k):=fun k W' hk=>by
   by_cases h:k=nx
   ·subst h;rw [hnx] at hk;cases hk
   ·simp [h,hk]
  refine Res.Fj hr (e':=fun k=>if k=nx then some W else e k) (F':=F.ke nx S) (fun k=>k=nx\/T0 k) hup (fun b hb o h=>by have:=hS1 b o h;omega) hle (fun k hk=>?_) rfl ?_ ?_ ?_ ?_ ?_ (cj.mono (fun _ _ h=>h) (fX F nx S) hv)
  ·have:k≠nx:=by omega
   simp [this]
  ·intro k x hk ht;have hne:k≠nx:=fun h=>ht (.inl h)
   exact ⟨(hg2 k hne x hk).1,fW F S hne⟩
  ·intro k x hk ht;by_cases hne:k=nx
   ·subst hne;rw [hg1] at hk;cases hk;refine ⟨W,by simp,?_⟩;rw [er];exact hob
   ·exact absurd (ht.resolve_left hne) (hg2 k hne x hk).2
  ·intro b o h;refine ⟨hS2 b o h,?_⟩;obtain ⟨k,x,W0,q1,q2,q3,q4⟩:=dY b o (.inl (hS0 b o h));exact ⟨k,x,W0,.inr q1,q2,q3,q4⟩
  ·intro k x Wk ht hk hek b o hh;by_cases hne:k=nx
   ·subst hne;rw [hg1] at hk;cases hk;simp only [bo] at hek;cases hek;rw [er] at hh;have up:∀ b o,(R1 b o\/H1 b o\/H2 b o)->∃ i0 x0 W0,(i0=k\/T0 i0)/\g i0=some x0/\e i0=some W0/\(InR x0 W0 b o\/F.H i0 b o):=fun b o h=>by
     obtain ⟨k,x,W0,q1,q2,q3,q4⟩:=dY b o h;exact ⟨k,x,W0,.inr q1,q2,q3,q4⟩
    rcases hh with hh | hh
    ·rcases hW b o hh.2 with h | h
     ·exact .inl (up b o (.inl h))
     ·exact .inr h
    ·exact .inl (up b o (.inr hh))
   ·exact absurd (ht.resolve_left hne) (hg2 k hne x hk).2
  ·intro k x Wk k' x' Wk' ht ht' hne hk hek hk' hek';by_cases h:k=nx
   ·have h':k'≠nx:=fun q=>hne (h.trans q.symm)
    exact absurd (ht'.resolve_left h') (hg2 k' h' x' hk').2
   ·exact absurd (ht.resolve_left h) (hg2 k h x hk).2
 obtain ⟨y,w',hrun,hcase⟩:=ss (P:=C.P) hu hi hz hs hzs hby p1.le hmax w olds news hol hnl ho hnn hone hroom ty;refine ⟨y,w',hrun,?_⟩;rcases hcase with ⟨rfl,hz1,hz2,rfl,rfl⟩ | ⟨hle,hpos,rfl,b,p,hab,rfl⟩ | ⟨hlt,cap,rest,hcap,hrest,rfl,rfl⟩
 ·
  have e1:rows1=[]:=cI.1 hz1;have e2:rows2=[]:=cI.1 hz2;subst e1;subst e2;refine fin ⟨C.ng,0,0,wd,0⟩ w' (fun _ _=>False) _ (b9.refl _ _) (fun _ _ h=>h.elim) (fun _ _ h=>h.elim) (fun _ _ h=>h.elim) ?_ ?_ ⟨⟨C.ng,0,0,wd,0⟩,a1,0,by simp,rfl,by simp,by simp,.inl rfl⟩
  ·have:=xL (C:=C) (e:=fun k=>if k=nx then some ⟨C.ng,0,0,wd,0⟩ else e k) (F:=F.ke nx S) (w:=w') (wd:=wd) (cap:=0) (b:=C.ng) (p:=0) (rows:=[]) (Sub:=fun _ _ _ _=>False) (S:=S) (by simp) (al _) (al _) (fun q hq=>by omega) (fun r k d hd=>by simp at hd) (fun _ _ _ _ h=>h.elim) (fun _ _ _ _ _ _ _ h=>h.elim) hH (fun b' o _ h=>by omega);simpa using this
  ·rintro b o ⟨_,h1,h2⟩
   dsimp only at h1 h2;omega
 ·
  rcases p1.Eb with h0 | ⟨b',p',hb',hng,hrm,hc1⟩
  ·omega
  ·rw [hab] at hb';simp only [aw,Addr.mk.injEq,and_true] at hb';obtain ⟨rfl,rfl⟩:=hb';have h5:(rows1.length+rows2.length) * wd<=c1 * wd:=bw wd hle;rw [bK] at h5;have hup:=b9.setCells b news (p+rows1.length * wd) w;have hin:∀ b' o,(b'=b/\p+rows1.length * wd<=o/\o < p+rows1.length * wd+news.length)->R1 b' o/\(w.cell? ⟨b',o,none⟩).isSome=true:=by
    rintro b' o ⟨rfl,h7,h8⟩
    have:=hrm (o - p) (by omega);rw [show p+(o - p)=o by omega] at this;exact ⟨this.1,this.2.1⟩
   have hsome:∀ j,j < news.length->(w.cell? ⟨b,p+rows1.length * wd+j,none⟩).isSome=true:=fun j hj=>(hin b _ ⟨rfl,by omega,by omega⟩).2
   have hSn:∀ b' o,S b' o->¬ (b'=b/\p<=o/\o < p+c1 * wd):=by
    rintro b' o hh ⟨rfl,h7,h8⟩
    have:=(hrm (o - p) (by omega)).1;rw [show p+(o - p)=o by omega] at this;exact hh.elim (d1 _ _ this) (d2 _ _ this)
   refine fin ⟨b,p,c1 * wd,wd,(rows1++rows2).length⟩ _ _ _ hup (fun b' o h=>(hin b' o h).1) (fun b' o h=>by rw [h.1];exact hng) (fun b' o h=>(hin b' o h).2) ?_ ?_ ⟨⟨b,p,c1 * wd,wd,(rows1++rows2).length⟩,a1,c1,by simp,rfl,by simp,hle,.inr ⟨by rw [hab];simp,by simp⟩⟩
   ·refine xL (Sub:=Sub) huni (by simpa using hle) hng (fun q hq=>?_) (fun r k d hd=>?_) hSub hap (fun b' o hh=>?_) hSn
    ·have:=(hrm q hq).2;exact ⟨World.isSome_setCells _ _ _ _ _ this.1,by rw [World.frozen?_setCells];exact this.2⟩
    ·obtain ⟨hlt,u,h1,h2,h3⟩:=hall r k d hd;refine ⟨u,?_,fun h=>bj.mono (fX F nx S) (h2 h),fun dp w' rows' h=>(h3 dp w' rows' h).mono (fX F nx S) hup fun b' o ht hs'=>hSn b' o (hSub _ _ _ _ hs') ⟨ht.1,by omega,by omega⟩⟩;by_cases hlo:r * wd+k < olds.length
     ·rw [bU hlo] at h1;rw [World.cell?_setCells_out]
      ·have:=ho;rcases ho with h0 | ⟨b2,p2',hb2,hcell⟩
       ·rw [h0] at hol;omega
       ·rw [hab] at hb2;simp only [aw,Addr.mk.injEq,and_true] at hb2;obtain ⟨rfl,rfl⟩:=hb2;have:=hcell _ _ h1
        rwa [<- cS] at this
      ·intro _ _;left;show p+r * wd+k < p+rows1.length * wd;omega
     ·rw [cx (by omega)] at h1;have hlt':=(af.1 h1).1;have:=World.cell?_setCells_in b news (p+rows1.length * wd) w hsome _ hlt';rw [show p+rows1.length * wd+(r * wd+k - olds.length)=p+r * wd+k by omega] at this;rw [this,<- h1,aa hlt']
    ·have:=hH b' o hh;refine ⟨this.1,?_,?_⟩
     ·exact World.isSome_setCells _ _ _ _ _ this.2.1
     ·rw [World.frozen?_setCells];exact this.2.2
   ·rintro b' o ⟨rfl,h7,h8⟩
    dsimp only at h7 h8;have:=(hrm (o - p) (by omega)).1;rw [show p+(o - p)=o by omega] at this;exact .inl this
 ·
  have hup0:b9 (fun _ _=>False) w w.drew:=b9.drew w;generalize hcs:olds.toArray++news.toArray++rest=cs;have hup1:=b9.alloc w.drew (.cells cs el (0,0));have hup:b9 (fun _ _=>False) w (w.drew.alloc (.cells cs el (0,0))):=hup0.trans hup1 (fun _ _ _ h=>h);have hsz:w.drew.heap.size=w.heap.size:=rfl;have hcsz:cs.size=cap * wd:=by
   have h5:(rows1.length+rows2.length) * wd+(cap - (rows1.length+rows2.length)) * wd=cap * wd:=by rw [<- bK];congr 1;omega
   rw [<- hcs];simp only [Array.size_append,List.size_toArray,hol,hnl,hrest];rw [bK] at h5;omega
  have hnew:∀ q,(w.drew.alloc (.cells cs el (0,0))).cell? ⟨w.heap.size,q,none⟩=cs[q]?:=fun q=>by rw [<- hsz];exact oh _ _ _ _ _
  refine fin ⟨w.heap.size,0,cap * wd,wd,(rows1++rows2).length⟩ _ _ _ hup (fun _ _ h=>h.elim) (fun _ _ h=>h.elim) (fun _ _ h=>h.elim) ?_ ?_ ⟨⟨w.heap.size,0,cap * wd,wd,(rows1++rows2).length⟩,_,cap,by simp,rfl,by simp,by omega,.inr ⟨by simp,by simp⟩⟩
  ·refine xL (Sub:=Sub) huni (by simpa using hcap) hr.ng (fun q hq=>?_) (fun r k d hd=>?_) hSub hap (fun b' o hh=>?_) ?_
   ·rw [aW,hnew];refine ⟨?_,?_⟩
    ·rw [dL (by omega)];rfl
    ·rw [<- hsz];exact rH _ _ _ _
   ·obtain ⟨hlt,u,h1,h2,h3⟩:=hall r k d hd;refine ⟨u,?_,fun h=>bj.mono (fX F nx S) (h2 h),fun dp w' rows' h=>(h3 dp w' rows' h).mono (fX F nx S) hup fun _ _ h=>h.elim⟩;rw [aW,hnew,<- hcs,Array.getElem?_append_left (by simpa using (af.1 h1).1)];simpa using h1
   ·have:=hH b' o hh;refine ⟨this.1,?_,?_⟩
    ·rw [hup.cell _ _ (df this.2.1) (fun h=>h)];exact this.2.1
    ·rw [hup.frz _ _ (df this.2.1)];exact this.2.2
   ·rintro b' o hh ⟨rfl,_,_⟩
    have:=df (hH _ o hh).2.1;omega
  ·rintro b' o ⟨rfl,_,_⟩
   exact .inr (al _)
theorem Res.then {g1 g2:Sto} {v:V} {y:Value} (h0:Emb.le e e') (h1:∀ i,(i < nx\/nx+0<=i)->e' i=e i) (h2:Fz.le F F') (hr:Rel C e' F' g1 w) (h3:∀ b o,Own e' F' g1 b o->Own e F g b o\/w.heap.size<=b) (h4:∀ b o u,F' b o=some u->(∃ u',F b o=some u')\/Own e F g b o\/w.heap.size<=b)
  (h:Res C e' F' g1 w nx n v g2 y w'):Res C e F g w nx n v g2 y w':=by
 obtain ⟨e2,F2,q1,q2,q3,q4,q5,q6,q7,q8⟩:=h;have ho:∀ b o,Own e' F' g1 b o->Own e F g b o:=fun b o hh=>(h3 b o hh).resolve_right (fun hb=>by have:=hr.jL hh;omega)
 refine ⟨e2,F2,fun i W hi=>q1 i W (h0 i W hi),fun i hi=>(q2 i hi).trans (h1 i (by omega)),fun b o u hu=>q3 b o u (h2 b o u hu),q4,q5,q6.mono ho,fun b o hh=>(q7 b o hh).imp (ho b o) id,fun b o u hu=>?_⟩;rcases q8 b o u hu with ⟨u',hh⟩ | hh | hh
 ·exact h4 b o u' hh
 ·exact .inr (.inl (ho b o hh))
 ·exact .inr (.inr hh)
theorem AO {o:Oper} {ws:List (Option (Bool×Nat))} (ho:∃ c,o.op= .call c/\c.callee= .builtin .append/\c.args=#[x,y]/\c.argTypes=#[t,t]) (hu:C.P.underlying t=some (.slice el)) (hi:C.P.info? el=some inf) (hz:inf.zero=some z)
  (hs:inf.size=wd) (hw:wd≠0) (hzs:z.cells.size=wd) (hby:inf.bytes<=65536) (hx:okA x x'=true) (hy:okA y y'=true) (hk:wpR C σ nx K (sem (.yj wd x' y' ws) fr σ nx)):∃ eff,K eff/\Good C o fr nx eff:=by
 obtain ⟨c,ho,hc,ha,hat⟩:=ho;have exec:∀ (a:Act) (w:World) (y2:Value) (w':World),(Builtin.append_ #[t,t] o.type #[a.eval x,a.eval y]).run C.P w= .ok y2 w'->(execOp a.eval o).run C.P w= .ok (.value y2) w':=by
  intro a w y2 w' hrun;simp [execOp,ho,resolve,hc,invoke,builtin,ha,hat,ax,hrun]
 simp only [sem] at hk;split at hk
 ·rename_i j n hxv hyv;split at hk
  ·rename_i w' rows hl;split at hk
   ·rename_i hb;have:=aN hb;subst this;obtain ⟨⟨hn,hmax⟩,hk⟩:=hk;refine ⟨_,hk,Good.fl fun e F g w a hf hr hrd hfr=>?_⟩;have hnx:=hfr nx (al _) (Nat.lt_succ_self _);have hgj:g j=some (.oa wd rows):=hrd (j,.oa wd rows) (by simp);obtain ⟨W,hW,_⟩:=hr.dom j _ hgj;have hv1:=aO hx hf;have hv2:=aO hy hf;rw [hxv] at hv1;rw [hyv] at hv2;obtain ⟨a1,e1⟩:=bj.iQ hv1;obtain ⟨a2,c2,Sub2,e2,hlen,p2,s2⟩:=uw hr hgj hW hv2;have hrows:(rows.drop 0).take n=rows:=by rw [aq,hn,b8]
    rw [hrows] at p2;have hob:=hr.obj hgj hW;obtain ⟨y2,w2,hrun,hres⟩:=FB (C:=C) (e:=e) (F:=F) (g:=g) (w:=w) (nx:=nx) hu hi hz hs hw hzs hby hr (AW (a:=a1) (R:=fun _ _=>False)) p2 (fun k=>k=j) (fun _ _=>False) (F.H j)
     (fun b o h=>by
      rcases h with h | h | h
      ·exact h.elim
      ·exact h.elim
      ·exact ⟨j,_,W,rfl,hgj,hW,.inr h⟩) (fun _ _ _ _ h=>h) s2 (fun _ _ h=>h.elim) (fun _ _ h=>h.elim) (fun _ _ h=>h.elim) (fun b o h=>hob.dY b o (h.resolve_left id)) hnx (fun h=>by rw [h] at hnx;rw [hnx] at hW;cases hW) (by simp;omega) o.type
     (upd (upd g j none) nx (some (.oa wd rows))) (by simp [upd]) (fun k hk x hx=>by
      simp only [upd,hk,aV] at hx;split at hx
      ·cases hx
      ·rename_i h;exact ⟨hx,h⟩)
    refine ⟨y2,w2,exec a w y2 w2 ?_,?_⟩
    ·rw [e1,e2,hn];exact hrun
    ·simp only [c6,aW] at hres;rw [hn];exact hres
   ·exact hk.elim
  ·exact hk.elim
 ·rename_i i off len j hxv hyv;split at hk
  ·rename_i w1 rows1 w2 row hl1 hl2;split at hk
   ·rename_i ds mv hb hpk;split at hk
    ·rename_i hd;obtain ⟨hmax,hk⟩:=hk;simp only [ag] at hb;have e1:=aN hb.1;have e2:=aN hb.2;subst e1;subst e2;refine ⟨_,hk,Good.fl fun e F g w a hf hr hrd hfr=>?_⟩;have hnx:=hfr nx (al _) (Nat.lt_succ_self _);have hgi:g i=some (.oa wd rows1):=hrd (i,.oa wd rows1) (by simp);have hgj:g j=some (.va wd [row]):=hrd (j,.va wd [row]) (by simp);have hgm:∀ p∈mv,g p.1=some p.2:=fun p hp=>hrd p (by simp [hp])
     have hv1:=aO hx hf;have hv2:=aO hy hf;rw [hxv] at hv1;rw [hyv] at hv2;have hij:i≠j:=fun h=>jR (l:=[i]) hd i (by simp) (by simp [h])
     have him:¬ i∈mv.map (·.1):=fun h=>jR (l:=[i]) hd i (by simp) (aM _ h)
     have hdj:kG (j::mv.map (·.1))=true:=mD (l:=[i]) hd;have hjm:¬ j∈mv.map (·.1):=fun h=>jR (l:=[j]) hdj j (by simp) h
     obtain ⟨e',F',q1,q2,q3,_,hr1,_,q7,q8⟩:=vZ (nx:=nx) hr hgj hpk hgm hdj (v:= .un) (x:= .nilIface) trivial;generalize hg1:cH g (mv.map (fun p=>(p.1,none))++[(j,some (.oa wd [ds]))])=g1 at hr1 q7;have hg1v:∀ k,g1 k=if k=j then some (.oa wd [ds]) else if k∈mv.map (·.1) then none else g k:=by
      intro k;rw [<- hg1,jK];simp only [cH,upd]
     have h1i:g1 i=some (.oa wd rows1):=by rw [hg1v,ab hij,ab him,hgi]
     have h1j:g1 j=some (.oa wd [ds]):=by rw [hg1v,aj rfl]
     obtain ⟨Wi,hWi,_⟩:=hr1.dom i _ h1i;obtain ⟨Wj,hWj,_⟩:=hr1.dom j _ h1j;obtain ⟨a1,c1,Sub1,f1,hlen1,p1,s1⟩:=uw hr1 h1i hWi (cj.mono q1 q3 hv1);obtain ⟨a2,c2,Sub2,f2,hlen2,p2,s2⟩:=uw hr1 h1j hWj (cj.mono q1 q3 hv2);have hobi:=hr1.obj h1i hWi;have hobj:=hr1.obj h1j hWj;have hnx':e' nx=none:=by rw [q2 nx (by omega)];exact hnx
     have hsep:∀ b o,(InW Wi b o\/F'.H i b o)->¬ F'.H j b o:=fun b o h h'=>hr1.sep h1i hWi h1j hWj hij (h.imp (fun h=>⟨rfl,h⟩) id) (.inr h')
     rw [show List.take 1 (List.drop 0 [ds])=[ds] from rfl] at p2;have hTx:¬ (nx=i\/nx=j):=by
      rintro (h | h)
      ·rw [h] at hnx';rw [hnx'] at hWi;cases hWi
      ·rw [h] at hnx';rw [hnx'] at hWj;cases hWj
     obtain ⟨y2,w2,hrun,hres⟩:=FB (C:=C) (e:=e') (F:=F') (g:=g1) (w:=w) (nx:=nx) hu hi hz hs hw hzs hby hr1 p1 p2 (fun k=>k=i\/k=j) (F'.H i) (F'.H j)
      (fun b o h=>by
       rcases h with h | h | h
       ·exact ⟨i,_,Wi,.inl rfl,h1i,hWi,.inl ⟨rfl,h⟩⟩
       ·exact ⟨i,_,Wi,.inl rfl,h1i,hWi,.inr h⟩
       ·exact ⟨j,_,Wj,.inr rfl,h1j,hWj,.inr h⟩) s1 s2 (fun b o h h'=>hobi.hsw b o h' ⟨rfl,h⟩) (fun b o h=>hsep b o (.inl h)) (fun b o h=>hsep b o (.inr h)) (fun b o h=>h.elim (hobi.dY b o) (hobj.dY b o)) hnx' hTx (by rw [hlen1];simpa using hmax) o.type
      (cH g (mv.map (fun p=>(p.1,none))++[(i,none),(j,none),(nx,some (.oa wd ((rows1.drop off).take len++[ds])))])) (by rw [jK];simp [cH,upd]) (fun k hk x hx=>by
       rw [jK] at hx;simp only [cH,upd,ab hk] at hx;split at hx
       ·cases hx
       ·rename_i hkj;split at hx
        ·cases hx
        ·rename_i hki;split at hx
         ·cases hx
         ·rename_i hkm;refine ⟨?_,fun h=>h.elim hki hkj⟩;rw [hg1v,ab hkj,ab hkm];exact hx)
     refine ⟨y2,w2,exec a w y2 w2 ?_,?_⟩
     ·rw [f1,f2];rw [hlen1] at hrun;exact hrun
     ·rw [hlen1] at hres
      grind [Res.then]
    ·exact hk.elim
   ·exact hk.elim
  ·exact hk.elim
 ·exact hk.elim
theorem BU (hu:P.underlying t=some (.slice el)) (hi:P.info? el=some inf) (hs:inf.size=wd) (w:World) (news:List Value) (hnl:news.length=min dLen sLen * wd)
  (hsrc:∃ b2 p2,a2=some ⟨b2,p2,none⟩/\∀ (j:Nat) v,news[j]?=some v->w.cell? ⟨b2,p2+j,none⟩=some v) (hone:∀ v∈news,v.oneCell'=true) (hroom:∀ q,q < news.length->(w.cell? ⟨b,p+q,none⟩).isSome=true/\w.frozen? ⟨b,p+q,none⟩=false) (ty:TypeId) :
  (Builtin.copy_ #[t,t'] ty #[.slice (some ⟨b,p,none⟩) dLen dCap,.slice a2 sLen sCap]).run P w= .ok (goInt (min dLen sLen:Nat)) (w.setCells b p news):=by
 obtain ⟨b2,p2,rfl,hcell⟩:=hsrc;have hmin:Nat.min sLen dLen=min dLen sLen:=Nat.min_comm _ _;have hf:=run_firstCells_some (P:=P) w wd (min dLen sLen) ⟨b2,p2,none⟩ sLen sCap news hnl (fun j v hv=>by rw [Addr.add_mid];exact hcell j v hv);have hst:=run_storeCells_cells (P:=P) b p news 0 w (fun j hj=>by simpa using (hroom j hj).1) (fun j hj=>by simpa using (hroom j hj).2) hone;simp only [cr] at hst;simp [Builtin.copy_,run_underlying hu,sizeOf,typeInfo,hi,hs,Builtin.lenOf,hmin,hf,ax,hst]
theorem z8 (hu:P.underlying t=some (.slice el)) (hi:P.info? el=some inf) (hs:inf.size=wd) (w:World) (hn:min dLen sLen=0) (ty:TypeId) :
  (Builtin.copy_ #[t,t'] ty #[.slice a1 dLen dCap,.slice a2 sLen sCap]).run P w= .ok (goInt 0) w:=by
 have hmin:Nat.min sLen dLen=0:=(Nat.min_comm _ _).trans hn;have hl:∀ (x:Addr),(loadCells x 0).run P w= .ok #[] w:=fun x=>by simpa using run_loadCells_list (P:=P) w x [] (by simp)
 cases a1<;>cases a2<;>simp [Builtin.copy_,run_underlying hu,Builtin.lenOf,Builtin.firstCells,sizeOf,typeInfo,hi,hs,hmin,storeCells,hl,ax]
theorem CJ {o:Oper} (ho:∃ c,o.op= .call c/\c.callee= .builtin .copy/\c.args=#[x,y]/\c.argTypes=#[t,t']) (hu:C.P.underlying t=some (.slice el)) (hi:C.P.info? el=some inf)
  (hs:inf.size=wd) (hw:wd≠0) (hx:okA x x'=true) (hy:okA y y'=true) (hk:wpR C σ nx K (sem (.cpy wd x' y') fr σ nx)):∃ eff,K eff/\Good C o fr nx eff:=by
 obtain ⟨c,ho,hc,ha,hat⟩:=ho;have exec:∀ (a:Act) (w:World) (y2:Value) (w':World),(Builtin.copy_ #[t,t'] o.type #[a.eval x,a.eval y]).run C.P w= .ok y2 w'->(execOp a.eval o).run C.P w= .ok (.value y2) w':=by
  intro a w y2 w' hrun;simp [execOp,ho,resolve,hc,invoke,builtin,ha,hat,ax,hrun]
 simp only [sem] at hk;split at hk
 ·rename_i i off len r2 n rd2 hxv hsh;split at hk
  ·rename_i w' rows hl;cases hb:Nat.beq wd w' with
   | false=>rw [hb] at hk;exact hk.elim
   | true =>
    rw [hb] at hk;have:=aN hb;subst this;refine ⟨_,hk,Good.fl fun e F g w a hf hr hrd hfr=>?_⟩;have hgi:g i=some (.da wd rows):=hrd (i,.da wd rows) (by simp);have hv1:=aO hx hf;rw [hxv] at hv1;obtain ⟨W,a1,c1,hW,e1,hnW,hlc,hcap⟩:=hv1;obtain ⟨u2,a2,c2,e2,hc2,hl2⟩:=iL hr (aO hy hf) hsh (fun p hp=>hrd p (by simp [hp]));simp only [Sh.len] at e2 hl2;have hob:=hr.obj hgi hW;have hwd:=hob.wd _ _ rfl;obtain ⟨u21,u22⟩:=u2;by_cases hm0:min len n=0
    ·have:=z8 (t':=t') hu hi hs w (a1:=a1) (a2:=a2) (dCap:=c1) (sCap:=c2) hm0 o.type;refine ⟨_,w,exec a w _ w (by rw [e1,e2];exact this),?_⟩;have hrow:rows.take off++r2.take (min len n)++rows.drop (off+min len n)=rows:=by rw [hm0];simp
     simp only [hrow,cH];rw [show upd g i (some (.da wd rows))=g by funext k;simp only [upd];split<;>first | (rename_i h;rw [h,hgi]) | rfl];refine Res.same hr ?_;rw [hm0];exact bj.int .i64 0
    ·have hlp:0 < len/\0 < n:=by omega
     obtain ⟨b2,p2,rfl,hcell⟩:=hl2.resolve_left (by omega);obtain ⟨rfl,hcw⟩:=hcap.resolve_left (by omega);have hml:min len n<=len:=Nat.min_le_left _ _;have hmn:min len n<=n:=Nat.min_le_right _ _;generalize hm:min len n=m at *;have hfl:∀ q,q < m * wd->∃ u,w.cell? ⟨b2,p2+q,none⟩=some u/\u.oneCell'=true:=by
      intro q hq;have hq':q < r2.length * wd:=by have:=bw wd hmn;rw [u21];omega
      obtain ⟨d,h1,h2⟩:=DI hw u22 hq';obtain ⟨u,h3,h4⟩:=hcell (q / wd) (q % wd) (.d d) (by simp only [Sh.get,h1,aS]);rw [cS,h2] at h3;exact ⟨u,h3,cj.one h4⟩
     have hget:=j8 (w:=w) (b:=b2) (p:=p2) (n:=m * wd) fun q hq=>by obtain ⟨u,h3,_⟩:=hfl q hq;rw [h3];rfl
     have hlen:=fT w b2 p2 (m * wd);have hadd:(off+c1) * W.wd=off * W.wd+c1 * wd:=by rw [bK,hwd.1]
     have hmc:m * wd<=c1 * wd:=bw wd (by omega);have hroom:∀ q,q < m * wd->(w.cell? ⟨W.b,W.base+off * W.wd+q,none⟩).isSome=true/\w.frozen? ⟨W.b,W.base+off * W.wd+q,none⟩=false:=by
      intro q hq;have:=hob.own rfl (off * W.wd+q) (by omega)
      rwa [show W.base+(off * W.wd+q)=W.base+off * W.wd+q by omega] at this
     have hrun:=BU (t':=t') (sCap:=c2) (dCap:=c1) hu hi hs w (b:=W.b) (p:=W.base+off * W.wd) (dLen:=len) (sLen:=n) (a2:=some ⟨b2,p2,none⟩) (iB w b2 p2 (m * wd)) (by rw [hlen,hm]) ⟨b2,p2,rfl,hget⟩ (fun v hv=>by
      obtain ⟨q,hq⟩:=List.mem_iff_getElem?.1 hv;have hq':q < m * wd:=by rw [<- hlen];exact (af.1 hq).1
      obtain ⟨u,h3,h4⟩:=hfl q hq';have:=hget q v hq;rw [h3] at this;cases this;exact h4) (fun q hq=>hroom q (by rw [<- hlen];exact hq)) o.type
     refine ⟨_,_,exec a w _ _ (by rw [e1,e2];exact hrun),?_⟩;generalize hus:iB w b2 p2 (m * wd)=us at hlen hget hrun ⊢;have hup:=b9.setCells W.b us (W.base+off * W.wd) w;have hin:∀ b o,(b=W.b/\W.base+off * W.wd<=o/\o < W.base+off * W.wd+us.length)->InW W b o:=by
      rintro b o ⟨rfl,h7,h8⟩
      exact ⟨rfl,by omega,by omega⟩
     have hsome:∀ j,j < us.length->(w.cell? ⟨W.b,W.base+off * W.wd+j,none⟩).isSome=true:=fun j hj=>(hroom j (by omega)).1
     have hrl:(rows.take off).length=off:=by rw [bh];omega
     have htl:(r2.take m).length=m:=by rw [bh];omega
     have hcl:∀ (r k:Nat) d,((rows.take off++r2.take m++rows.drop (off+m))[r]?.bind (·[k]?))=some d->(off<=r/\r < off+m/\(r2[r - off]?.bind (·[k]?))=some d)\/((r < off\/off+m<=r)/\(rows[r]?.bind (·[k]?))=some d):=by
      intro r k d hd;rw [e8] at hd;by_cases h1:r < off
      ·rw [bU (by omega),List.getElem?_take,aj h1] at hd;exact .inr ⟨.inl h1,hd⟩
      ·rw [cx (by omega),hrl] at hd;by_cases h2:r < off+m
       ·rw [bU (by omega),List.getElem?_take,aj (by omega)] at hd;exact .inl ⟨by omega,h2,hd⟩
       ·rw [cx (by omega),htl,dF] at hd;rw [show off+m+(r - off - m)=r by omega] at hd;exact .inr ⟨.inr (by omega),hd⟩
     have hrw:rows.length=W.n:=hwd.2.1;have hul:(rows.take off++r2.take m++rows.drop (off+m)).length=rows.length:=by
      rw [aH,aH,hrl,htl,bD];omega
     have huni:∀ row∈rows.take off++r2.take m++rows.drop (off+m),row.length=wd:=by
      intro row hrow;rcases bL.1 hrow with hrow | hrow
      ·rcases bL.1 hrow with hrow | hrow
       ·exact hwd.2.2 row (cw hrow)
       ·exact u22 row (cw hrow)
      ·exact hwd.2.2 row (br hrow)
     refine Res.Fj hr (e':=e) (F':=F) (fun k=>k=i) hup (fun b hb o h=>by have:=hob.ng;have:=h.1;omega) (fun _ _ h=>h) (fun _ _=>rfl) rfl (fun k x hk ht=>?_) (fun k x hk ht=>?_) (fun b o h=>?_) (fun k x Wk ht hk hek b o hh=>?_) (fun k x Wk k' x' Wk' ht ht' hne _ _ _ _ _ _ _=>absurd (ht.trans ht'.symm) hne) (by rw [hm];exact bj.int .i64 _)
     ·simp only [cH,upd,ab ht] at hk;exact ⟨hk,rfl⟩
     ·subst ht;simp only [cH,upd,bo] at hk;cases hk;refine ⟨W,hW,hob.ng,fun r k2 c hcc=>?_,fun r k2 c hcc _=>?_,fun _ q hq=>?_,nofun,fun v rows2 hv=>?_,nofun,nofun,Hid.none rfl fun r k2 dp w' rows' hcc=>?_,fun b o hh=>?_,fun b o hh h2=>hob.hsw b o hh ⟨rfl,h2.2⟩⟩
      ·simp only [O.cell,ay] at hcc;obtain ⟨d,h1,rfl⟩:=hcc;have h2:=mw huni h1;rw [hul] at h2;obtain ⟨d',h3⟩:∃ d',(rows[r]?.bind (·[k2]?))=some d':=by
        have h4:=hwd.2.2 rows[r] (aZ h2.1);exact ⟨rows[r][k2]'(by omega),by rw [aa h2.1,bQ,aa]⟩
       exact hob.fit r k2 (.d d') (by simp only [O.cell,h3,aS])
      ·simp only [O.cell,ay] at hcc;obtain ⟨d,h1,rfl⟩:=hcc;rcases hcl r k2 d h1 with ⟨h2,h3,h4⟩ | ⟨h2,h3⟩
       ·obtain ⟨u,h5,h6⟩:=hcell (r - off) k2 (.d d) (by simp only [Sh.get,h4,aS]);have hrk:=mw u22 h4;have hlt:(r - off) * wd+k2 < us.length:=by rw [hlen];exact oW (by omega) hrk.2
        refine ⟨u,?_,h6⟩;have h7:=World.cell?_setCells_in W.b us (W.base+off * W.wd) w hsome _ hlt;have h8:=hget _ _ (aa hlt);rw [<- cS,h5] at h8;rw [show W.base+off * W.wd+((r - off) * wd+k2)=W.base+r * W.wd+k2 by
         have:r * W.wd=off * W.wd+(r - off) * wd:=by rw [<- hwd.1,<- bK];congr 1;omega
         omega] at h7
        rw [h7,h8]
       ·obtain ⟨u,h5,h6⟩:=hob.cells r k2 (.d d) (by simp only [O.cell,h3,aS]) (.inl rfl);refine ⟨u,?_,h6⟩;have hk2:=(mw hwd.2.2 h3).2;rw [World.cell?_setCells_out,h5];intro _ _;rcases h2 with h2 | h2
        ·left;have:=oW h2 hk2;rw [hwd.1] at this;show W.base+r * W.wd+k2 < W.base+off * W.wd;omega
        ·right;have:=bw W.wd h2;rw [bK] at this;show W.base+off * W.wd+us.length<=W.base+r * W.wd+k2;rw [hlen,hwd.1];omega
      ·have:=hob.own rfl q hq;exact ⟨World.isSome_setCells _ _ _ _ _ this.1,by rw [World.frozen?_setCells];exact this.2⟩
      ·cases hv;exact ⟨hwd.1,by rw [hul];exact hrw,huni⟩
      ·simp only [O.cell,ay] at hcc;obtain ⟨d,_,h1⟩:=hcc;cases h1
      ·have:=hob.dY b o hh;exact ⟨this.1,World.isSome_setCells _ _ _ _ _ this.2.1,by rw [World.frozen?_setCells];exact this.2.2⟩
     ·have h2:=h.2;refine ⟨?_,i,_,W,rfl,hgi,hW,.inl ⟨rfl,hin b o h⟩⟩;rw [h.1];have:=hsome (o - (W.base+off * W.wd)) (by omega)
      rwa [show W.base+off * W.wd+(o - (W.base+off * W.wd))=o by omega] at this
     ·subst ht;simp only [cH,upd,bo] at hk;cases hk;exact .inl ⟨k,_,Wk,rfl,hgi,hek,hh.imp (fun h=>⟨rfl,h.2⟩) id⟩
  ·exact hk.elim
 ·exact hk.elim
end
section
variable {C:Ctx} {o:Oper} {fr:Fr} {σ:Ob} {nx:Nat} {K:Eff->Prop}
theorem rZ {e:Emb} {F:Fz}:∀ {vs:List V} {ps:List (Nat×Nat×Nat)} {us:List Value},vf vs=some ps->cK (b6 e F) vs us->cK (kJ e) ps us
 | [],ps,us,h,ha=>by cases h;cases ha;exact .nil
 | x::l,ps,us,h,ha=>by
  cases x<;>simp only [vf] at h<;>try (cases h;done)
  split at h
  ·rename_i q hq;cases h;cases ha with
   | cons a b=>exact .cons a (rZ hq b)
  ·cases h
theorem CA {f:Nat} {first caps:Array Operand} {as:List A} (ho:o.op= .makeFunc (.func f) first caps) (h0:first.size=0) (has:uy caps.toList as=true)
  (hk:wpR C σ nx K (sem (.mkf f as) fr σ nx)):∃ eff,K eff/\Good C o fr nx eff:=by
 simp only [sem] at hk;split at hk
 ·rename_i ps hps;refine ⟨_,hk,Good.cz fun e F g w a hf hr _=>?_⟩;have h1:=rZ hps (kU has hf);refine ⟨.func (.func f) #[] (caps.map a.eval),?_,⟨caps.toList.map a.eval,?_,h1⟩⟩
  ·have:first=#[]:=Array.eq_empty_of_size_eq_zero h0;simp [execOp,ho,this,Instr.makeFunc]
  ·rw [<- Array.toList_map,Array.toArray_toList]
 ·exact hk.elim
def A2 (P:Program):Nat->List Field->List Nat->Bool
 | _,[],[]=>true
 | k,f::l,n::ns=>decide (f.name≠ "_")&&decide (f.offset=k)&&(match P.underlying f.type with
  | some (.int _)=>decide (n=0)
  | some .string=>decide (n=1)
  | some .bool=>decide (n=2)
  | _=>false)&&A2 P (k+1) l ns
 | _,_,_=>false
theorem bytes_inj (s t:ByteArray):(s == t)=decide (s.data.toList=t.data.toList):=by
 obtain ⟨⟨x⟩⟩:=s;obtain ⟨⟨y⟩⟩:=t;show ((⟨x⟩:Array UInt8) == ⟨y⟩)=_;rw [Bool.eq_iff_iff];simp
theorem yX {P:Program} {F:Fz} {us vs:Array Value} {d:Nat} (w:World):∀ (fs:List Field) (ks:List Nat) (k:Nat) (xs ys:List D) (z:Bool),A2 P k fs ks=true ->
  (∀ (j:Nat) x,xs[j]?=some x->∃ u,us[k+j]?=some u/\bj F x u)->(∀ (j:Nat) x,ys[j]?=some x->∃ u,vs[k+j]?=some u/\bj F x u)->vb ks xs ys=some z ->
  (Op.eqFields (d+1) us vs fs).run P w= .ok z w
 | [],[],k,xs,ys,z,_,_,_,hz=>by
  cases xs with
  | nil=>cases ys with
   | nil=>cases hz;simp [Op.eqFields]
   | cons y ys=>simp [vb] at hz
  | cons x xs=>simp [vb] at hz
 | [],n::ns,k,xs,ys,z,hok,_,_,hz=>by cases hok
 | f::fs,[],k,xs,ys,z,hok,_,_,hz=>by cases hok
 | f::fs,n::ns,k,xs,ys,z,hok,hx,hy,hz=>by
  simp only [A2,ag,ak] at hok;obtain ⟨⟨⟨h1,h2⟩,h3⟩,h4⟩:=hok;have ih:=fun (xs ys:List D) z' (hx:∀ (j:Nat) x,xs[j]?=some x->∃ u,us[k+1+j]?=some u/\bj F x u) (hy:∀ (j:Nat) x,ys[j]?=some x->∃ u,vs[k+1+j]?=some u/\bj F x u) hz' =>
   yX (d:=d) w fs ns (k+1) xs ys z' h4 hx hy hz'
  have hagg:(isAgg f.type).run P w= .ok false w:=by
   refine nn ?_ w;unfold okN;cases hu:P.underlying f.type with
   | none=>rw [hu] at h3;cases h3
   | some t=>rw [hu] at h3;cases t<;>simp_all
  have hpart:∀ (cs:Array Value) (c:Value),cs[k]?=some c->(part f.type cs f.offset).run P w= .ok c w:=by
   intro cs c hc;simp [part,ax,hagg,h2,hc]
  have key:∀ (x y:D) (xs' ys':List D) (b z':Bool),xs=x::xs'->ys=y::ys'->(∀ u v,bj F x u->bj F y v->(Op.equalIn (d+1) f.type u v).run P w= .ok b w)->vb ns xs' ys'=some z'->z=(b&&z')->(Op.eqFields (d+1) us vs (f::fs)).run P w= .ok z w:=by
   intro x y xs' ys' b z' hxs hys hb hz' hzz;subst hxs;subst hys;obtain ⟨u,hu,hux⟩:=hx 0 x rfl;obtain ⟨v,hv,hvy⟩:=hy 0 y rfl;rw [cr] at hu hv;simp only [Op.eqFields,ax,Sem.run_ite];rw [aj h1,hpart us u hu,aF,hpart vs v hv,aF,hb u v hux hvy,aF,hzz];cases b
   ·simp
   ·simpa using ih xs' ys' z' (fun j x hj=>by
     have:=hx (j+1) x (by simpa using hj)
     rwa [show k+1+j=k+(j+1) by omega]) (fun j x hj=>by
     have:=hy (j+1) x (by simpa using hj)
     rwa [show k+1+j=k+(j+1) by omega]) hz'
  unfold vb at hz;split at hz
  ·rename_i heq;cases heq
  ·rename_i ks' kk a l kk' b m hns;cases hns;split at hz<;>try (cases hz;done)
   rename_i z' hk hz';cases hz;have hk:=ai hk;subst hk;cases ht:P.underlying f.type with
   | none=>rw [ht] at h3;cases h3
   | some t =>
    rw [ht] at h3;cases t<;>simp only at h3<;>try (first | (cases h3;done) | (simp at h3;done))
    refine key _ _ l m (decide (a=b)) z' rfl rfl (fun u v hu hv=>?_) hz' rfl;rw [hu.et,hv.et];simp [Op.equalIn,run_underlying ht];rw [Bool.eq_iff_iff];simp
  ·rename_i ks' a l b m hns;cases hns;split at hz<;>try (cases hz;done)
   rename_i z' hz';cases hz;cases ht:P.underlying f.type with
   | none=>rw [ht] at h3;cases h3
   | some t =>
    rw [ht] at h3;cases t<;>simp only at h3<;>try (first | (cases h3;done) | (simp at h3;done))
    refine key _ _ l m (decide (a=b)) z' rfl rfl (fun u v hu hv=>?_) hz' rfl;obtain ⟨s,rfl,rfl⟩:=hu.j1;obtain ⟨t,rfl,rfl⟩:=hv.j1;rw [<- bytes_inj];simp [Op.equalIn,run_underlying ht]
  ·rename_i ks' a l b m hns;cases hns;split at hz<;>try (cases hz;done)
   rename_i z' hz';cases hz;cases ht:P.underlying f.type with
   | none=>rw [ht] at h3;cases h3
   | some t =>
    rw [ht] at h3;cases t<;>simp only at h3<;>try (first | (cases h3;done) | (simp at h3;done))
    refine key _ _ l m (a == b) z' rfl rfl (fun u v hu hv=>?_) hz' rfl;rw [hu.gz,hv.gz];simp [Op.equalIn,run_underlying ht]
  ·cases hz
theorem CO {ks:List Nat} (ho:o.op= .binOp (if ne then .neq else .eql) t x y t') (hfs:C.P.underlying t=some (.struct fs)) (hq:A2 C.P 0 fs.toList ks=true)
  (h3:C.P.stoodInHeld t=false) (h4:C.P.eqGuardType C.P.depth t=false) (hx:okA x x'=true) (hy:okA y y'=true)
  (hk:wpR C σ nx K (sem (.aeq ne ks x' y') fr σ nx)):∃ eff,K eff/\Good C o fr nx eff:=by
 simp only [sem] at hk;split at hk<;>try exact hk.elim
 rename_i xs ys hp1 hp2;split at hk<;>try exact hk.elim
 rename_i ds es hd1 hd2;split at hk<;>try exact hk.elim
 rename_i z hz;refine ⟨_,hk,Good.cz fun e F g w a hf hr _=>?_⟩;have h1:=aO hx hf;have h2:=aO hy hf;rw [hp1] at h1;rw [hp2] at h2;obtain ⟨us,h1,ha1⟩:=h1;obtain ⟨vs,h2,ha2⟩:=h2;have cell:∀ {cs:List V} {ds:List D} {us:List Value},p9 cs=some ds->cK (cj e F) cs us->∀ (j:Nat) d,ds[j]?=some d->∃ u,us.toArray[0+j]?=some u/\bj F d u:=by
  intro cs ds us hd ha j d hj;obtain ⟨c,hc,hcd⟩:=qt hd j d hj;obtain ⟨u,hu,hcu⟩:=ha.get j c hc;exact ⟨u,by simpa using hu,jD (b6.lF (fu.lR hcu)) hcd⟩
 have hfo:C.P.fieldsOf t=fs:=by simp [Program.fieldsOf,hfs]
 have heq:(Op.equalIn 10000 t (.agg us.toArray) (.agg vs.toArray)).run C.P w= .ok z w:=by
  rw [run_equalIn_struct w 9999 t _ _ (by rw [hfo];exact hfs) h3,hfo];exact yX (d:=9998) w fs.toList ks 0 ds es z hq (cell hd1 ha1) (cell hd2 ha2) hz
 have hg:=run_eqGuard_agg (P:=C.P) w (if ne then .neq else .eql) t x y us.toArray vs.toArray h4;refine ⟨.bool (ne ^^ z),?_,bj.bool _⟩;cases ne with
 | false =>
  simp only [bB,aV] at ho hg;simp only [execOp,ho,ax,h1,h2,hg,aF,run_eql_struct,heq,Bool.false_xor,bq]
 | true =>
  simp only [bo] at ho hg;simp only [execOp,ho,ax,h1,h2,hg,aF,run_neq_struct,heq,Bool.true_xor,bq]
end
section
variable {C:Ctx} {o:Oper} {fr:Fr} {σ:Ob} {nx:Nat} {K:Eff->Prop}
theorem heap_alloc_new (w:World) (ob:Obj):(w.alloc ob).heap[w.heap.size]?=some ob:=rC w ob
theorem Cz (ho:o.op= .makeMap t none) (hk:wpR C σ nx K (sem .mkm fr σ nx)):∃ eff,K eff/\Good C o fr nx eff:=by
 refine ⟨_,hk,Good.fl fun e F g w a hf hr _ hn=>?_⟩;have he:=hn nx (al _) (Nat.lt_succ_self _);refine ⟨.map (some w.heap.size),w.alloc (.map #[] 0),by simp [execOp,ho,Instr.makeMap,ax,Result.andThen],?_⟩;have hle:Emb.le e (fun i=>if i=nx then some ⟨w.heap.size,0,1,0,0⟩ else e i):=fun i W' hi=>by
  grind
 have hup:b9 (fun _ _=>False) w (w.alloc (.map #[] 0)):=b9.alloc w _;refine ⟨fun i=>if i=nx then some ⟨w.heap.size,0,1,0,0⟩ else e i,F.ke nx noH,hle,fun i hi=>?_,fun _ _ _ y=>y,⟨⟨w.heap.size,0,1,0,0⟩,by simp,rfl⟩,?_,hup.mono (fun _ _ x=>x.elim),?_,fun _ _ u y=> .inl ⟨u,y⟩⟩
 ·grind
 ·refine hr.CR (j:=nx) (x':= .mp []) (W':=⟨w.heap.size,0,1,0,0⟩) hup (fun _ _ _ x=>x) (by simp [cH,upd]) (by simp) hle (fun i x hne hi=>by simpa [cH,upd,hne] using hi) (fun _ _ hs=>hs.elim) (fun _ _ _ hs=>hs.elim) hr.ng
   (fun r k c hc=>by cases hc) (fun r k c hc=>by cases hc) (fun h=>by cases h) (fun _ _ hs=>hs.elim) (fun es hes=>by cases hes;exact ⟨rfl,rfl,#[],0,heap_alloc_new w _,.nil⟩) (by intro v rows h;cases h) (by intro v rows h;cases h) (by intro v rows h;cases h) ?_ ?_ (Hid.none rfl nofun) (fun _ _ hs=>hs.elim) (fun _ _ hs=>hs.elim)
  ·rintro i x' W' hne hi he' b q hw (hw' | hw')
   ·have:=(hr.jL (b:=b) (o:=q) ⟨i,x',W',by simpa [cH,upd,hne] using hi,he',hw⟩)
    have h1:b=w.heap.size:=hw'.2.1;omega
   ·exact hw'
  ·rintro b q u hu (hw | hw)
   ·have h3:=hr.n5 hu;have h4:b=w.heap.size:=hw.2.1;omega
   ·exact hw
 ·intro b q ho;obtain ⟨i,x',W',hi,he',hw⟩:=ho;by_cases hne:i=nx
  ·subst hne;simp only [bo] at he';cases he';rw [er] at hw;rcases hw with hw | hw
   ·right;have:b=w.heap.size:=hw.2.1;omega
   ·exact hw.elim
  ·left;simp only [hne,aV] at he';rw [fW _ _ hne] at hw;exact ⟨i,x',W',by simpa [cH,upd,hne] using hi,he',hw⟩
def wz:Option IntKind->TypeDesc
 | none=> .string
 | some k=> .int k
theorem jh.of (hk:jO kd k) (h:bj F k v):jh k v:=by
 cases kd<;>cases k<;>first | exact hk.elim | skip
 ·obtain ⟨s,rfl,h2⟩:=bj.j1 h;subst h2;rfl
 ·exact bj.et h
theorem jh.isKey (hk:jO kd k) (h:jh k v):MapKept.IsKey (wz kd) v:=by
 cases kd<;>cases k<;>first | exact hk.elim | skip
 ·rw [show v= .string _ from h];trivial
 ·rw [show v= .int _ _ from h];exact hk
theorem jh.eq {k':D} {v':Value} (hk:jO kd k) (hk':jO kd k') (h:jh k v) (h':jh k' v'):eV k k'=true↔v'=v:=by
 cases kd<;>cases k<;>first | exact hk.elim | skip
 ·cases k'<;>first | exact hk'.elim | skip
  rw [show v= .string _ from h,show v'= .string _ from h'];simp [eV,eq_comm]
 ·cases k'<;>first | exact hk'.elim | skip
  rw [show v= .int _ _ from h,show v'= .int _ _ from h'];have e1:_=_:=hk;have e2:_=_:=hk';simp_all [eV,eq_comm]
theorem wi {kd:Option IntKind} {k:D} {v:Value} (hk:jO kd k) (hv:jh k v):∀ {es:List (D×Int)} {l:List MapEntry},(∀ p∈es,jO kd p.1)->cK (fun p x=>jh p.1 x.key/\x.val= .int .i64 p.2) es l ->
  (cJ es k=false/\cL es k=0/\∀ x∈l,x.key≠v)\/((cJ es k=true/\∃ x∈l,x.key=v)/\∀ (j:Nat) (x:MapEntry),l[j]?=some x->x.key=v->(∀ (i:Nat) (y:MapEntry),i < j->l[i]?=some y->y.key≠v)->x.val= .int .i64 (cL es k))
 | _,_,_,.nil=> .inl ⟨rfl,rfl,by simp⟩
 | (k',n)::es,x::l,hd,.cons hx ht=>by
  have hk':jO kd k':=hd (k',n) (by simp);have he:=jh.eq hk hk' hv hx.1;by_cases h:eV k k'=true
  ·refine .inr ⟨⟨by simp [cJ,h],x,by simp,he.1 h⟩,fun j y hj hy hfirst=>?_⟩;cases j with
   | zero =>
    simp only [az,aw] at hj;simp_all [hx.2,cL,h]
   | succ j=>exact absurd (he.1 h) (hfirst 0 x (by omega) rfl)
  ·have hne:x.key≠v:=fun hh=>h (he.2 hh)
   rcases wi hk hv (fun p hp=>hd p (by simp [hp])) ht with ⟨h1,h2,h3⟩ | ⟨⟨h1,z0,hz1,hz2⟩,h2⟩
   ·simp_all [cJ,h,h1,cL,h2,hne,h3]
   ·refine .inr ⟨⟨by simp [cJ,h,h1],z0,by simp [hz1],hz2⟩,fun j y hj hy hfirst=>?_⟩;cases j with
    | zero =>
     simp_all
    | succ j =>
     rw [h2 j y (by simpa using hj) hy (fun i z hi hz=>hfirst (i+1) z (by omega) (by simpa using hz))];simp [cL,h]
theorem kj {d:TypeDesc} {k:Value} (hk:MapKept.IsKey d k):∀ (l:List MapEntry) (i:Nat),(∀ x∈l,MapKept.IsKey d x.key) ->
  (Instr.findNow d k l i=some none/\∀ x∈l,x.key≠k)\/∃ j e,Instr.findNow d k l i=some (some (i+j,e.val))/\l[j]?=some e/\e.key=k/\∀ (i':Nat) (y:MapEntry),i' < j->l[i']?=some y->y.key≠k
 | [],_,_=> .inl ⟨rfl,by simp⟩
 | e::es,i,h=>by
  obtain ⟨r,hr,hiff⟩:=MapKept.sameNow_of_keys hk (h e (.head _));cases r with
  | true=>exact .inr ⟨0,e,by simp [Instr.findNow,hr],rfl,(hiff.1 rfl).symm,fun i' y hi=>by omega⟩
  | false =>
   have hne:e.key≠k:=fun q=>by have:=hiff.2 q.symm;cases this
   rcases kj hk es (i+1) (fun x hx=>h x (.tail _ hx)) with ⟨h1,h2⟩ | ⟨j,e',h1,h2,h3,h4⟩
   ·simp_all [Instr.findNow,hr,h1,hne,h2]
   ·refine .inr ⟨j+1,e',by simp [Instr.findNow,hr,h1];omega,by simpa using h2,h3,fun i' y hi hy=>?_⟩
    grind
theorem oQ {kd:Option IntKind}:∀ {es:List (D×Int)} {l:List MapEntry},(∀ p∈es,jO kd p.1)->cK (fun p x=>jh p.1 x.key/\x.val= .int .i64 p.2) es l->∀ x∈l,MapKept.IsKey (wz kd) x.key
 | _,_,_,.nil=>by simp
 | p::es,x::l,hd,.cons hx ht=>by
  intro y hy;rcases aQ.1 hy with rfl | hy
  ·grind [jh.isKey]
  ·exact oQ (fun p hp=>hd p (by simp [hp])) ht y hy
theorem CB {k:TypeId} {ok:Bool} (ho:o.op= .lookup t x y ok) (ht:C.P.underlying t=some (.map k el)) (hd:C.P.underlying k=some (wz kd))
  (hz:∀ w:World,(zeroValue el).run C.P w= .ok (.int .i64 0) w) (hx:okA x x'=true) (hy:okA y y'=true)
  (hk:wpR C σ nx K (sem (.lkp ok kd x' y') fr σ nx)):∃ eff,K eff/\Good C o fr nx eff:=by
 have main:∀ (i:Nat) (kk:D) (es:List (D×Int)),x'.ev fr= .mp i->y'.ev fr= .d kk->wy kd es kk ->
   Good C o fr nx {v:=bif ok then .tup [.d (.int .i64 (cL es kk)),.d (.bool (cJ es kk))] else .d (.int .i64 (cL es kk)),rd:=[(i,.mp es)]}:=by
  intro i kk es hi hkk hm;refine Good.cz fun e F g w a hf hr hrd=>?_
  have h1:=aO hx hf;have h2:=aO hy hf;rw [hi] at h1;rw [hkk] at h2;obtain ⟨W,hW,h1⟩:=h1;have h2:bj F kk (a.eval y):=h2;obtain ⟨hb0,hc1,me,ck,hm1,hm2⟩:=hr.mp i es W (hrd (i,.mp es) (by simp)) hW;have hkr:=jh.of hm.1 h2;have hik:=jh.isKey hm.1 hkr;have hiks:=oQ hm.2 hm2;have hget:=wi hm.1 hkr hm.2 hm2;rcases kj hik me.toList 0 hiks with ⟨h3,h4⟩ | ⟨j,e0,h3,h4,h5,h6⟩
  ·have hg:cJ es kk=false/\cL es kk=0:=by
    grind
   rw [hg.1,hg.2];cases ok with
   | true=>exact ⟨.tuple #[.int .i64 0,.bool false],by simp [execOp,ho,Instr.lookup,run_underlying ht,h1,MapKept.run_getObj_map hm1,MapKept.run_checkKey hd hik,MapKept.run_findKey hd h3,hz,Result.andThen,ax],⟨[_,_],rfl,.cons (bj.int _ _) (.cons (bj.bool _) .nil)⟩⟩
   | false=>exact ⟨.int .i64 0,by simp [execOp,ho,Instr.lookup,run_underlying ht,h1,MapKept.run_getObj_map hm1,MapKept.run_checkKey hd hik,MapKept.run_findKey hd h3,hz,Result.andThen,ax],bj.int _ _⟩
  ·have hg:cJ es kk=true/\e0.val= .int .i64 (cL es kk):=by
    grind
   rw [hg.1];cases ok with
   | true=>exact ⟨.tuple #[.int .i64 (cL es kk),.bool true],by simp [execOp,ho,Instr.lookup,run_underlying ht,h1,MapKept.run_getObj_map hm1,MapKept.run_checkKey hd hik,MapKept.run_findKey hd h3,hg.2,Result.andThen,ax],⟨[_,_],rfl,.cons (bj.int _ _) (.cons (bj.bool _) .nil)⟩⟩
   | false=>exact ⟨.int .i64 (cL es kk),by simp [execOp,ho,Instr.lookup,run_underlying ht,h1,MapKept.run_getObj_map hm1,MapKept.run_checkKey hd hik,MapKept.run_findKey hd h3,hg.2,Result.andThen,ax],bj.int _ _⟩
 simp only [sem] at hk;split at hk
 ·rename_i i kk hi hkk;split at hk
  ·rename_i es hl;cases ok with
   | true=>exact ⟨_,hk.2,main i kk es hi hkk hk.1⟩
   | false=>exact ⟨_,hk.2,main i kk es hi hkk hk.1⟩
  ·exact hk.elim
 ·exact hk.elim
theorem tG {kd:Option IntKind} {k:D} {v:Value} {n:Int} {x0:MapEntry} (hk:jO kd k) (hv:jh k v) (h0:x0.key=v/\x0.val= .int .i64 n):∀ {es:List (D×Int)} {l:List MapEntry},(∀ p∈es,jO kd p.1) ->
  cK (fun p x=>jh p.1 x.key/\x.val= .int .i64 p.2) es l->(∀ x∈l,x.key≠v)->cK (fun p x=>jh p.1 x.key/\x.val= .int .i64 p.2) (dd es k n) (l++[x0])
 | _,_,_,.nil,_=> .cons ⟨by rw [h0.1];exact hv,h0.2⟩ .nil
 | (k',m)::es,x::l,hd,.cons hx ht,hne=>by
  have hk':jO kd k':=hd (k',m) (by simp);have h:¬ eV k k'=true:=fun hh=>hne x (by simp) ((jh.eq hk hk' hv hx.1).1 hh)
  simp only [dd,ab h,cN];exact .cons hx (tG hk hv h0 (fun p hp=>hd p (by simp [hp])) ht (fun y hy=>hne y (by simp [hy])))
theorem pF {kd:Option IntKind} {k:D} {v:Value} {n:Int} {f:MapEntry->MapEntry} (hk:jO kd k) (hv:jh k v) (hf:∀ x,(f x).key=v/\(f x).val= .int .i64 n):∀ {es:List (D×Int)} {l:List MapEntry} {j:Nat} {e0:MapEntry},(∀ p∈es,jO kd p.1) ->
  cK (fun p x=>jh p.1 x.key/\x.val= .int .i64 p.2) es l->l[j]?=some e0->e0.key=v->(∀ (i:Nat) (y:MapEntry),i < j->l[i]?=some y->y.key≠v)->cK (fun p x=>jh p.1 x.key/\x.val= .int .i64 p.2) (dd es k n) (l.modify j f)
 | _,_,j,e0,_,.nil,h1,_,_=>by simp at h1
 | (k',m)::es,x::l,0,e0,hd,.cons hx ht,h1,h2,_=>by
  have hk':jO kd k':=hd (k',m) (by simp);simp only [az,aw] at h1;subst h1;have h:=(jh.eq hk hk' hv hx.1).2 h2;simp only [dd,aj h,List.modify_zero_cons];exact .cons ⟨by rw [(hf x).1];exact hv,(hf x).2⟩ ht
 | (k',m)::es,x::l,j+1,e0,hd,.cons hx ht,h1,h2,h3=>by
  have hk':jO kd k':=hd (k',m) (by simp);have h:¬ eV k k'=true:=fun hh=>h3 0 x (by omega) rfl ((jh.eq hk hk' hv hx.1).1 hh)
  simp only [dd,ab h,List.modify_succ_cons];exact .cons hx (pF hk hv hf (fun p hp=>hd p (by simp [hp])) ht (by simpa using h1) h2 (fun i y hi hy=>h3 (i+1) y (by omega) (by simpa using hy)))
theorem yz (hr:Rel C e F g w) {es es':List (D×Int)} (hg:g i=some (.mp es)) (hW:e i=some W) {me':Array MapEntry} {ck':Nat} (hm':Am es' me') :
  Res C e F g w nx 0 .un (upd g i (some (.mp es'))) undef {w with heap:=w.heap.setIfInBounds W.b (.map me' ck')}:=by
 obtain ⟨hb0,hc1,me,ck,hm1,hm2⟩:=hr.mp i es W hg hW;obtain ⟨W0,hW0,hng⟩:=hr.dom i _ hg;rw [hW] at hW0;cases hW0;have hset:=MapKept.heap_set (o':= .map me' ck') hm1;have hin:InR (.mp es) W W.b 0:=⟨rfl,rfl,by omega,by omega⟩
 have hup:b9 (fun b o=>b=W.b/\o=0) w {w with heap:=w.heap.setIfInBounds W.b (.map me' ck')}:=by
  refine ⟨rfl,rfl,rfl,by simp,fun b hb ho=>?_,fun b q hb ho=>?_,fun b q hb=>?_⟩
  ·grind
  ·grind [World.cell?]
  ·by_cases h:b=W.b
   ·simp_all [World.frozen?,hset.1,hm1]
   ·grind [World.frozen?]
 refine ⟨e,F,fun _ _ y=>y,fun _ _=>rfl,fun _ _ _ y=>y,trivial,?_,hup.mono fun b q h=>⟨i,_,W,hg,hW,.inl (by rw [h.1,h.2];exact hin)⟩,?_,fun _ _ u y=> .inl ⟨u,y⟩⟩
 ·rw [<- oJ F i];refine hr.CR (j:=i) (x':= .mp es') (W':=W) hup ?_ (by simp [upd]) hW (fun _ _ y=>y) (fun k y hne hk=>by simpa [upd,hne] using hk) ?_ ?_ hng
   (fun r k c hc=>by cases hc) (fun r k c hc=>by cases hc) (fun h=>by cases h) ?_ (fun es2 hes=>by cases hes;exact ⟨hb0,hc1,me',ck',hset.1,hm'⟩) (by intro v rows h;cases h) (by intro v rows h;cases h) (by intro v rows h;cases h) ?_ ?_ (Hid.none rfl nofun) ?_ ?_
  ·omega
  ·rintro b q ⟨rfl,rfl⟩ k y W' hne hk hek hw
   exact hr.sep hg hW (by simpa [upd,hne] using hk) hek (Ne.symm hne) (.inl hin) hw
  ·rintro b q u ⟨rfl,rfl⟩ hu
   have:=hr.fz _ _ _ hu;rw [wx hm1] at this;cases this
  ·rintro b q ⟨rfl,rfl⟩ k es2 W' hne hk hek
   exact hr.tH (by simpa [upd,hne] using hk) hek hg hW hne (.inl hin)
  ·intro k y W' hne hk hek b q hw hw';exact hr.sep (by simpa [upd,hne] using hk) hek hg hW hne hw (hw'.imp (fun h=>⟨rfl,h.2⟩) id)
  ·intro b q u hu hw;exact hr.dJ b q u hu ⟨i,_,W,hg,hW,hw.imp (fun h=>⟨rfl,h.2⟩) id⟩
  ·intro b q hh;obtain ⟨h3,h4,h5⟩:=hr.dY i _ hg b q hh;have:¬ (b=W.b/\q=0):=by
    grind [hr.hap]
   rw [hup.cell _ _ (df h4) this,hup.frz _ _ (df h4)];simp_all
  ·exact fun b q hh h2=>(hr.hap i _ i _ W hg hg hW b q hh).2 ⟨rfl,h2.2⟩
 ·intro b q ho;left;obtain ⟨k,y,W',hk,hek,hw⟩:=ho;by_cases hne:k=i
  ·subst hne;rw [hW] at hek;cases hek;simp only [upd,bo,aw] at hk;subst hk;exact ⟨k,_,W,hg,hW,hw.imp (fun h=>⟨rfl,h.2⟩) id⟩
  ·exact ⟨k,y,W',by simpa [upd,hne] using hk,hek,hw⟩
theorem AL {k:TypeId} {z:Operand} {z':A} (ho:o.op= .mapUpdate t x y z) (ht:C.P.underlying t=some (.map k el)) (hd:C.P.underlying k=some (wz kd))
  (hx:okA x x'=true) (hy:okA y y'=true) (hz:okA z z'=true) (hk:wpR C σ nx K (sem (.wh kd x' y' z') fr σ nx)):∃ eff,K eff/\Good C o fr nx eff:=by
 simp only [sem] at hk;split at hk
 ·rename_i i kk vk n hi hkk hn;split at hk
  ·rename_i es hl;obtain ⟨⟨hm,rfl⟩,hk⟩:=hk;refine ⟨_,hk,Good.uz fun e F g w a hf hr hrd _=>?_⟩;have h1:=aO hx hf;have h2:=aO hy hf;have h3:=aO hz hf;rw [hi] at h1;rw [hkk] at h2;rw [hn] at h3;have h3:=bj.et h3;obtain ⟨W,hW,h1⟩:=h1;have h2:bj F kk (a.eval y):=h2;have hg:g i=some (.mp es):=hrd (i,.mp es) (by simp);obtain ⟨hb0,hc1,me,ck,hm1,hm2⟩:=hr.mp i es W hg hW;have hkr:=jh.of hm.1 h2;have hik:=jh.isKey hm.1 hkr;have hiks:=oQ hm.2 hm2;rcases kj hik me.toList 0 hiks with ⟨h4,h5⟩ | ⟨j,e0,h4,h5,h6,h7⟩
   ·refine ⟨_,?_,yz hr hg hW (me':=me.push ⟨a.eval y,.int .i64 n,ck⟩) (ck':=ck+1) (es':=dd es kk n) ?_⟩
    ·simp [execOp,ho,Instr.mapUpdate,run_underlying ht,h1,h3,MapKept.run_getObj_map hm1,MapKept.run_checkKey hd hik,MapKept.run_findKey hd h4,MapKept.run_setObj_map _ hm1,Result.andThen,ax]
    ·unfold Am;rw [Array.toList_push];exact tG hm.1 hkr ⟨rfl,rfl⟩ hm.2 hm2 h5
   ·have hj:me[j]?=some e0:=by simpa using h5
    refine ⟨_,?_,yz hr hg hW (me':=me.modify j (fun e'=>{e' with key:=a.eval y,val:= .int .i64 n})) (ck':=ck) (es':=dd es kk n) ?_⟩
    ·simp [execOp,ho,Instr.mapUpdate,run_underlying ht,h1,h3,MapKept.run_getObj_map hm1,MapKept.run_checkKey hd hik,MapKept.run_findKey hd h4,hj,h6,MapKept.run_keyThatStays hik,MapKept.run_setObj_map _ hm1,Result.andThen,ax]
    ·unfold Am;rw [Array.toList_modify];exact pF hm.1 hkr (fun x=>⟨rfl,rfl⟩) hm.2 hm2 h5 h6 h7
  ·exact hk.elim
 ·exact hk.elim
end
def rP (P:Program) (t:TypeId):Option TypeId:=match P.underlying t with
 | some (.slice el)=>some el
 | _=>none
def isStr (P:Program) (t:TypeId):Bool:=match P.underlying t with
 | some .string=>true
 | _=>false
def BD (P:Program) (t:TypeId):Bool:=match P.underlying t with
 | some .bool=>true
 | _=>false
def BA (P:Program) (t:TypeId):Bool:=match P.underlying t with
 | some (.pointer _)=>true
 | _=>false
def intOf (P:Program) (t:TypeId):Option IntKind:=match P.underlying t with
 | some (.int k)=>some k
 | _=>none
def zj (P:Program) (t:TypeId):Option (Array Field):=match P.underlying t with
 | some (.struct fs)=>some fs
 | _=>none
def Cp (P:Program) (t:TypeId):Option Nat:=(P.info? t).map (·.size)
theorem jy (h:rP P t=some el):P.underlying t=some (.slice el):=by
 unfold rP at h;split at h
 ·rename_i hu;cases h;exact hu
 ·cases h
theorem l5 (h:isStr P t=true):P.underlying t=some .string:=by
 unfold isStr at h;split at h
 ·assumption
 ·cases h
theorem BC (h:BD P t=true):P.underlying t=some .bool:=by
 unfold BD at h;split at h
 ·assumption
 ·cases h
theorem Bz (h:BA P t=true):∃ el,P.underlying t=some (.pointer el):=by
 unfold BA at h;split at h
 ·exact ⟨_,by assumption⟩
 ·cases h
theorem n0 {k:IntKind} (h:intOf P t=some k):P.underlying t=some (.int k):=by
 unfold intOf at h;split at h
 ·rename_i hu;cases h;exact hu
 ·cases h
theorem qb (h:zj P t=some fs):P.underlying t=some (.struct fs):=by
 unfold zj at h;split at h
 ·rename_i hu;cases h;exact hu
 ·cases h
def A7:BinOp->Option Bool
 | .neq=>some true
 | .eql=>some false
 | _=>none
theorem uC {b:BinOp} (h:A7 b=some ne):b=(if ne then .neq else .eql):=by
 cases b<;>simp [A7] at h<;>subst h<;>rfl
def asB (op:Op):Option (Builtin×List Operand×List TypeId):=match op with
 | .call c=>match c.callee with
  | .builtin b=>some (b,c.args.toList,c.argTypes.toList)
  | _=>none
 | _=>none
theorem ny {op:Op} {b:Builtin} {l:List Operand} {ts:List TypeId} (h:asB op=some (b,l,ts)):∃ c,op= .call c/\c.callee= .builtin b/\c.args=l.toArray/\c.argTypes=ts.toArray:=by
 unfold asB at h;split at h
 ·rename_i c;split at h
  ·rename_i b' hb;cases h;exact ⟨c,rfl,hb,by simp,by simp⟩
  ·cases h
 ·cases h
def AQ:Operand->Operand->Bool
 | .tmp a,.tmp b=>decide (a=b)
 | .const (.int k n),.const (.int k' n')=>decide (k=k')&&decide (n=n')
 | _,_=>false
theorem AP (h:AQ x y=true):x=y:=by
 unfold AQ at h;split at h
 ·rw [ai h]
 ·simp only [ag,ak] at h;rw [h.1,h.2]
 ·cases h
def kOk (P:Program) (k:TypeId):Option IntKind->Bool
 | none=>isStr P k
 | some kk=>decide (intOf P k=some kk)
theorem Bf {k:TypeId} (h:kOk P k kd=true):P.underlying k=some (wz kd):=by
 cases kd with
 | none=>exact l5 h
 | some kk=>exact n0 (ai h)
def DS (P:Program) (el:TypeId):Bool:=match P.info? el with
 | some inf=>match inf.zero with
  | some (.int k n)=>decide (k= .i64)&&decide (n=0)
  | _=>false
 | none=>false
theorem Cg (h:DS P el=true) (w:World):(zeroValue el).run P w= .ok (.int .i64 0) w:=by
 unfold DS at h;split at h
 ·rename_i inf hinf;split at h
  ·rename_i k n hz;simp only [ag,ak] at h;obtain ⟨rfl,rfl⟩:=h;simp [zeroValue,typeInfo,ax,hinf,hz]
  ·cases h
 ·cases h
def okI (P:Program) (op:Op) (i:I):Bool :=
 match i with
 | .mv y=>match op with
  | .move x=>okA x y
  | .assign x=>okA x y
  | _=>false
 | .pick c' x' y'=>match op with
  | .pick c x y=>okA c c'&&okA x x'&&okA y y'
  | _=>false
 | .box y=>match op with
  | .box _ x=>okA x y
  | _=>false
 | .new z=>match op with
  | .alloc t=>okZ P t z
  | _=>false
 | .build z qs=>match op with
  | .build t ps=>match zj P t with
   | some fs=>okZ P t z&&(fs.toList.mapM (fun f=>(P.info? f.type).map fun i=>(f.offset,i.size))).isSome&&okQ P fs ps.toList qs
   | none=>false
  | _=>false
 | .lit wd as _=>match op with
  | .buildSlice t len ps=>match rP P t with
   | some el=>match P.info? el with
    | some inf=>inf.zero.isSome&&decide (inf.size=wd)&&decide (wd≠0)&&decide (len * wd<=16777216)&&decide (len=ps.size)&&qV 0 ps.toList as
    | none=>false
   | none=>false
  | _=>false
 | .ld n y=>match op with
  | .load t x=>okN P t n&&okA x y
  | _=>false
 | .sto n x' y'=>match op with
  | .store t x y=>decide (Cp P t=some n)&&okA x x'&&okA y y'
  | _=>false
 | .zC y=>match op with
  | .nilCheck x=>okA x y
  | _=>false
 | .bin b' x' y'=>match op with
  | .binOp b _ x y _=>decide (b=b')&&okA x x'&&okA y y'
  | _=>false
 | .beq ne x' y'=>match op with
  | .binOp b t x y _=>decide (A7 b=some ne)&&BD P t&&okA x x'&&okA y y'
  | _=>false
 | .peq ne x' y'=>match op with
  | .binOp b t x y _=>decide (A7 b=some ne)&&BA P t&&okA x x'&&okA y y'
  | _=>false
 | .aeq ne ks x' y'=>match op with
  | .binOp b t x y _=>match zj P t with
   | some fs=>decide (A7 b=some ne)&&A2 P 0 fs.toList ks&&!P.stoodInHeld t&&!P.eqGuardType P.depth t&&okA x x'&&okA y y'
   | none=>false
  | _=>false
 | .not y=>match op with
  | .unOp .not _ x=>okA x y
  | _=>false
 | .neg y=>match op with
  | .unOp .neg _ x=>okA x y
  | _=>false
 | .sV k y=>match op with
  | .convert s t x=>(intOf P s).isSome&&decide (intOf P t=some k)&&okA x y
  | _=>false
 | .qB y=>match op with
  | .convert s t x=>match rP P s with
   | some el=>decide (intOf P el=some .u8)&&isStr P t&&okA x y
   | none=>false
  | _=>false
 | .nF _=>false
 | .ext y j=>match op with
  | .extract x j'=>decide (j'=j)&&okA x y
  | _=>false
 | .fad off y=>match op with
  | .fieldAddr s x f=>match zj P s with
   | some fs=>match fs[f]? with
    | some fd=>match Cp P fd.type with
     | some k=>decide (fd.offset=off)&&decide (k≠0)&&okA x y
     | none=>false
    | none=>false
   | none=>false
  | _=>false
 | .fld off n y=>match op with
  | .field s x f=>match zj P s with
   | some fs=>match fs[f]? with
    | some fd=>decide (fd.offset=off)&&okN P fd.type n&&okA x y
    | none=>false
   | none=>false
  | _=>false
 | .iad wd x' y'=>match op with
  | .indexAddr t x y=>match rP P t with
   | some el=>decide (Cp P el=some wd)&&okA x x'&&okA y y'
   | none=>false
  | _=>false
 | .idx x' y'=>match op with
  | .index t x y=>isStr P t&&okA x x'&&okA y y'
  | _=>false
 | .xB x' lo' hi'=>match op with
  | .slice t x lo hi none=>isStr P t&&okA x x'&&okO lo lo'&&okO hi hi'
  | _=>false
 | .slc wd x' lo' hi'=>match op with
  | .slice t x lo hi none=>match rP P t with
   | some el=>decide (Cp P el=some wd)&&okA x x'&&okO lo lo'&&okO hi hi'
   | none=>false
  | _=>false
 | .zm x'=>match asB op with
  | some (.len,[x],[t])=>isStr P t&&okA x x'
  | _=>false
 | .len x'=>match asB op with
  | some (.len,[x],[t])=>(rP P t).isSome&&okA x x'
  | _=>false
 | .mx x' y'=>match asB op with
  | some (.max,[x,y],_)=>okA x x'&&okA y y'
  | _=>false
 | .mn x' y'=>match asB op with
  | some (.min,[x,y],_)=>okA x x'&&okA y y'
  | _=>false
 | .app wd x' y' _=>match asB op with
  | some (.append,[x,y],[t,t'])=>match rP P t with
   | some el=>match P.info? el with
    | some inf=>match inf.zero with
     | some z=>decide (t=t')&&decide (inf.size=wd)&&decide (wd≠0)&&decide (z.cells.size=wd)&&decide (inf.bytes<=65536)&&okA x x'&&okA y y'
     | none=>false
    | none=>false
   | none=>false
  | _=>false
 | .mks wd zs x'=>match op with
  | .makeSlice t x y=>match rP P t with
   | some el=>match P.info? el with
    | some inf=>match inf.zero with
     | some z=>okA x x'&&okA y x'&&AQ x y&&decide (inf.size=wd)&&decide (z.cells.size=wd)&&decide (inf.bytes<=65536)&&xf z.cells.toList zs
     | none=>false
    | none=>false
   | none=>false
  | _=>false
 | .call f as=>match op with
  | .call c=>match c.callee with
   | .value (.func f')=>decide (f=f')&&uy c.args.toList as
   | _=>false
  | _=>false
 | .r0 f' as=>match op with
  | .call c=>match c.callee with
   | .value f=>okA f f'&&uy c.args.toList as
   | _=>false
  | _=>false
 | .mkf f as=>match op with
  | .makeFunc (.func f') first caps=>decide (f'=f)&&decide (first.size=0)&&uy caps.toList as
  | _=>false
 | .mkm=>match op with
  | .makeMap _ none=>true
  | _=>false
 | .lkp ok kd x' y'=>match op with
  | .lookup t x y ok'=>match P.underlying t with
   | some (.map k el)=>decide (ok'=ok)&&kOk P k kd&&DS P el&&okA x x'&&okA y y'
   | _=>false
  | _=>false
 | .wh kd x' y' z'=>match op with
  | .mapUpdate t x y z=>match P.underlying t with
   | some (.map k el)=>kOk P k kd&&okA x x'&&okA y y'&&okA z z'
   | _=>false
  | _=>false
 | .cpy wd x' y'=>match asB op with
  | some (.copy,[x,y],[t,_])=>match rP P t with
   | some el=>match P.info? el with
    | some inf=>decide (inf.size=wd)&&decide (wd≠0)&&okA x x'&&okA y y'
    | none=>false
   | none=>false
  | _=>false
 | .opn _ _=>false
 | .cls _ _ _ _=>false
 | .out _ _=>false
 | .inn _=>false
 | .pk _ _=>false
 | .wa _ _ _=>false
 | .wF _=>false
 | .yj wd x' y' _=>match asB op with
  | some (.append,[x,y],[t,t'])=>match rP P t with
   | some el=>match P.info? el with
    | some inf=>match inf.zero with
     | some z=>decide (t=t')&&decide (inf.size=wd)&&decide (wd≠0)&&decide (z.cells.size=wd)&&decide (inf.bytes<=65536)&&okA x x'&&okA y y'
     | none=>false
    | none=>false
   | none=>false
  | _=>false
theorem vP {o:Oper} {i:I} (h:okI C.P o.op i=true) (hk:wpR C σ nx K (sem i fr σ nx)):∃ eff,K eff/\Good C o fr nx eff:=by
 generalize ho:o.op=op at h;cases i with
 | mv y =>
  cases op<;>simp only [okI] at h<;>first | exact AK (.inl ho) h hk | exact AK (.inr ho) h hk | cases h
 | pick c' x' y' =>
  cases op<;>simp only [okI,ag] at h<;>first | exact AI ho h.1.1 h.1.2 h.2 hk | cases h
 | box y =>
  cases op<;>simp only [okI] at h<;>first | exact CK ho h hk | cases h
 | new z =>
  cases op<;>simp only [okI] at h<;>first | exact Cw ho h hk | cases h
 | build z qs =>
  cases op<;>simp only [okI] at h<;>try (cases h;done)
  rename_i t ps;split at h
  ·rename_i fs hfs;simp only [ag] at h;exact zu ho (qb hfs) h.1.1 h.1.2 h.2 hk
  ·cases h
 | lit wd as m =>
  cases op<;>simp only [okI] at h<;>try (cases h;done)
  rename_i t len ps;split at h
  ·rename_i el hel;split at h
   ·rename_i inf hinf;simp only [ag,ak] at h;obtain ⟨⟨⟨⟨⟨h1,h2⟩,h3⟩,h4⟩,h5⟩,h6⟩:=h;refine CC ho (jy hel) (by rw [hinf];simp [h2]) h3 ?_ h4 h5 h6 hk;obtain ⟨z,hz⟩:=bX.1 h1;exact ⟨z,fun w=>by simp [zeroValue,typeInfo,ax,hinf,hz]⟩
   ·cases h
  ·cases h
 | ld n y =>
  cases op<;>simp only [okI,ag] at h<;>first | exact D3 ho h.1 h.2 hk | cases h
 | sto n x' y' =>
  cases op<;>simp only [okI,ag,ak] at h<;>first | exact Cs ho h.1.1 h.1.2 h.2 hk | cases h
 | zC y =>
  cases op<;>simp only [okI] at h<;>first | exact AJ ho h hk | cases h
 | bin b' x' y' =>
  cases op<;>simp only [okI,ag,ak] at h<;>try (cases h;done)
  obtain ⟨⟨rfl,h2⟩,h3⟩:=h;exact CL ho h2 h3 hk
 | beq ne x' y' =>
  cases op<;>simp only [okI,ag,ak] at h<;>try (cases h;done)
  obtain ⟨⟨⟨h1,h4⟩,h2⟩,h3⟩:=h;rw [uC h1] at ho;exact CM ho (BC h4) h2 h3 hk
 | peq ne x' y' =>
  cases op<;>simp only [okI,ag,ak] at h<;>try (cases h;done)
  obtain ⟨⟨⟨h1,h4⟩,h2⟩,h3⟩:=h;rw [uC h1] at ho;exact Cu ho (Bz h4) h2 h3 hk
 | aeq ne ks x' y' =>
  cases op<;>simp only [okI] at h<;>try (cases h;done)
  split at h<;>try (cases h;done)
  rename_i fs hfs;simp only [ag,ak,ey] at h;obtain ⟨⟨⟨⟨⟨h1,h2⟩,h3⟩,h4⟩,h5⟩,h6⟩:=h;rw [uC h1] at ho;exact CO ho (qb hfs) h2 h3 h4 h5 h6 hk
 | not y =>
  cases op<;>simp only [okI] at h<;>try (cases h;done)
  rename_i u t x;cases u<;>first | exact Cv ho h hk | (cases h;done)
 | neg y =>
  cases op<;>simp only [okI] at h<;>try (cases h;done)
  rename_i u t x;cases u<;>first | exact Cx ho h hk | (cases h;done)
 | sV k y =>
  cases op<;>simp only [okI,ag,ak] at h<;>try (cases h;done)
  obtain ⟨k',hk'⟩:=bX.1 h.1.1;exact zq ho ⟨k',n0 hk'⟩ (n0 h.1.2) h.2 hk
 | qB y =>
  cases op<;>simp only [okI] at h<;>try (cases h;done)
  split at h
  ·rename_i el hel;simp only [ag,ak] at h;exact zp ho (jy hel) (l5 h.1.2) (n0 h.1.1) h.2 hk
  ·cases h
 | nF y=>cases h
 | ext y j =>
  cases op<;>simp only [okI,ag,ak] at h<;>try (cases h;done)
  obtain ⟨rfl,h2⟩:=h;exact CI ho h2 hk
 | fad off y =>
  cases op<;>simp only [okI] at h<;>try (cases h;done)
  split at h
  ·rename_i fs hfs;split at h
   ·rename_i fd hfd;split at h
    ·rename_i k hsz;simp only [ag,ak] at h;exact CH ho (qb hfs) hfd h.1.1 hsz h.1.2 h.2 hk
    ·cases h
   ·cases h
  ·cases h
 | fld off n y =>
  cases op<;>simp only [okI] at h<;>try (cases h;done)
  split at h
  ·rename_i fs hfs;split at h
   ·rename_i fd hfd;simp only [ag,ak] at h;exact CG ho (qb hfs) hfd h.1.1 h.1.2 h.2 hk
   ·cases h
  ·cases h
 | iad wd x' y' =>
  cases op<;>simp only [okI] at h<;>try (cases h;done)
  split at h
  ·rename_i el hel;simp only [ag,ak] at h;exact CF ho (jy hel) h.1.1 h.1.2 h.2 hk
  ·cases h
 | idx x' y' =>
  cases op<;>simp only [okI,ag] at h<;>first | exact CE ho (l5 h.1.1) h.1.2 h.2 hk | cases h
 | xB x' lo' hi' =>
  cases op<;>simp only [okI] at h<;>try (cases h;done)
  rename_i t x lo hi mx;cases mx<;>try (cases h;done)
  simp only [ag] at h;exact AG ho (l5 h.1.1.1) h.1.1.2 h.1.2 h.2 hk
 | slc wd x' lo' hi' =>
  cases op<;>simp only [okI] at h<;>try (cases h;done)
  rename_i t x lo hi mx;cases mx<;>try (cases h;done)
  dsimp only at h;split at h<;>try (cases h;done)
  rename_i el hel;simp only [ag,ak] at h;exact Ct ho (jy hel) h.1.1.1 h.1.1.2 h.1.2 h.2 hk
 | zm x' =>
  simp only [okI] at h;split at h<;>try (cases h;done)
  rename_i x t hb;obtain ⟨c,h1,h2,h3,h4⟩:=ny hb;simp only [ag] at h;exact AH ⟨c,ho.trans h1,h2,h3,h4⟩ (l5 h.1) h.2 hk
 | len x' =>
  simp only [okI] at h;split at h<;>try (cases h;done)
  rename_i x t hb;obtain ⟨c,h1,h2,h3,h4⟩:=ny hb;simp only [ag] at h;obtain ⟨el,hel⟩:=bX.1 h.1;exact CD ⟨c,ho.trans h1,h2,h3,h4⟩ (jy hel) h.2 hk
 | mx x' y' =>
  simp only [okI] at h;split at h<;>try (cases h;done)
  rename_i x y ts hb;obtain ⟨c,h1,h2,h3,h4⟩:=ny hb;simp only [ag] at h;exact D1 ⟨c,ho.trans h1,h2,h3⟩ h.1 h.2 hk
 | mn x' y' =>
  simp only [okI] at h;split at h<;>try (cases h;done)
  rename_i x y ts hb;obtain ⟨c,h1,h2,h3,h4⟩:=ny hb;simp only [ag] at h;exact D2 ⟨c,ho.trans h1,h2,h3⟩ h.1 h.2 hk
 | app wd x' y' fz =>
  simp only [okI] at h;split at h<;>try (cases h;done)
  rename_i x y t t' hb;obtain ⟨c,h1,h2,h3,h4⟩:=ny hb;split at h<;>try (cases h;done)
  rename_i el hel;split at h<;>try (cases h;done)
  rename_i inf hinf;split at h<;>try (cases h;done)
  rename_i z hz;simp only [ag,ak] at h;obtain ⟨⟨⟨⟨⟨⟨rfl,h6⟩,h7⟩,h8⟩,h9⟩,h10⟩,h11⟩:=h;exact CN ⟨c,ho.trans h1,h2,h3,h4⟩ (jy hel) hinf hz h6 h7 h8 h9 h10 h11 hk
 | mks wd zs x' =>
  cases op<;>simp only [okI] at h<;>try (cases h;done)
  split at h<;>try (cases h;done)
  rename_i el hel;split at h<;>try (cases h;done)
  rename_i inf hinf;split at h<;>try (cases h;done)
  rename_i z hz;simp only [ag,ak] at h;obtain ⟨⟨⟨⟨⟨⟨h5,h6⟩,h7⟩,h8⟩,h9⟩,h10⟩,h11⟩:=h;rw [<- AP h7] at ho;exact Cy ho (jy hel) hinf hz h8 h9 h10 h11 h5 hk
 | call f as =>
  cases op<;>simp only [okI] at h<;>try (cases h;done)
  split at h<;>try (cases h;done)
  rename_i c f' hc;simp only [ag,ak] at h;obtain ⟨rfl,h2⟩:=h;exact AN ho hc h2 hk
 | r0 f' as =>
  cases op<;>simp only [okI] at h<;>try (cases h;done)
  split at h<;>try (cases h;done)
  rename_i c f hc;simp only [ag,ak] at h;exact zr ho hc h.1 h.2 hk
 | mkf f as =>
  cases op<;>simp only [okI] at h<;>try (cases h;done)
  split at h<;>try (cases h;done)
  rename_i heq;simp only [ag,ak] at h;obtain ⟨⟨rfl,h2⟩,h3⟩:=h;cases heq;exact CA ho h2 h3 hk
 | mkm =>
  cases op<;>simp only [okI] at h<;>try (cases h;done)
  rename_i t rs;cases rs with
  | none=>exact Cz ho hk
  | some x=>cases h
 | lkp ok kd x' y' =>
  cases op<;>simp only [okI] at h<;>try (cases h;done)
  split at h<;>try (cases h;done)
  rename_i ht;simp only [ag,ak] at h;obtain ⟨⟨⟨⟨rfl,h2⟩,h3⟩,h4⟩,h5⟩:=h;exact CB ho ht (Bf h2) (Cg h3) h4 h5 hk
 | wh kd x' y' z' =>
  cases op<;>simp only [okI] at h<;>try (cases h;done)
  split at h<;>try (cases h;done)
  rename_i ht;simp only [ag] at h;exact AL ho ht (Bf h.1.1.1) h.1.1.2 h.1.2 h.2 hk
 | cpy wd x' y' =>
  simp only [okI] at h;split at h<;>try (cases h;done)
  rename_i x y t t' hb;obtain ⟨c,h1,h2,h3,h4⟩:=ny hb;split at h<;>try (cases h;done)
  rename_i el hel;split at h<;>try (cases h;done)
  rename_i inf hinf;simp only [ag,ak] at h;obtain ⟨⟨⟨h6,h7⟩,h10⟩,h11⟩:=h;exact CJ ⟨c,ho.trans h1,h2,h3,h4⟩ (jy hel) hinf h6 h7 h10 h11 hk
 | opn=>cases h
 | cls=>cases h
 | out=>cases h
 | inn=>cases h
 | pk=>cases h
 | wa=>cases h
 | wF=>cases h
 | yj wd x' y' ws =>
  simp only [okI] at h;split at h<;>try (cases h;done)
  rename_i x y t t' hb;obtain ⟨c,h1,h2,h3,h4⟩:=ny hb;split at h<;>try (cases h;done)
  rename_i el hel;split at h<;>try (cases h;done)
  rename_i inf hinf;split at h<;>try (cases h;done)
  rename_i z hz;simp only [ag,ak] at h;obtain ⟨⟨⟨⟨⟨⟨rfl,h6⟩,h7⟩,h8⟩,h9⟩,h10⟩,h11⟩:=h;exact AO ⟨c,ho.trans h1,h2,h3,h4⟩ (jy hel) hinf hz h6 h7 h8 h9 h10 h11 hk
end Go.Proofs.YtggoiofammbchaaGreatDoor.Loc
