/- Part 4 of a chain that ends in the statement named in GOCLAIM.json; no condition. -/
import Derived.Test.YtggoiofammbchaaGreatDoorK3
set_option maxRecDepth 100000
set_option maxHeartbeats 2000000
set_option linter.all false
namespace Go.Proofs.YtggoiofammbchaaGreatDoor.Loc
open Go
variable {α:Type} {F:Fz} {P:Program} {a:List (List D)} {b cap i k len n off p r wd:Nat} {c:V} {cs:Array Value} {ds:List D} {e:Emb} {el t:TypeId} {g:Sto} {inf:TypeInfo} {rd:List (Nat×O)} {rows:List (List V)} {sh sh1 sh2:Sh} {us:List Value} {v z:Value} {vs:List V} {w w1:World} {x:O} {x' y':A} {y:Operand}
theorem b9.setCell (w:World) (b p:Nat) (v:Value):b9 (fun b' o=>b'=b/\o=p) w (w.setCell ⟨b,p,none⟩ v) where
 os:=rfl
 tape:=rfl
 output:=rfl
 size:=by simp [World.setCell]
 blk:=fun b' hb ho=>RowKit.Below.heap_setCell _ _ _ _ (fun h=>ho p ⟨h,rfl⟩)
 cell:=fun b' o hb ho=>World.cell?_setCell_other _ _ _ _ (by simp;intro h1 h2;exact ho ⟨h1.symm,h2.symm⟩)
 frz:=fun b' o hb=>World.frozen?_setCell _ _ _ _
theorem b9.setCells (b:Nat):∀ (us:List Value) (p:Nat) (w:World),b9 (fun b' o=>b'=b/\p<=o/\o < p+us.length) w (w.setCells b p us)
 | [],p,w=>b9.refl _ _
 | v::us,p,w=>by
  rw [World.setCells];refine ((b9.setCell w b p v).mono ?_).trans (b9.setCells b us (p+1) _) ?_
  ·simp
  ·grind
theorem cK.one {cs:List V} (h:cK (cj e F) cs us):∀ v∈us,v.oneCell'=true:=by
 induction h with
 | nil=>intro v hv;cases hv
 | cons hh _ ih =>
  grind [cj.one]
theorem pA (hs:(P.info? t).map (·.size)=some n) (hv:v.cells=us.toArray) (hn:us.length=n) (h1:∀ u∈us,u.oneCell'=true) 
  (hc:∀ j,j < n->(w.cell? ⟨b,p+j,none⟩).isSome=true/\w.frozen? ⟨b,p+j,none⟩=false):(Instr.storeAt t (.pointer (some ⟨b,p,none⟩)) v).run P w= .ok () (w.setCells b p us):=by
 have h2:=run_storeCells_cells (P:=P) b p us 0 w (fun j hj=>by simpa using (hc j (by omega)).1) (fun j hj=>by simpa using (hc j (by omega)).2) h1;simp only [cr] at h2;have h3:¬ v.cells.size≠n:=by rw [hv];simpa using hn
 simp only [Instr.storeAt,Instr.sureAddr,ax,bq,aF,storeVar,kt hs,h3,aV];simp_all
section
variable {C:Ctx} {o:Oper} {fr:Fr} {σ:Ob} {nx:Nat} {K:Eff->Prop}
theorem sZ (hr:Rel C e F g w) {x':O} {W:Win} (hg:g i=some x) (he:e i=some W) (hc:cK (cj e F) vs us)
  (h1:∀ r' j c,x'.cell r' j=some c->(r'=r/\p<=j/\j < p+vs.length/\vs[j - p]?=some c)\/(¬ (r'=r/\p<=j/\j < p+vs.length)/\x.cell r' j=some c))
  (h2:∀ j,j < vs.length->∃ c,x.cell r (p+j)=some c)
  (hd:∀ v rows,x'= .da v rows->∃ rows0,x= .da v rows0/\rows0.length=rows.length/\((∀ row∈rows0,row.length=v)->∀ row∈rows,row.length=v)) (hv:∀ v rows,x'= .va v rows->∃ rows0,x= .va v rows0/\rows0.length=rows.length/\((∀ row∈rows0,row.length=v)->∀ row∈rows,row.length=v)) (hob:x'.dU=x.dU) (hno:∀ v rows,x'≠ .oa v rows) (hpl:x.plain=true) (hpl':x'.plain=true) :
  Res C e F g w nx 0 .un (upd g i (some x')) undef (w.setCells W.b (W.base+r * W.wd+p) us):=by
 have hin:∀ j,j < vs.length->p+j < W.wd/\r * W.wd+(p+j) < W.cap:=fun j hj=>by
  obtain ⟨c,hc'⟩:=h2 j hj;exact hr.fit i x W hg he r (p+j) c hc'
 have hl:=hc.len;have hup:=b9.setCells W.b us (W.base+r * W.wd+p) w;have hS:∀ b o,(b=W.b/\W.base+r * W.wd+p<=o/\o < W.base+r * W.wd+p+us.length)->InW W b o:=by
  rintro b o ⟨rfl,h3,h4⟩
  have:=(hin (o - (W.base+r * W.wd+p)) (by omega)).2;exact ⟨rfl,by omega,by omega⟩
 refine ⟨e,F,fun _ _ y=>y,fun _ _=>rfl,fun _ _ _ y=>y,trivial,?_,hup.mono fun b o h=>⟨i,x,W,hg,he,.inl (.of hpl (hS b o h))⟩,?_,fun _ _ u y=> .inl ⟨u,y⟩⟩
 ·obtain ⟨W0,hW0,hng⟩:=hr.dom i x hg;rw [he] at hW0;cases hW0;have hcellsome:∀ j,j < us.length->(w.cell? ⟨W.b,W.base+r * W.wd+p+j,none⟩).isSome=true:=fun j hj=>by
   have:=(hr.own i x W hg he hpl (r * W.wd+(p+j)) (hin j (by omega)).2).1
   rwa [show W.base+(r * W.wd+(p+j))=W.base+r * W.wd+p+j by omega] at this
  have hout:∀ r' j c,¬ (r'=r/\p<=j/\j < p+vs.length)->x.cell r' j=some c->(w.setCells W.b (W.base+r * W.wd+p) us).cell? ⟨W.b,W.base+r' * W.wd+j,none⟩=w.cell? ⟨W.b,W.base+r' * W.wd+j,none⟩:=by
   intro r' j c hno h3;rw [World.cell?_setCells_out];intro _ _;have hj:=(hr.fit i x W hg he r' j c h3).1;by_cases hz:vs.length=0
   ·omega
   ·have hp:=(hin (vs.length - 1) (by omega)).1;show W.base+r' * W.wd+j < W.base+r * W.wd+p\/W.base+r * W.wd+p+us.length<=W.base+r' * W.wd+j;rcases Nat.lt_trichotomy r' r with hlt | rfl | hlt
    ·left;have:=bw W.wd (show r'+1<=r from hlt)
     grind
    ·omega
    ·right;have:=bw W.wd (show r+1<=r' from hlt)
     grind
  have hIW:∀ b o,(InR x' W b o\/F.H i b o)->(InR x W b o\/F.H i b o):=fun b o h=>h.imp (fun h=> .of hpl h.2) id
  rw [<- oJ F i];refine hr.put (j:=i) (x':=x') (W':=W) hup ?_ (by simp [upd]) he (fun _ _ y=>y) (fun k y hne hk=>by simpa [upd,hne] using hk) ?_ ?_ hng ?_ ?_ ?_ ?_ ?_ ?_ ?_ ?_ hpl' ?_ ?_ ?_ ?_
  ·omega
  ·intro b o hs k y W' hne hk hek hw;have hk':g k=some y:=by simpa [upd,hne] using hk
   exact hr.sep hg he hk' hek (Ne.symm hne) (.inl (.of hpl (hS b o hs))) hw
  ·intro b o u hs hu;exact hr.dJ b o u hu ⟨i,x,W,hg,he,.inl (.of hpl (hS b o hs))⟩
  ·intro r' j c hc';rcases h1 r' j c hc' with ⟨rfl,h3,h4,h5⟩ | ⟨_,h3⟩
   ·grind
   ·exact hr.fit i x W hg he r' j c h3
  ·intro r' j c hc' hoc;rcases h1 r' j c hc' with ⟨rfl,h3,h4,h5⟩ | ⟨hno,h3⟩
   ·obtain ⟨u,h6,h7⟩:=hc.get _ c h5;have hj:j - p < us.length:=by omega
    refine ⟨u,?_,h7⟩;have:=World.cell?_setCells_in W.b us (W.base+r' * W.wd+p) w hcellsome (j - p) hj
    grind
   ·obtain ⟨u,h6,h7⟩:=hr.cells i x W hg he r' j c h3 (by rwa [<- hob]);simp_all
  ·intro k hk;obtain ⟨h3,h4⟩:=hr.own i x W hg he hpl k hk;exact ⟨World.isSome_setCells _ _ _ _ _ h3,by rw [World.frozen?_setCells];exact h4⟩
  ·intro v rows hx;obtain ⟨rows0,h3,h4,h5⟩:=hd v rows hx;have:=hr.wd i x W hg he v rows0 h3;simp_all
  ·intro v rows hx;obtain ⟨rows0,h3,h4,h5⟩:=hv v rows hx;have:=hr.wv i x W hg he v rows0 h3;simp_all
  ·simp_all
  ·intro k y W' hne hk hek b o hw hw';have hk':g k=some y:=by simpa [upd,hne] using hk
   grind [hr.sep]
  ·intro b o u hu hw;exact hr.dJ b o u hu ⟨i,x,W,hg,he,hIW b o hw⟩
  ·rintro b o ⟨rfl,h3,h4⟩
   have:=hcellsome (o - (W.base+r * W.wd+p)) (by omega)
   rwa [show W.base+r * W.wd+p+(o - (W.base+r * W.wd+p))=o by omega] at this
  ·rw [Hid.plain (fP hpl')];obtain ⟨Sub,q1,q2,q3⟩:=(Hid.plain (fP hpl)).1 (hr.hid i x W hg he);refine ⟨Sub,q1,q2,fun r' j dp wd rows hc'=>?_⟩;rcases h1 r' j _ hc' with ⟨rfl,h3,h4,h5⟩ | ⟨hno,h3⟩
   ·obtain ⟨u,h6,h7⟩:=hc.get _ _ h5;exact h7.elim
   ·obtain ⟨u,h6,h7⟩:=q3 r' j dp wd rows h3;exact ⟨u,(hout r' j _ hno h3).trans h6,h7.mono (fun _ _ _ y=>y) hup fun b o ht hs=>(q1 r' j b o hs).2 (hS b o ht)⟩
  ·intro b o hh;obtain ⟨h3,h4,h5⟩:=hr.dY i x hg b o hh;have:¬ (b=W.b/\W.base+r * W.wd+p<=o/\o < W.base+r * W.wd+p+us.length):=fun hs=>(hr.hap i x i x W hg hg he b o hh).2 (.of hpl (hS b o hs))
   rw [hup.cell _ _ (df h4) this,hup.frz _ _ (df h4)];simp_all
  ·exact fun b o hh h2=>(hr.hap i x i x W hg hg he b o hh).2 (.of hpl h2.2)
 ·intro b o ho;left;obtain ⟨k,y,W',hk,hek,hw⟩:=ho;by_cases hne:k=i
  ·subst hne;rw [he] at hek;cases hek;refine ⟨k,x,W,hg,he,hw.imp (fun h=> .of hpl h.2) id⟩
  ·exact ⟨k,y,W',by simpa [upd,hne] using hk,hek,hw⟩
theorem Good.uz {eff:Eff}
  (h:∀ (e:Emb) (F:Fz) (g:Sto) (w:World) (a:Act),FR e F fr a->Rel C e F g w->(∀ p∈eff.rd,g p.1=some p.2)->(∀ i,nx<=i->i < nx+eff.n->e i=none) ->
   ∃ w',(execOp a.eval o).run C.P w= .ok .skip w'/\Res C e F g w nx eff.n eff.v (cH g eff.pt) undef w'):Good C o fr nx eff:=by
 intro e F g w a hf hr hrd hn next Q hk;obtain ⟨w',h1,h2⟩:=h e F g w a hf hr hrd hn;unfold Oper.wp;rw [h1];exact hk undef w' h2
theorem ot:∀ (vs:List V) (ds:List D),p9 vs=some ds->ds.length=vs.length/\∀ (e:Emb) (F:Fz) (us:List Value),cK (cj e F) vs us->cK (cj e F) (lT ds) us
 | [],ds,h=>by cases h;exact ⟨rfl,fun e F us h=>h⟩
 | x::l,ds,h=>by
  simp only [p9] at h;split at h
  ·rename_i d ds' hx hl;cases h;obtain ⟨h1,h2⟩:=ot l ds' hl;refine ⟨by simp [h1],fun e F us h=>?_⟩;cases h with
   | cons hh ht=>exact .cons (jD (b6.lF (fu.lR hh)) hx) (h2 e F _ ht)
  ·cases h
theorem qX:∀ ds:List D,(lT ds).length=ds.length
 | []=>rfl
 | x::l=>by simp [lT,qX l]
theorem Cs {x:Operand} (ho:o.op= .store t x y) (hs:(C.P.info? t).map (·.size)=some n) (hx:okA x x'=true) (hy:okA y y'=true)
  (hk:wpR C σ nx K (sem (.sto n x' y') fr σ nx)):∃ eff,K eff/\Good C o fr nx eff:=by
 have key:∀ (i r p:Nat) (ob ob':O) (vs:List V),x'.ev fr= .ptr i r p->(y'.ev fr).pe=some vs->vs.length=n ->
   (∀ (e:Emb) (F:Fz) (us:List Value),cK (cj e F) vs us->∃ vs':List V,vs'.length=vs.length/\cK (cj e F) vs' us /\
    ∀ r' j c,ob'.cell r' j=some c->(r'=r/\p<=j/\j < p+vs'.length/\vs'[j - p]?=some c)\/(¬ (r'=r/\p<=j/\j < p+vs'.length)/\ob.cell r' j=some c)) ->
   (∀ j,j < vs.length->∃ c,ob.cell r (p+j)=some c) ->
   (∀ v rows,ob'= .da v rows->∃ rows0,ob= .da v rows0/\rows0.length=rows.length/\((∀ row∈rows0,row.length=v)->∀ row∈rows,row.length=v))->(∀ v rows,ob'= .va v rows->∃ rows0,ob= .va v rows0/\rows0.length=rows.length/\((∀ row∈rows0,row.length=v)->∀ row∈rows,row.length=v))->ob'.dU=ob.dU->(∀ v rows,ob'≠ .oa v rows)->ob.plain=true->ob'.plain=true ->
   Good C o fr nx {v:= .un,rd:=[(i,ob)],pt:=[(i,some ob')]}:=by
  intro i r p ob ob' vs hp hcs hlen h1 h2 hd hv hoo hno hob hob';refine Good.uz fun e F g w a hf hr hrd _=>?_
  have h3:=aO hx hf;rw [hp] at h3;obtain ⟨W,h4,h5⟩:=h3;obtain ⟨us,h6,h7⟩:=jU (aO hy hf) hcs;obtain ⟨vs',hl',h8,h9⟩:=h1 e F us h7;have hg:=hrd (i,ob) (by simp);have hst:=sZ (nx:=nx) hr hg h4 h8 h9 (fun j hj=>h2 j (by omega)) hd hv hoo hno hob hob';refine ⟨_,?_,hst⟩;have hrun:=pA (P:=C.P) (t:=t) (n:=n) (b:=W.b) (p:=W.base+r * W.wd+p) (v:=a.eval y) hs h6 (by rw [<- h7.len];exact hlen) h7.one (w:=w) (fun j hj=>by
   obtain ⟨c,hc⟩:=h2 j (by omega);have hfit:=hr.fit i ob W hg h4 r (p+j) c hc;have:=hr.own i ob W hg h4 hob (r * W.wd+(p+j)) hfit.2
   rwa [show W.base+(r * W.wd+(p+j))=W.base+r * W.wd+p+j by omega] at this)
  simp only [execOp,ho,ax,h5,hrun,aF,bq]
 simp only [sem] at hk;split at hk
 ·rename_i vs i r p hcs hp;cases hlen:Nat.beq vs.length n with
  | false=>simp only [hlen] at hk;exact hk.elim
  | true =>
   simp only [hlen] at hk;have hn:=aN hlen;split at hk
   ·rename_i cs hl;split at hk
    ·rename_i cs' hsp;obtain ⟨h1,h2,h3⟩:=fx _ _ _ _ hsp;refine ⟨_,hk,key i 0 p _ _ vs hp hcs hn ?_ ?_ (by intro v rows h;cases h) (by intro v rows h;cases h) rfl nofun rfl rfl⟩
     ·intro e F us hc;refine ⟨vs,rfl,hc,fun r' j c hc'=>?_⟩;simp only [O.cell] at hc';split at hc'
      ·rename_i h0;rw [h3 j] at hc';split at hc'
       ·rename_i hj;exact .inl ⟨h0,hj.1,hj.2,hc'⟩
       ·rename_i hj;exact .inr ⟨fun h=>hj h.2,by simp [O.cell,h0,hc']⟩
      ·cases hc'
     ·intro j hj;have:vs≠[]:=by rintro rfl;simp at hj
      rw [ab this] at h2;exact ⟨cs[p+j],by simp [O.cell,aa (show p+j < cs.length by omega)]⟩
    ·exact hk.elim
   ·rename_i wd rows hl;obtain ⟨_,row,eff,hrow,he,hk⟩:=hk;dsimp only at he;split at he
    ·rename_i ds hds;split at he
     ·rename_i row' hsp;cases he;obtain ⟨h1,h2,h3⟩:=fx _ _ _ _ hsp;obtain ⟨h4,h5⟩:=ot _ _ hds;refine ⟨_,hk,key i r p _ _ vs hp hcs hn ?_ ?_ (by intro v rows' h;cases h;exact ⟨rows,rfl,by simp,fun hh row hrow'=>(List.mem_or_eq_of_mem_set hrow').elim (hh row) (fun e=>by rw [e,h1];exact hh _ (aP hrow))⟩) (by intro v rows h;cases h) rfl nofun rfl rfl⟩
      ·intro e F us hc;refine ⟨lT ds,by rw [qX,h4],h5 e F us hc,fun r' j c hc'=>?_⟩;rw [qX];have hrl:r < rows.length:=(af.1 hrow).1;by_cases hr':r'=r
       ·subst hr';simp only [O.cell,List.getElem?_set_self hrl,bQ] at hc';rw [h3 j] at hc';split at hc'
        ·rename_i hj;exact .inl ⟨rfl,hj.1,hj.2,by rw [lS];exact hc'⟩
        ·rename_i hj;exact .inr ⟨fun h=>hj h.2,by simp only [O.cell,hrow,bQ];exact hc'⟩
       ·simp only [O.cell,List.getElem?_set_ne (Ne.symm hr')] at hc';exact .inr ⟨fun h=>hr' h.1,hc'⟩
      ·intro j hj;have:ds≠[]:=by rintro rfl;simp at h4;omega
       rw [ab this] at h2;exact ⟨.d row[p+j],by simp [O.cell,hrow,aa (show p+j < row.length by omega)]⟩
     ·cases he
    ·cases he
   ·rename_i wd rows hl;obtain ⟨_,row,eff,hrow,he,hk⟩:=hk;dsimp only at he;split at he
    ·rename_i row' hsp;cases he;obtain ⟨h1,h2,h3⟩:=fx _ _ _ _ hsp;refine ⟨_,hk,key i r p _ _ vs hp hcs hn ?_ ?_ (by intro v rows h;cases h) (by intro v rows' h;cases h;exact ⟨rows,rfl,by simp,fun hh row hrow'=>(List.mem_or_eq_of_mem_set hrow').elim (hh row) (fun e=>by rw [e,h1];exact hh _ (aP hrow))⟩) rfl nofun rfl rfl⟩
     ·intro e F us hc;refine ⟨vs,rfl,hc,fun r' j c hc'=>?_⟩;have hrl:r < rows.length:=(af.1 hrow).1;by_cases hr':r'=r
      ·subst hr';simp only [O.cell,List.getElem?_set_self hrl,bQ] at hc';rw [h3 j] at hc';split at hc'
       ·rename_i hj;exact .inl ⟨rfl,hj.1,hj.2,hc'⟩
       ·rename_i hj;exact .inr ⟨fun h=>hj h.2,by simp only [O.cell,hrow,bQ];exact hc'⟩
      ·simp only [O.cell,List.getElem?_set_ne (Ne.symm hr')] at hc';exact .inr ⟨fun h=>hr' h.1,hc'⟩
     ·intro j hj;have:vs≠[]:=by rintro rfl;simp at hj
      rw [ab this] at h2;exact ⟨row[p+j],by simp [O.cell,hrow,aa (show p+j < row.length by omega)]⟩
    ·cases he
   ·exact hk.elim
   ·exact hk.elim
   ·exact hk.elim
   ·rename_i cs h m k hl;split at hk
    ·rename_i ws hb hlk;simp only [ag,Nat.ble_eq,Nat.blt_eq] at hb;split at hk
     ·rename_i ws' hsp;obtain ⟨h1,h2,h3⟩:=fx _ _ _ _ hsp;refine ⟨_,hk,Good.uz fun e F g w a hf hr hrd _=>?_⟩;have hx1:=aO hx hf;rw [hp] at hx1;obtain ⟨W,h4,h5⟩:=hx1;obtain ⟨us,h6,h7⟩:=jU (aO hy hf) hcs;have hgi:=hrd (i,.rst cs h m k) (by simp);have hgk:=hrd (k,.st ws) (by simp);have hid:fw e F w (F.H i) W (.st cs) 0 h m k:=hr.hid i _ W hgi h4;have hcell:∀ j,j < vs.length->∃ c,(O.st ws).cell 0 (p - h+j)=some c:=by
       intro j hj;have:vs≠[]:=by rintro rfl;simp at hj
       rw [ab this] at h2;exact ⟨ws[p - h+j],by simp [O.cell,aa (show p - h+j < ws.length by omega)]⟩
      have hst:=sZ (nx:=nx) (r:=0) (p:=p - h) (x':= .st ws') hr hgk hid.kid h7 (fun r' j c hc'=>by
       simp only [O.cell] at hc';split at hc'
       ·rename_i h0;rw [h3 j] at hc';split at hc'
        ·rename_i hj;exact .inl ⟨h0,hj.1,hj.2,hc'⟩
        ·rename_i hj;exact .inr ⟨fun h=>hj h.2,by simp [O.cell,h0,hc']⟩
       ·cases hc') hcell (by intro v rows h;cases h) (by intro v rows h;cases h) rfl nofun rfl rfl
      rw [show W.base+0 * W.wd+h+0 * m+(p - h)=W.base+0 * W.wd+p by omega] at hst;refine ⟨_,?_,hst⟩;have hrun:=pA (P:=C.P) (t:=t) (n:=n) (b:=W.b) (p:=W.base+0 * W.wd+p) (v:=a.eval y) hs h6 (by rw [<- h7.len];exact hn) h7.one (w:=w) (fun j hj=>by
       obtain ⟨c,hc⟩:=hcell j (by omega);have hfit:=hr.fit k (.st ws) _ hgk hid.kid 0 (p - h+j) c hc;have:=hr.own k (.st ws) _ hgk hid.kid rfl (0 * m+(p - h+j)) hfit.2;simp only at this
       rwa [show W.base+0 * W.wd+h+(0 * m+(p - h+j))=W.base+0 * W.wd+p+j by omega] at this)
      simp only [execOp,ho,ax,h5,hrun,aF,bq]
     ·exact hk.elim
    ·exact hk.elim
   ·exact hk.elim
 ·exact hk.elim
end
def qV:Nat->List (Nat×Operand)->List A->Bool
 | _,[],[]=>true
 | k,(i,x)::l,a::m=>decide (i=k)&&okA x a&&qV (k+1) l m
 | _,_,_=>false
theorem jb {w:Nat}:∀ {l:List V} {rs:List (List V)},jv w l=some rs->rs.length=l.length/\∀ row∈rs,row.length=w
 | [],rs,h=>by cases h;simp
 | x::l,rs,h=>by
  simp only [jv] at h;split at h
  ·rename_i cs rs' hcs hl;cases hb:Nat.beq cs.length w with
   | false=>simp only [hb,cond_false] at h;cases h
   | true =>
    simp only [hb,cond_true] at h;cases h;obtain ⟨h1,h2⟩:=jb hl;refine ⟨by simp [h1],fun row hr=>?_⟩;cases hr with
    | head=>exact aN hb
    | tail _ hr=>exact h2 row hr
  ·cases h
theorem yW (fr:Fr):∀ l:List A,(eva fr l).length=l.length
 | []=>rfl
 | x::l=>by simp [eva,yW fr l]
theorem oO:∀ {k:Nat} {l:List (Nat×Operand)} {as:List A},qV k l as=true->l.length=as.length
 | _,[],[],_=>rfl
 | k,(i,x)::l,a::m,h=>by
  simp only [qV,ag] at h;simp [oO h.2]
 | _,[],_::_,h=>by cases h
 | _,_::_,[],h=>by cases h
theorem wS {e:Emb} {F:Fz} {fr:Fr} {a:Act} (hf:FR e F fr a) {w:Nat} (hw:w≠0):∀ (l:List (Nat×Operand)) (as:List A) (k:Nat) (rs:List (List V)) (us:Array Value),qV k l as=true->jv w (eva fr as)=some rs ->
  (k+l.length) * w<=us.size ->
   ∃ us',Instr.fill (fun i=>some (i * w,w)) us (l.map fun p=>(p.1,a.eval p.2))=some us'/\us'.size=us.size/\(∀ q,q < k * w->us'[q]?=us[q]?) /\
    (∀ i row,rs[i]?=some row->∀ j c,row[j]?=some c->∃ u,us'[(k+i) * w+j]?=some u/\cj e F c u)
 | [],[],k,rs,us,_,h,_=>by simp only [eva,jv] at h;cases h;exact ⟨us,rfl,rfl,fun _ _=>rfl,by intro i row hi;simp at hi⟩
 | (i,x)::l,y::as,k,rs,us,hok,h,hsz=>by
  simp only [qV,ag,ak] at hok;obtain ⟨⟨rfl,hx⟩,hok⟩:=hok;simp only [eva,jv] at h;split at h
  ·rename_i cs rs' hcs hl;cases hb:Nat.beq cs.length w with
   | false=>simp only [hb,cond_false] at h;cases h
   | true =>
    simp only [hb,cond_true] at h;cases h;have hcw:=aN hb;obtain ⟨ws,h1,h2⟩:=jU (aO hx hf) hcs;have hws:ws.length=w:=by rw [<- h2.len];exact hcw
    simp only [aT] at hsz;have hsz':(i+1) * w<=us.size:=bG (bw w (by omega)) hsz;rw [bK,Nat.one_mul] at hsz';obtain ⟨h4,h5⟩:=o9 (i * w) ws 0 us (by omega);have e1:ws.toArray.zipIdx.foldl (fun cs (x:Value×Nat)=>cs.setIfInBounds (i * w+x.2) x.1) us=(ws.zipIdx 0).foldl (fun cs (x:Value×Nat)=>cs.setIfInBounds (i * w+x.2) x.1) us:=by
     rw [<- Array.foldl_toList];simp
    obtain ⟨us',h6,h7,h8,h9⟩:=wS hf hw l as (i+1) rs' ((ws.zipIdx 0).foldl (fun cs (x:Value×Nat)=>cs.setIfInBounds (i * w+x.2) x.1) us) hok hl (by rw [h4];exact bG (Nat.le_of_eq (by congr 1;omega)) hsz);refine ⟨us',?_,by rw [h7,h4],fun q hq=>?_,fun k row hk j c hj=>?_⟩
    ·simp only [cT,Instr.fill];have hno:¬ ((a.eval x).cells.size≠w\/i * w+(a.eval x).cells.size > us.size):=by
      rw [h1];simp only [List.size_toArray,hws];omega
     rw [ab (by simpa using hno),h1,e1];exact h6
    ·rw [h8 q (by rw [bK];omega),h5 q,ab (by omega)]
    ·cases k with
     | zero =>
      simp at hk;subst hk;have hj':j < w:=by rw [<- hcw];exact (af.1 hj).1
      obtain ⟨u,h10,h11⟩:=h2.get j c hj;refine ⟨u,?_,h11⟩;rw [cr,h8 _ (by rw [bK];omega),h5,aj (by omega)];rw [<- h10];congr 1;omega
     | succ k =>
      obtain ⟨u,h10,h11⟩:=h9 k row (by simpa using hk) j c hj;exact ⟨u,by rw [<- h10,show i+(k+1)=i+1+k by omega],h11⟩
  ·cases h
 | [],_::_,_,_,_,h,_,_=>by cases h
 | _::_,[],_,_,_,h,_,_=>by cases h
theorem sf {parts:Array (Nat×Value)} {cells:Array Value} (hu:P.underlying t=some (.slice el)) (hs:(P.info? el).map (·.size)=some wd) (hz:∀ w,(zeroValue el).run P w= .ok z w)
  (hb:len * wd<=16777216) (hf:Instr.fill (fun i=>some (i * wd,wd)) (if len * wd=0 then #[] else (Array.range (len * wd)).map (z.cells[· % z.cells.size]!)) parts.toList=some cells) (w:World) :
  (Instr.buildSlice t len parts).run P w= .ok (.slice (some ⟨w.heap.size,0,none⟩) len len) (w.alloc (.cells cells el (0,0))):=by
 have h1:¬ (16777216 < len * wd):=by omega
 by_cases h0:len * wd=0
 ·rw [aj h0] at hf;simp only [Instr.buildSlice,ax,run_underlying hu,aF,kt hs,h0];simp [Array.range_zero',hf,newRow,newObj,ax];rfl
 ·rw [ab h0] at hf;simp only [Instr.buildSlice,ax,run_underlying hu,aF,kt hs];simp [h0,h1,hz,ax,hf,newRow,newObj];rfl
section
variable {C:Ctx} {o:Oper} {fr:Fr} {σ:Ob} {nx:Nat} {K:Eff->Prop}
def O.pI (x:O) (wd n:Nat):Prop:=(∃ rows,x= .da wd rows/\rows.length=n/\∀ row∈rows,row.length=wd)\/∃ rows,x= .va wd rows/\rows.length=n/\∀ row∈rows,row.length=wd
theorem O.pI.plain (h:x.pI wd n):x.plain=true:=by
 rcases h with ⟨rows,rfl,_⟩ | ⟨rows,rfl,_⟩<;>rfl
theorem O.pI.DH (h:x.pI wd n) (v:Nat) (rows:List (List D)):x≠ .oa v rows:=by
 rcases h with ⟨rows,rfl,_⟩ | ⟨rows,rfl,_⟩<;>simp
theorem qh (hr:Rel C e F g w) (h1:b9 (fun _ _=>False) w w1) (hx:x.pI wd n)
  (hc:∀ r k c,x.cell r k=some c->k < wd/\∃ u,cs[r * wd+k]?=some u/\cj e F c u) (hcap:cap * wd<=cs.size) (hn:n<=cap) (he:e nx=none) :
  Res C e F g w nx 1 (.arr nx 0 n) (upd g nx (some x)) (.slice (some ⟨w1.heap.size,0,none⟩) n cap) (w1.alloc (.cells cs t (0,0))):=by
 have hrn:∀ r k c,x.cell r k=some c->r < n:=by
  intro r k c hh;rcases hx with ⟨rows,rfl,rfl,hun⟩ | ⟨rows,rfl,rfl,hun⟩
  ·simp only [O.cell] at hh;cases hr':rows[r]? with
   | none=>simp [hr'] at hh
   | some row=>exact (af.1 hr').1
  ·simp only [O.cell] at hh;cases hr':rows[r]? with
   | none=>simp [hr'] at hh
   | some row=>exact (af.1 hr').1
 refine hr.new h1 (W:=⟨w1.heap.size,0,cap * wd,wd,n⟩) hx.plain he rfl rfl hcap ?_ (fun r k c hh=>(hc r k c hh).2) ?_ ?_ ?_ ?_
 ·intro r k c hh;have h2:=(hc r k c hh).1;have h3:r+1<=cap:=eT (hrn r k c hh) hn;have:=bw wd h3;rw [bK,Nat.one_mul] at this;exact ⟨h2,by show r * wd+k < cap * wd;omega⟩
 ·intro v rows h;rcases hx with ⟨rows',rfl,rfl,hun⟩ | ⟨rows',rfl,rfl,hun⟩
  ·cases h;exact ⟨rfl,rfl,hun⟩
  ·cases h
 ·intro v rows h;rcases hx with ⟨rows',rfl,rfl,hun⟩ | ⟨rows',rfl,rfl,hun⟩
  ·cases h
  ·cases h;exact ⟨rfl,rfl,hun⟩
 ·intro v rows h;rcases hx with ⟨rows',rfl,rfl,hun⟩ | ⟨rows',rfl,rfl,hun⟩
  ·cases h
  ·cases h
 ·exact ⟨⟨w1.heap.size,0,cap * wd,wd,n⟩,_,cap,by simp,rfl,by simp,hn,.inr ⟨by simp,by simp⟩⟩
theorem CX (hr:Rel C e F g w) (h1:b9 (fun _ _=>False) w w1) {rows:List (List D)}
  (h0:∀ row∈rows,row.length=wd) (hc:∀ (i j:Nat) (d:D),(rows[i]?.bind (·[j]?))=some d->∃ u,cs[i * wd+j]?=some u/\bj F d u) (hn:rows.length<=cap) :
  Res C e F g w nx k (.d (.imm wd rows)) g (.slice (some ⟨w1.heap.size,0,none⟩) rows.length cap) (w1.alloc (.cells cs t (0,0))):=by
 let F':Fz:=⟨fun b o=>if b=w1.heap.size then cs[o]? else F b o,F.H⟩
 have hF:Fz.le F F':=fun b o u hu=>by
  have h2:=hr.n5 hu;have:=h1.size;have:b≠w1.heap.size:=by omega
  simp only [F',this,aV];exact hu
 have hup:b9 (fun _ _=>False) w (w1.alloc (.cells cs t (0,0))):=h1.trans (b9.alloc w1 _) (fun _ _ _ x=>x);have hr':=hr.grow hup;refine ⟨e,F',fun _ _ y=>y,fun _ _=>rfl,hF,?_,?_,hup.mono fun _ _ x=>x.elim,fun b o ho=> .inl ho,?_⟩
 ·refine bj.xT hn h0 (.inr ⟨w1.heap.size,0,rfl,fun i j d hd=>?_⟩);obtain ⟨u,h3,h4⟩:=hc i j d hd;exact ⟨u,by simp only [F',bo,aW];exact h3,bj.mono hF h4⟩
 ·refine hr'.freeze hF rfl (fun _ _ y=>y) ?_ ?_
  ·intro b o u hu;by_cases hb:b=w1.heap.size
   ·subst hb;simp only [F',bo] at hu;rw [oh];exact hu
   ·simp only [F',hb,aV] at hu;exact hr'.fz b o u hu
  ·intro b o u hu ho;by_cases hb:b=w1.heap.size
   ·have:=hr.jL ho;have:=h1.size;omega
   ·simp only [F',hb,aV] at hu;exact hr.dJ b o u hu ho
 ·intro b o u hu;by_cases hb:b=w1.heap.size
  ·right;right;have:=h1.size;omega
  ·simp only [F',hb,aV] at hu;exact .inl ⟨u,hu⟩
theorem Res.freeze {g':Sto} {w':World} {j:Nat} {rows:List (List D)} {y:Value} (h:Res C e F g w nx n (.arr j off len) g' y w') (hg:g' j=some (.da wd rows)) :
  Res C e F g w nx n (.d (.imm wd ((rows.drop off).take len))) (upd g' j none) y w':=by
 obtain ⟨e',F',h1,h2,h3,h4,h5,h6,h7,h8⟩:=h;obtain ⟨W,a,cap,hW,rfl,hn,hlc,hcap⟩:=h4
 let F'':Fz:=⟨fun b o=>match F' b o with
  | some u=>some u
  | none=>if b=W.b/\W.base<=o/\o < W.base+W.cap then w'.cell? ⟨b,o,none⟩ else none,F'.H⟩
 have hF:Fz.le F' F'':=fun b o u hu=>by simp only [F'',hu]
 have hin:∀ b o u,F'' b o=some u->F' b o=some u\/(InW W b o/\w'.cell? ⟨b,o,none⟩=some u):=by
  intro b o u hu;simp only [F''] at hu;split at hu
  ·rename_i u' hu';left;rw [hu',hu]
  ·split at hu
   ·rename_i hb;right;exact ⟨hb,hu⟩
   ·cases hu
 have hwd:=h5.wd j _ W hg hW wd rows rfl;have hlen:((rows.drop off).take len).length=len:=by rw [bh,bD];omega
 refine ⟨e',F'',h1,h2,fun b o u hu=>hF b o u (h3 b o u hu),?_,?_,h6,?_,?_⟩
 ·show bj F'' _ _;have:bj F'' (.imm wd ((rows.drop off).take len)) (.slice a ((rows.drop off).take len).length cap):=by
   refine bj.xT (by omega) (fun row hrow=>hwd.2.2 row (br (cw hrow))) ?_;rcases hcap with h0 | ⟨rfl,hcap⟩
   ·left;rw [<- cI,hlen];omega
   ·right;refine ⟨W.b,W.base+off * W.wd,rfl,fun i k d hd=>?_⟩;have hcell:(O.da wd rows).cell (off+i) k=some (.d d):=by
     rw [List.getElem?_take] at hd;split at hd
     ·rw [dF] at hd;simp only [O.cell,hd,aS]
     ·simp at hd
    have hfit:=h5.fit j _ W hg hW _ _ _ hcell;obtain ⟨u,h9,h10⟩:=h5.cells j _ W hg hW _ _ _ hcell (.inl rfl);refine ⟨u,?_,bj.mono hF h10⟩;have ea:W.base+off * W.wd+i * wd+k=W.base+(off+i) * W.wd+k:=by rw [hwd.1,bK];omega
    rw [ea];simp only [F''];split
    ·rename_i u' hu';have:=h5.fz _ _ _ hu';rw [h9] at this;exact this.symm
    ·rw [aj ⟨trivial,by omega,by omega⟩];exact h9
  rwa [hlen] at this
 ·refine h5.freeze hF rfl (fun i x hi=>?_) ?_ ?_
  ·simp only [upd] at hi;split at hi
   ·cases hi
   ·exact hi
  ·intro b o u hu;rcases hin b o u hu with h9 | ⟨_,h9⟩
   ·exact h5.fz b o u h9
   ·exact h9
  ·intro b o u hu ho;obtain ⟨i,x,W',hi,hW',hw⟩:=ho;have hij:i≠j:=by rintro rfl;simp [upd] at hi
   have hi':g' i=some x:=by simpa [upd,hij] using hi
   rcases hin b o u hu with h9 | ⟨h9,_⟩
   ·exact h5.dJ b o u h9 ⟨i,x,W',hi',hW',hw⟩
   ·exact h5.sep hi' hW' hg hW hij hw (.inl ⟨rfl,h9⟩)
 ·intro b o ho;obtain ⟨i,x,W',hi,hW',hw⟩:=ho;refine h7 b o ⟨i,x,W',?_,hW',hw⟩;simp only [upd] at hi;split at hi
  ·cases hi
  ·exact hi
 ·intro b o u hu;rcases hin b o u hu with h9 | ⟨h9,_⟩
  ·exact h8 b o u h9
  ·right;exact h7 b o ⟨j,_,W,hg,hW,.inl ⟨rfl,h9⟩⟩
theorem jY:∀ (rows:List (List V)) (rs:List (List D)),pn rows=some rs->rs.length=rows.length/\∀ (i:Nat) (row:List D),rs[i]?=some row->∃ vs,rows[i]?=some vs/\p9 vs=some row
 | [],rs,h=>by cases h;simp
 | r::l,rs,h=>by
  simp only [pn] at h;split at h
  ·rename_i d ds h1 h2;cases h;obtain ⟨h3,h4⟩:=jY l ds h2;refine ⟨by simp [h3],fun i row hi=>?_⟩;cases i with
   | zero=>simp at hi;subst hi;exact ⟨r,rfl,h1⟩
   | succ i=>simpa using h4 i row (by simpa using hi)
  ·cases h
theorem qt (h:p9 vs=some ds):∀ (j:Nat) (d:D),ds[j]?=some d->∃ c,vs[j]?=some c/\c.asD=some d:=by
 induction vs generalizing ds with
 | nil=>cases h;intro j d hj;simp at hj
 | cons x l ih =>
  simp only [p9] at h;split at h
  ·rename_i y ds' hx hl;cases h;intro j d hj;cases j with
   | zero=>simp at hj;subst hj;exact ⟨x,rfl,hx⟩
   | succ j=>simpa using ih hl j d (by simpa using hj)
  ·cases h
theorem sq {rs:List (List D)} {w:Nat} (h:pn rows=some rs) (hu:∀ row∈rows,row.length=w):∀ row∈rs,row.length=w:=by
 intro row hr;obtain ⟨i,hi⟩:=List.mem_iff_getElem?.1 hr;obtain ⟨vs,h1,h2⟩:=(jY _ _ h).2 i row hi;rw [(ot _ _ h2).1];exact hu vs (aP h1)
theorem zD {w:Nat} (hu:∀ row∈rows,row.length=w):(mkO w rows).pI w rows.length:=by
 unfold mkO;split
 ·rename_i rs h;exact .inl ⟨rs,rfl,(jY _ _ h).1,sq h hu⟩
 ·exact .inr ⟨rows,rfl,rfl,hu⟩
theorem wj {w:Nat} {u:Value} (h:(mkO w rows).cell r k=some c) :
  ∃ row c',rows[r]?=some row/\row[k]?=some c'/\(cj e F c' u->cj e F c u):=by
 unfold mkO at h;split at h
 ·rename_i rs hrs;simp only [O.cell] at h;cases hr:rs[r]? with
  | none=>simp [hr] at h
  | some row =>
   simp only [hr,bQ,ay] at h;obtain ⟨d,h1,rfl⟩:=h;obtain ⟨vs,h2,h3⟩:=(jY _ _ hrs).2 r row hr;obtain ⟨c',h4,h5⟩:=qt h3 k d h1;exact ⟨vs,c',h2,h4,fun hh=>jD (b6.lF (fu.lR hh)) h5⟩
 ·simp only [O.cell] at h;cases hr:rows[r]? with
  | none=>simp [hr] at h
  | some row=>simp only [hr,bQ] at h;exact ⟨row,c,rfl,h,fun x=>x⟩
theorem CC {ps:Array (Nat×Operand)} {as:List A} {m:Bool} (ho:o.op= .buildSlice t len ps) (hu:C.P.underlying t=some (.slice el)) (hs:(C.P.info? el).map (·.size)=some wd) (hw:wd≠0)
  (hz:∃ z,∀ w,(zeroValue el).run C.P w= .ok z w) (hb:len * wd<=16777216) (hl:len=ps.size) (hq:qV 0 ps.toList as=true) (hk:wpR C σ nx K (sem (.lit wd as m) fr σ nx)):∃ eff,K eff/\Good C o fr nx eff:=by
 obtain ⟨z,hz⟩:=hz;have hlen:as.length=len:=by rw [<- oO hq,hl];simp
 have key:∀ (rs:List (List V)),jv wd (eva fr as)=some rs->∀ (e:Emb) (F:Fz) (w:World) (a:Act),FR e F fr a->∃ cs:Array Value,
   (execOp a.eval o).run C.P w= .ok (.value (.slice (some ⟨w.heap.size,0,none⟩) len len)) (w.alloc (.cells cs el (0,0)))/\len * wd<=cs.size/\rs.length=len /\
   (∀ (i:Nat) row,rs[i]?=some row->∀ (j:Nat) c,row[j]?=some c->j < wd/\∃ u,cs[i * wd+j]?=some u/\cj e F c u):=by
  intro rs hrs e F w a hf;obtain ⟨h1,h2⟩:=jb hrs;rw [yW,hlen] at h1;obtain ⟨us',h3,h4,_,h6⟩:=wS hf hw ps.toList as 0 rs (if len * wd=0 then #[] else (Array.range (len * wd)).map (z.cells[· % z.cells.size]!)) hq hrs (by
   rw [aW,oO hq,hlen];split
   ·rename_i h0;rw [h0];exact Nat.zero_le _
   ·simp)
  refine ⟨us',?_,?_,h1,?_⟩
  ·have h7:=sf (P:=C.P) (parts:=ps.map fun p=>(p.1,a.eval p.2)) hu hs hz hb (by simpa using h3) w;simp only [execOp,ho,ax,h7,aF,bq]
  ·rw [h4];split
   ·rename_i h0;rw [h0];exact Nat.zero_le _
   ·simp
  ·intro i row hi j c hj;have h7:row.length=wd:=h2 row (aP hi);have h8:j < wd:=by rw [<- h7];exact (af.1 hj).1
   obtain ⟨u,h9,h10⟩:=h6 i row hi j c hj;exact ⟨h8,u,by simpa using h9,h10⟩
 have karr:∀ (rs:List (List V)) (x:O),jv wd (eva fr as)=some rs->x.pI wd rs.length->(∀ (e:Emb) (F:Fz) (r k:Nat) (c:V),x.cell r k=some c->∃ row c',rs[r]?=some row/\row[k]?=some c'/\∀ u,cj e F c' u->cj e F c u) ->
   Good C o fr nx {v:= .arr nx 0 as.length,pt:=[(nx,some x)],n:=1}:=by
  intro rs x hrs hx hxc;refine Good.fl fun e F g w a hf hr _ hn=>?_
  obtain ⟨cs,h1,h2,h3,h4⟩:=key rs hrs e F w a hf;refine ⟨_,_,h1,?_⟩;rw [hlen];rw [h3] at hx;refine qh hr (b9.refl _ _) hx ?_ h2 (al _) (hn nx (al _) (Nat.lt_succ_self _));intro r k c hc;obtain ⟨row,c',h5,h6,h7⟩:=hxc e F r k c hc;obtain ⟨h8,u,h9,h10⟩:=h4 r row h5 k c' h6;exact ⟨h8,u,h9,h7 u h10⟩
 simp only [sem] at hk;split at hk
 ·rename_i rs hrs;refine ⟨_,hk,Good.fl fun e F g w a hf hr _ hn=>?_⟩;obtain ⟨cs,h1,h2,h3,h4⟩:=key rs hrs e F w a hf;have h0:len=0:=by rw [<- hlen];rfl
  refine ⟨_,_,h1,?_⟩;have hup:=b9.alloc w (.cells cs el (0,0));subst h0;exact ⟨e,F,fun _ _ y=>y,fun _ _=>rfl,fun _ _ _ y=>y,bj.nil _,hr.grow hup,hup.mono fun _ _ x=>x.elim,fun _ _ y=> .inl y,fun _ _ u y=> .inl ⟨u,y⟩⟩
 ·rename_i rs hrs;refine ⟨_,hk,karr rs _ hrs (zD (jb hrs).2) fun e F r k c hc=>?_⟩;by_cases hh:∃ u:Value,True
  ·obtain ⟨row,c',h1,h2,_⟩:=wj (e:=e) (F:=F) (u:=undef) hc;refine ⟨row,c',h1,h2,fun u=>?_⟩;obtain ⟨row2,c2,h3,h4,h5⟩:=wj (e:=e) (F:=F) (u:=u) hc;rw [h1] at h3;cases h3;rw [h2] at h4;cases h4;exact h5
  ·exact absurd ⟨undef,trivial⟩ hh
 ·rename_i rs hne hrs;split at hk
  ·rename_i ds hds;refine ⟨_,hk,Good.fl fun e F g w a hf hr _ hn=>?_⟩;obtain ⟨cs,h1,h2,h3,h4⟩:=key rs hrs e F w a hf;refine ⟨_,_,h1,?_⟩;have h5:=jY _ _ hds;have hdl:ds.length=len:=by rw [h5.1,h3]
   have:=CX (nx:=nx) (k:=0) (t:=el) (cs:=cs) (wd:=wd) (cap:=len) (rows:=ds) hr (b9.refl _ w) (sq hds (jb hrs).2) (fun i j d hd=>by
    cases hi:ds[i]? with
    | none=>simp [hi] at hd
    | some row =>
     simp only [hi,bQ] at hd;obtain ⟨vs,h6,h7⟩:=h5.2 i row hi;obtain ⟨c,h8,h9⟩:=qt h7 j d hd;obtain ⟨h10,u,h11,h12⟩:=h4 i vs h6 j c h8;exact ⟨u,h11,jD (b6.lF (fu.lR h12)) h9⟩) (by omega)
   rwa [hdl] at this
  ·refine ⟨_,hk,karr rs _ hrs (.inr ⟨rs,rfl,rfl,(jb hrs).2⟩) fun e F r k c hc=>?_⟩;simp only [O.cell] at hc;cases hr:rs[r]? with
   | none=>simp [hr] at hc
   | some row=>simp only [hr,bQ] at hc;exact ⟨row,c,rfl,hc,fun u x=>x⟩
 ·exact hk.elim
end
def Sh.get:Sh->Nat->Nat->Option V
 | .ds rows _,i,j=>(rows[i]?.bind (·[j]?)).map .d
 | .vs rows _,i,j=>rows[i]?.bind (·[j]?)
def Sh.uni (wd:Nat):Sh->Prop
 | .ds rows n=>rows.length=n/\∀ row∈rows,row.length=wd
 | .vs rows n=>rows.length=n/\∀ row∈rows,row.length=wd
theorem Sh.lg (h:sh.uni wd) (i j:Nat):(sh.get i j).isSome=true↔i < sh.len/\j < wd:=by
 cases sh with
 | ds rows n =>
  obtain ⟨h1,h2⟩:=h;simp only [Sh.get,Sh.len];cases hi:rows[i]? with
  | none=>simp;intro h3;have:=List.getElem?_eq_none_iff.1 hi;omega
  | some row =>
   have h3:=h2 row (aP hi);have h4:i < rows.length:=(af.1 hi).1;simp only [bQ,Option.isSome_map];rw [bX];constructor
   ·rintro ⟨c,hc⟩
    have:=(af.1 hc).1;omega
   ·rintro ⟨_,hj⟩
    exact ⟨row[j],aa (by omega)⟩
 | vs rows n =>
  obtain ⟨h1,h2⟩:=h;simp only [Sh.get,Sh.len];cases hi:rows[i]? with
  | none=>simp;intro h3;have:=List.getElem?_eq_none_iff.1 hi;omega
  | some row =>
   have h3:=h2 row (aP hi);have h4:i < rows.length:=(af.1 hi).1;simp only [bQ];rw [bX];constructor
   ·rintro ⟨c,hc⟩
    have:=(af.1 hc).1;omega
   ·rintro ⟨_,hj⟩
    exact ⟨row[j],aa (by omega)⟩
theorem iL {C:Ctx} (hr:Rel C e F g w) {σ:Ob} {x:V} (hv:b6 e F x v) (h:shown σ wd x=some (sh,rd)) (hrd:∀ p∈rd,g p.1=some p.2) :
  sh.uni wd/\∃ a cap,v= .slice a sh.len cap/\sh.len<=cap/\(sh.len=0\/∃ b p,a=some ⟨b,p,none⟩/\∀ i j c,sh.get i j=some c->∃ u,w.cell? ⟨b,p+i * wd+j,none⟩=some u/\cj e F c u):=by
 unfold shown at h;split at h
 ·cases h;obtain ⟨a,rfl⟩:=bj.iQ hv;exact ⟨⟨rfl,by simp⟩,a,0,rfl,al _,.inl rfl⟩
 ·rename_i w' rows;cases hb:Nat.beq wd w' with
  | false=>simp only [hb,cond_false] at h;cases h
  | true =>
   simp only [hb,cond_true] at h;cases h;have e0:=aN hb;subst e0;obtain ⟨a,cap,rfl,h2,h3,h4⟩:=bj.ql hv;refine ⟨⟨rfl,h3⟩,a,cap,rfl,h2,?_⟩;rcases h4 with rfl | ⟨b,p,rfl,h4⟩
   ·exact .inl rfl
   ·refine .inr ⟨b,p,rfl,fun i j c hc=>?_⟩;simp only [Sh.get,ay] at hc;obtain ⟨d,h5,rfl⟩:=hc;obtain ⟨u,h6,h7⟩:=h4 i j d h5;exact ⟨u,hr.fz _ _ _ h6,h7⟩
 ·rename_i k off len;obtain ⟨W,a,cap,hW,rfl,hn,hlc,hcap⟩:=hv;have fin:∀ (ob:O) (sh:Sh),g k=some ob->ob.dU=false->sh.len=len->sh.uni wd->wd=W.wd->(∀ i j c,sh.get i j=some c->ob.cell (off+i) j=some c) ->
    sh.uni wd/\∃ a' cap',Value.slice a len cap= .slice a' sh.len cap'/\sh.len<=cap'/\(sh.len=0\/∃ b p,a'=some ⟨b,p,none⟩/\∀ i j c,sh.get i j=some c->∃ u,w.cell? ⟨b,p+i * wd+j,none⟩=some u/\cj e F c u):=by
   intro ob sh hg hob hl hu hwd hc;refine ⟨hu,a,cap,by rw [hl],by omega,?_⟩;rcases hcap with h0 | ⟨rfl,hcap⟩
   ·left;omega
   ·refine .inr ⟨W.b,W.base+off * W.wd,rfl,fun i j c hh=>?_⟩;obtain ⟨u,h6,h7⟩:=hr.cells k ob W hg hW _ _ _ (hc i j c hh) (.inl hob);refine ⟨u,?_,h7⟩;rw [<- h6,hwd,bK];congr 2;omega
  split at h
  ·rename_i w' rows hl;cases hb:Nat.beq wd w' with
   | false=>simp only [hb,cond_false] at h;cases h
   | true =>
    simp only [hb,cond_true] at h;cases h;have e0:=aN hb;subst e0;have hg:=hrd (k,.da wd rows) (by simp);have hwd:=hr.wd k _ W hg hW wd rows rfl;refine fin _ (.ds _ len) hg rfl rfl ⟨by rw [bh,bD];omega,fun row hrow=>hwd.2.2 row (br (cw hrow))⟩ hwd.1 ?_;intro i j c hc;simp only [Sh.get] at hc;rw [List.getElem?_take] at hc;split at hc
    ·rw [dF] at hc;exact hc
    ·simp at hc
  ·rename_i w' rows hl;cases hb:Nat.beq wd w' with
   | false=>simp only [hb,cond_false] at h;cases h
   | true =>
    simp only [hb,cond_true] at h;cases h;have e0:=aN hb;subst e0;have hg:=hrd (k,.va wd rows) (by simp);have hwd:=hr.wv k _ W hg hW wd rows rfl;refine fin _ (.vs _ len) hg rfl rfl ⟨by rw [bh,bD];omega,fun row hrow=>hwd.2.2 row (br (cw hrow))⟩ hwd.1 ?_;intro i j c hc;simp only [Sh.get] at hc;rw [List.getElem?_take] at hc;split at hc
    ·rw [dF] at hc;exact hc
    ·simp at hc
  ·cases h
 ·cases h
def iB (w:World) (b p n:Nat):List Value:=(List.range n).map fun q=>(w.cell? ⟨b,p+q,none⟩).getD undef
theorem fT (w:World) (b p n:Nat):(iB w b p n).length=n:=by simp [iB]
theorem j8 (h:∀ q,q < n->(w.cell? ⟨b,p+q,none⟩).isSome=true):∀ (q:Nat) v,(iB w b p n)[q]?=some v->w.cell? ⟨b,p+q,none⟩=some v:=by
 intro q v hv;have hq:q < n:=by rw [<- fT w b p n];exact (af.1 hv).1
 obtain ⟨u,hu⟩:=bX.1 (h q hq);simp only [iB,bf,List.getElem?_range hq,aS,hu,gx,aw] at hv;rw [hu,hv]
theorem nv {q:Nat} (hq:q < n) (h:w.cell? ⟨b,p+q,none⟩=some v):(iB w b p n)[q]?=some v:=by
 simp only [iB,bf,List.getElem?_range hq,aS,h,gx]
theorem ss (hu:P.underlying t=some (.slice el)) (hi:P.info? el=some inf) (hz:inf.zero=some z) (hs:inf.size=wd) (hzs:z.cells.size=wd) (hby:inf.bytes<=65536)
  {a1 a2:Option Addr} {n1 c1 n2 c2:Nat} (h1:n1<=c1) (hmax:n1+n2<=1073741824) (w:World) (olds news:List Value) (hol:olds.length=n1 * wd) (hnl:news.length=n2 * wd)
  (ho:n1=0\/∃ b p,a1=some ⟨b,p,none⟩/\∀ (j:Nat) v,olds[j]?=some v->w.cell? ⟨b,p+j,none⟩=some v)
  (hn:n2=0\/∃ b p,a2=some ⟨b,p,none⟩/\∀ (j:Nat) v,news[j]?=some v->w.cell? ⟨b,p+j,none⟩=some v) (hone:∀ v∈news,v.oneCell'=true)
  (hroom:c1=0\/∃ b p,a1=some ⟨b,p,none⟩/\∀ q,q < (c1 - n1) * wd->(w.cell? ⟨b,p+n1 * wd+q,none⟩).isSome=true/\w.frozen? ⟨b,p+n1 * wd+q,none⟩=false) (ty:TypeId) :
  ∃ y w',(Builtin.append_ #[t,t] ty #[.slice a1 n1 c1,.slice a2 n2 c2]).run P w= .ok y w' /\
   ((c1=0/\n1=0/\n2=0/\y= .slice a1 0 0/\w'=w) \/
   (n1+n2<=c1/\0 < c1/\y= .slice a1 (n1+n2) c1/\∃ b p,a1=some ⟨b,p,none⟩/\w'=w.setCells b (p+n1 * wd) news) \/
   (c1 < n1+n2/\∃ cap,∃ rest:Array Value,n1+n2<=cap/\rest.size=(cap - (n1+n2)) * wd/\y= .slice (some ⟨w.heap.size,0,none⟩) (n1+n2) cap/\w'=w.drew.alloc (.cells (olds.toArray++news.toArray++rest) el (0,0)))):=by
 have hfirst:∀ w0:World,(∀ b o,w0.cell? ⟨b,o,none⟩=w.cell? ⟨b,o,none⟩)->(Builtin.firstCells wd n2 (.slice a2 n2 c2)).run P w0= .ok news.toArray w0:=by
  intro w0 hw0;rcases hn with rfl | ⟨b,p,rfl,hn⟩
  ·have:news=[]:=by simpa using hnl
   subst this;cases a2 with
   | none=>simp [Builtin.firstCells]
   | some a=>simp [Builtin.firstCells,loadCells,loadCellsFrom]
  ·exact run_firstCells_some w0 wd n2 ⟨b,p,none⟩ n2 c2 news hnl (fun j v hv=>by rw [Addr.add_mid,hw0];exact hn j v hv)
 by_cases hle:n1+n2<=c1
 ·by_cases hc0:c1=0
  ·have e1:n1=0:=by omega
   have e2:n2=0:=by omega
   subst hc0;subst e1;subst e2;have:news=[]:=by simpa using hnl
   subst this;refine ⟨_,_,?_,.inl ⟨rfl,rfl,rfl,rfl,rfl⟩⟩;have hf:=hfirst w (fun _ _=>rfl);cases a1 with
   | none=>simp [Builtin.append_,run_underlying hu,sizeOf,typeInfo,hi,hs,Builtin.lenOf,hf,ax]
   | some a=>simp [Builtin.append_,run_underlying hu,sizeOf,typeInfo,hi,hs,Builtin.lenOf,hf,ax,storeCells]
  ·obtain ⟨b,p,rfl,hroom2⟩:=hroom.resolve_left hc0;have hmul:n2 * wd<=(c1 - n1) * wd:=bw wd (by omega);refine ⟨_,_,?_,.inr (.inl ⟨hle,by omega,rfl,b,p,rfl,rfl⟩)⟩;have hf:=hfirst w (fun _ _=>rfl);have hst:=run_storeCells_cells (P:=P) b (p+n1 * wd) news 0 w (fun j hj=>by simpa using (hroom2 j (by omega)).1) (fun j hj=>by simpa using (hroom2 j (by omega)).2) hone;simp only [cr] at hst;simp [Builtin.append_,run_underlying hu,sizeOf,typeInfo,hi,hs,Builtin.lenOf,hf,ax,hle,Addr.add_mid,hst]
 ·have hlt:c1 < n1+n2:=by omega
  have hn0:0 < n2:=by omega
  obtain ⟨b2,p2,rfl,hn2⟩:=hn.resolve_left (by omega);have hneed:(n1+n2) * inf.bytes<=140737488355328:=by
   have:=Nat.mul_le_mul hmax hby;omega
  have hcap:n1+n2<=grownCap w (n1+n2) c1 el:=by
   unfold grownCap;simp only [Question.cut];omega
  have hzc:(Builtin.zeroCells z.cells (grownCap w (n1+n2) c1 el - (n1+n2))).size=(grownCap w (n1+n2) c1 el - (n1+n2)) * wd:=by
   simp [Builtin.zeroCells,hzs]
  rcases a1 with _ | a1
  ·have e1:n1=0:=by
    rcases ho with h | ⟨b,p,h,_⟩
    ·exact h
    ·cases h
   have e2:c1=0:=by
    rcases hroom with h | ⟨b,p,h,_⟩
    ·exact h
    ·cases h
   subst e1;subst e2;have:olds=[]:=by simpa using hol
   subst this;simp only [aW] at *;have hrun:=run_append_nil (P:=P) w t ty el inf z hu hi hz ⟨b2,p2,none⟩ n2 c2 news (by rw [hs];exact hnl) (fun j v hv=>by rw [Addr.add_mid];exact hn2 j v hv) hn0 (by omega) (by omega);refine ⟨_,_,hrun,.inr (.inr ⟨hlt,_,_,hcap,hzc,rfl,?_⟩)⟩;simp
  ·have hoo:∀ j v,olds[j]?=some v->w.cell? (a1.add j)=some v:=by
    intro j v hv;rcases ho with rfl | ⟨b,p,h,ho⟩
    ·have:olds=[]:=by simpa using hol
     subst this;simp at hv
    ·cases h;rw [Addr.add_mid];exact ho j v hv
   have hrun:=run_append_grow (P:=P) w t ty el inf z hu hi hz a1 n1 c1 olds (by rw [hs];exact hol) hoo ⟨b2,p2,none⟩ n2 c2 news (by rw [hs];exact hnl) (fun j v hv=>by rw [Addr.add_mid];exact hn2 j v hv) hlt (by omega) (growslice_fits hlt hneed);exact ⟨_,_,hrun,.inr (.inr ⟨hlt,_,_,hcap,hzc,rfl,rfl⟩)⟩
theorem yq (a:List (List D)) (r k:Nat):((toV a)[r]?.bind (·[k]?))=(a[r]?.bind (·[k]?)).map V.d:=by
 unfold toV;rw [bf];cases a[r]? with
 | none=>rfl
 | some row=>simp
theorem ow (a b:List (List α)) (r k:Nat):((a++b)[r]?.bind (·[k]?))=if r < a.length then (a[r]?.bind (·[k]?)) else (b[r - a.length]?.bind (·[k]?)):=by
 rw [List.getElem?_append];split<;>rfl
theorem jA (u1:sh1.uni wd) (u2:sh2.uni wd) (h:(fg wd sh1 sh2).cell r k=some c) :
  (r < sh1.len/\sh1.get r k=some c)\/(sh1.len<=r/\sh2.get (r - sh1.len) k=some c):=by
 have key:(fg wd sh1 sh2).cell r k=if r < sh1.len then sh1.get r k else sh2.get (r - sh1.len) k:=by
  unfold fg;split
  ·rename_i a n b m;have h1:a.length=n:=u1.1;simp only [O.cell,ow,Sh.len,Sh.get,h1];by_cases hr:r < n<;>simp [hr]
  ·have:=u1.1;simp only [c6] at this;subst this;simp [O.cell,Sh.len,Sh.get]
  ·rename_i a n b m;have h1:a.length=n:=u1.1;simp only [O.cell,ow,Sh.len,Sh.get,h1];by_cases hr:r < n<;>simp [hr]
  ·rename_i a n b m hne;have h1:a.length=n:=u1.1;have h2:(toV a).length=n:=by simp [toV,h1]
   simp only [O.cell,ow,Sh.len,Sh.get,h2];by_cases hr:r < n
   ·simp only [hr,bo];exact yq a r k
   ·simp [hr]
  ·rename_i a n b m;have h1:a.length=n:=u1.1;simp only [O.cell,ow,Sh.len,Sh.get,h1];by_cases hr:r < n
   ·simp [hr]
   ·simp only [hr,aV];exact yq b _ k
 rw [key] at h;split at h
 ·rename_i hr;exact .inl ⟨hr,h⟩
 ·rename_i hr;exact .inr ⟨by omega,h⟩
theorem yp (h:∀ row∈a,row.length=wd):∀ row∈toV a,row.length=wd:=by
 intro row hr;simp only [toV,List.mem_map] at hr;obtain ⟨r,h1,rfl⟩:=hr;simp [h r h1]
theorem nE {a b:List (List α)} (ha:∀ row∈a,row.length=wd) (hb:∀ row∈b,row.length=wd):∀ row∈a++b,row.length=wd:=fun row hr =>
 (bL.1 hr).elim (ha row) (hb row)
theorem xd (u1:sh1.uni wd) (u2:sh2.uni wd):(fg wd sh1 sh2).pI wd (sh1.len+sh2.len):=by
 unfold fg;split
 ·exact .inl ⟨_,rfl,by simp only [aH,Sh.len,u1.1,u2.1],nE u1.2 u2.2⟩
 ·have:=u1.1;simp only [c6] at this;subst this;exact .inr ⟨_,rfl,by simp only [Sh.len,u2.1,aW],u2.2⟩
 ·exact .inr ⟨_,rfl,by simp only [aH,Sh.len,u1.1,u2.1],nE u1.2 u2.2⟩
 ·exact .inr ⟨_,rfl,by simp only [aH,Sh.len,toV,aJ,u1.1,u2.1],nE (yp u1.2) u2.2⟩
 ·exact .inr ⟨_,rfl,by simp only [aH,Sh.len,toV,aJ,u1.1,u2.1],nE u1.2 (yp u2.2)⟩
section
variable {C:Ctx} {o:Oper} {fr:Fr} {σ:Ob} {nx:Nat} {K:Eff->Prop}
theorem yU (hw:wd≠0) (u:sh.uni wd) (h:∀ i j c,sh.get i j=some c->∃ u,w.cell? ⟨b,p+i * wd+j,none⟩=some u/\cj e F c u) :
  ∀ q,q < sh.len * wd->∃ u,w.cell? ⟨b,p+q,none⟩=some u/\u.oneCell'=true:=by
 intro q hq;have h1:q / wd < sh.len:=Nat.div_lt_of_lt_mul (by rwa [Nat.mul_comm]);have h2:q % wd < wd:=Nat.mod_lt _ (by omega);obtain ⟨c,hc⟩:=bX.1 ((Sh.lg u (q / wd) (q % wd)).2 ⟨h1,h2⟩);obtain ⟨v,h3,h4⟩:=h _ _ _ hc;refine ⟨v,?_,cj.one h4⟩;have:q / wd * wd+q % wd=q:=by rw [Nat.mul_comm];exact Nat.div_add_mod q wd
 rwa [cS,this] at h3
theorem xn (hr:Rel C e F g w) (hv:b6 e F (.arr i off len) v) (h:shown σ wd (.arr i off len)=some (sh,rd)) (hrd:∀ p∈rd,g p.1=some p.2) :
  ∃ W a cap x,e i=some W/\v= .slice a len cap/\sh.len=len/\off+len<=W.n/\len<=cap/\(cap=0\/(a=some ⟨W.b,W.base+off * W.wd,none⟩/\(off+cap) * W.wd<=W.cap))/\g i=some x/\wd=W.wd/\x.plain=true:=by
 obtain ⟨W,a,cap,hW,ha,hnW,hlc,hcap⟩:=hv;simp only [shown] at h;split at h
 ·rename_i w' rows hl;cases hb:Nat.beq wd w' with
  | false=>simp only [hb,cond_false] at h;cases h
  | true =>
   simp only [hb,cond_true,aw,Prod.mk.injEq] at h;obtain ⟨rfl,rfl⟩:=h;have e0:=aN hb;subst e0;have hg:=hrd (i,.da wd rows) (by simp);exact ⟨W,a,cap,_,hW,ha,rfl,hnW,hlc,hcap,hg,(hr.wd i _ W hg hW wd rows rfl).1,rfl⟩
 ·rename_i w' rows hl;cases hb:Nat.beq wd w' with
  | false=>simp only [hb,cond_false] at h;cases h
  | true =>
   simp only [hb,cond_true,aw,Prod.mk.injEq] at h;obtain ⟨rfl,rfl⟩:=h;have e0:=aN hb;subst e0;have hg:=hrd (i,.va wd rows) (by simp);exact ⟨W,a,cap,_,hW,ha,rfl,hnW,hlc,hcap,hg,(hr.wv i _ W hg hW wd rows rfl).1,rfl⟩
 ·cases h
theorem B7 (hu:C.P.underlying t=some (.slice el)) (hi:C.P.info? el=some inf) (hz:inf.zero=some z) (hs:inf.size=wd) (hw:wd≠0) (hzs:z.cells.size=wd) (hby:inf.bytes<=65536)
  (hr:Rel C e F g w) {x1 x2:V} {v1 v2:Value} (hv1:b6 e F x1 v1) (hv2:b6 e F x2 v2) {rd1 rd2:List (Nat×O)} (h1:shown σ wd x1=some (sh1,rd1)) (h2:shown σ wd x2=some (sh2,rd2))
  (hrd1:∀ p∈rd1,g p.1=some p.2) (hrd2:∀ p∈rd2,g p.1=some p.2) (hmax:sh1.len+sh2.len<=1073741824) (hn:e nx=none) (ty:TypeId)
  (g':Sto) (hg':(x1= .d .nil/\g'=g)\/∃ i off len,x1= .arr i off len/\g'=upd g i none) :
  ∃ y w',(Builtin.append_ #[t,t] ty #[v1,v2]).run C.P w= .ok y w'/\Res C e F g w nx 1 (.arr nx 0 (sh1.len+sh2.len)) (upd g' nx (some (fg wd sh1 sh2))) y w':=by
 obtain ⟨u1,a1,c1,rfl,hc1,hl1⟩:=iL hr hv1 h1 hrd1;obtain ⟨u2,a2,c2,rfl,hc2,hl2⟩:=iL hr hv2 h2 hrd2;have hgnx:g nx=none:=by
  cases hh:g nx with
  | none=>rfl
  | some x=>obtain ⟨W,hW,_⟩:=hr.dom nx x hh;rw [hn] at hW;cases hW
 have hsub:∀ i x,g' i=some x->g i=some x:=by
  intro i x hx;rcases hg' with ⟨_,rfl⟩ | ⟨i',off,len,_,rfl⟩
  ·exact hx
  ·simp only [upd] at hx;split at hx
   ·cases hx
   ·exact hx
 have hless:=hr.less hsub;obtain ⟨olds,hol,ho,hoc⟩:∃ olds:List Value,olds.length=sh1.len * wd/\(sh1.len=0\/∃ b p,a1=some ⟨b,p,none⟩/\∀ (j:Nat) v,olds[j]?=some v->w.cell? ⟨b,p+j,none⟩=some v) /\
   ∀ i j c,sh1.get i j=some c->∃ u,olds[i * wd+j]?=some u/\cj e F c u:=by
  rcases hl1 with h0 | ⟨b,p,hb,hcell⟩
  ·refine ⟨[],by simp [h0],.inl h0,fun i j c hc=>?_⟩;have:=(Sh.lg u1 i j).1 (by rw [hc];rfl);omega
  ·have hfl:=yU hw u1 hcell;refine ⟨iB w b p (sh1.len * wd),fT _ _ _ _,.inr ⟨b,p,hb,j8 fun q hq=>by obtain ⟨u,h3,_⟩:=hfl q hq;rw [h3];rfl⟩,fun i j c hc=>?_⟩;obtain ⟨u,h3,h4⟩:=hcell i j c hc;have hij:=(Sh.lg u1 i j).1 (by rw [hc];rfl);refine ⟨u,nv ?_ (by rw [<- h3,cS]),h4⟩;have:=bw wd (show i+1<=sh1.len from hij.1);rw [bK,Nat.one_mul] at this;omega
 obtain ⟨news,hnl,hnn,hnc,hone⟩:∃ news:List Value,news.length=sh2.len * wd/\(sh2.len=0\/∃ b p,a2=some ⟨b,p,none⟩/\∀ (j:Nat) v,news[j]?=some v->w.cell? ⟨b,p+j,none⟩=some v) /\
   (∀ i j c,sh2.get i j=some c->∃ u,news[i * wd+j]?=some u/\cj e F c u)/\∀ v∈news,v.oneCell'=true:=by
  rcases hl2 with h0 | ⟨b,p,hb,hcell⟩
  ·refine ⟨[],by simp [h0],.inl h0,fun i j c hc=>?_,by simp⟩;have:=(Sh.lg u2 i j).1 (by rw [hc];rfl);omega
  ·have hfl:=yU hw u2 hcell;have hget:=j8 (w:=w) (b:=b) (p:=p) (n:=sh2.len * wd) fun q hq=>by obtain ⟨u,h3,_⟩:=hfl q hq;rw [h3];rfl
   refine ⟨iB w b p (sh2.len * wd),fT _ _ _ _,.inr ⟨b,p,hb,hget⟩,fun i j c hc=>?_,fun v hv=>?_⟩
   ·obtain ⟨u,h3,h4⟩:=hcell i j c hc;have hij:=(Sh.lg u2 i j).1 (by rw [hc];rfl);refine ⟨u,nv ?_ (by rw [<- h3,cS]),h4⟩;have:=bw wd (show i+1<=sh2.len from hij.1);rw [bK,Nat.one_mul] at this;omega
   ·obtain ⟨q,hq⟩:=List.mem_iff_getElem?.1 hv;have hq':q < sh2.len * wd:=by rw [<- fT w b p (sh2.len * wd)];exact (af.1 hq).1
    obtain ⟨u,h3,h4⟩:=hfl q hq';have:=hget q v hq;rw [h3] at this;cases this;exact h4
 have hX:=xd u1 u2;have hXrow:∀ r k c,(fg wd sh1 sh2).cell r k=some c->k < wd/\r < sh1.len+sh2.len:=by
  intro r k c hc;rcases jA u1 u2 hc with ⟨h3,h4⟩ | ⟨h3,h4⟩
  ·have:=(Sh.lg u1 r k).1 (by rw [h4];rfl);omega
  ·have:=(Sh.lg u2 _ k).1 (by rw [h4];rfl);omega
 have hno:∀ r k dp wd' rows,(fg wd sh1 sh2).cell r k≠some (.own dp wd' rows):=by
  intro r k dp wd' rows hc;rcases jA u1 u2 hc with ⟨_,h4⟩ | ⟨_,h4⟩
  ·obtain ⟨u,_,h5⟩:=hoc _ _ _ h4;exact h5
  ·obtain ⟨u,_,h5⟩:=hnc _ _ _ h4;exact h5
 have hroom:c1=0\/∃ b p,a1=some ⟨b,p,none⟩/\∀ q,q < (c1 - sh1.len) * wd->(w.cell? ⟨b,p+sh1.len * wd+q,none⟩).isSome=true/\w.frozen? ⟨b,p+sh1.len * wd+q,none⟩=false:=by
  rcases hg' with ⟨rfl,_⟩ | ⟨i,off,len,rfl,_⟩
  ·have hv1':bj F .nil (.slice a1 sh1.len c1):=hv1;obtain ⟨a,ha⟩:=bj.iQ hv1';simp only [Value.slice.injEq] at ha;exact .inl ha.2.2
  ·obtain ⟨W,a,cap,x,hW,ha,hla,hnW,hlc,hcap,hg,hwd,hpl⟩:=xn hr hv1 h1 hrd1;simp only [Value.slice.injEq] at ha;obtain ⟨rfl,_,rfl⟩:=ha;rcases hcap with h0 | ⟨rfl,hcap⟩
   ·exact .inl h0
   ·right;refine ⟨W.b,W.base+off * W.wd,rfl,fun q hq=>?_⟩;have h5:sh1.len * wd+(c1 - sh1.len) * wd=c1 * wd:=by rw [<- bK];congr 1;omega
    have h6:(off+c1) * W.wd=off * W.wd+c1 * wd:=by rw [bK,hwd]
    have:=hr.own i x W hg hW hpl (off * W.wd+(sh1.len * wd+q)) (by omega)
    rwa [show W.base+(off * W.wd+(sh1.len * wd+q))=W.base+off * W.wd+sh1.len * wd+q by omega] at this
 obtain ⟨y,w',hrun,hcase⟩:=ss (P:=C.P) hu hi hz hs hzs hby hc1 hmax w olds news hol hnl ho hnn hone hroom ty;refine ⟨y,w',hrun,?_⟩;rcases hcase with ⟨rfl,hz1,hz2,rfl,rfl⟩ | ⟨hle,hpos,rfl,b,p,rfl,rfl⟩ | ⟨hlt,cap,rest,hcap,hrest,rfl,rfl⟩
 ·
  have hW:Emb.le e (fun i=>if i=nx then some ⟨C.ng,0,0,wd,0⟩ else e i):=fun i W' hi=>by
   by_cases h:i=nx
   ·subst h;rw [hn] at hi;cases hi
   ·simp [h,hi]
  refine ⟨_,F.ke nx noH,hW,fun i hi=>?_,fun _ _ _ y=>y,⟨⟨C.ng,0,0,wd,0⟩,a1,0,by simp,by simp [hz1,hz2],by simp [hz1,hz2],by simp [hz1,hz2],.inl rfl⟩,?_,b9.refl _ _,?_,fun _ _ u y=> .inl ⟨u,y⟩⟩
  ·have:i≠nx:=by omega
   simp [this]
  ·refine hless.put (j:=nx) (x':=fg wd sh1 sh2) (W':=⟨C.ng,0,0,wd,0⟩) (b9.refl (fun _ _=>False) _) (fun _ _ _ x=>x) (by simp [upd]) (by simp) hW (fun i x hne hi=>by simpa [upd,hne] using hi) (fun _ _ hs=>hs.elim) (fun _ _ _ hs=>hs.elim) (al _) ?_ ?_ ?_ ?_ ?_ (fun v rows hx=>absurd hx (hX.DH v rows)) ?_ ?_ hX.plain (fun _ _ hs=>hs.elim) (Hid.none (fP hX.plain) hno) (fun _ _ hs=>hs.elim) (fun _ _ hs=>hs.elim)
   ·intro r k c hc;have:=(hXrow r k c hc).2;omega
   ·intro r k c hc _;have:=(hXrow r k c hc).2;omega
   ·intro k hk;exact absurd hk (Nat.not_lt_zero _)
   ·intro v rows hx;rcases hX with ⟨rows',h,h3,h4⟩ | ⟨rows',h,h3,h4⟩
    ·rw [h] at hx;cases hx;exact ⟨rfl,by show _=0;omega,h4⟩
    ·rw [h] at hx;cases hx
   ·intro v rows hx;rcases hX with ⟨rows',h,h3,h4⟩ | ⟨rows',h,h3,h4⟩
    ·rw [h] at hx;cases hx
    ·rw [h] at hx;cases hx;exact ⟨rfl,by show _=0;omega,h4⟩
   ·rintro i x W' hne hi he b o hw (hw' | hw')
    ·have h8:=hw'.2.2;have h9:o < 0+0:=h8.2;omega
    ·exact hw'
   ·rintro b o u hu (hw | hw)
    ·have h8:=hw.2.2;have h9:o < 0+0:=h8.2;omega
    ·exact hw
  ·intro b o ho;obtain ⟨i,x,W',hi,he,hw⟩:=ho;by_cases hne:i=nx
   ·subst hne;simp only [bo] at he;cases he;rw [er] at hw;rcases hw with hw | hw
    ·have h8:=hw.2.2;have h9:o < 0+0:=h8.2;omega
    ·exact hw.elim
   ·left;simp only [hne,aV] at he;rw [fW _ _ hne] at hw;exact ⟨i,x,W',hsub i x (by simpa [upd,hne] using hi),he,hw⟩
 ·
  rcases hg' with ⟨rfl,_⟩ | ⟨i,off,len,rfl,rfl⟩
  ·have hv1':bj F .nil (.slice (some ⟨b,p,none⟩) sh1.len c1):=hv1;obtain ⟨a,ha⟩:=bj.iQ hv1';simp only [Value.slice.injEq] at ha;omega
  ·obtain ⟨W,a,cap,x,hW,ha,hla,hnW,hlc,hcap,hg,hwd,hpl⟩:=xn hr hv1 h1 hrd1;simp only [Value.slice.injEq] at ha;obtain ⟨rfl,_,rfl⟩:=ha;obtain ⟨hbp,hcap⟩:=hcap.resolve_left (by omega);simp only [aw,Addr.mk.injEq,and_true] at hbp;obtain ⟨rfl,rfl⟩:=hbp;have hinx:i≠nx:=by rintro rfl;rw [hgnx] at hg;cases hg
   have h5:(sh1.len+sh2.len) * wd<=c1 * wd:=bw wd hle;have h6:(off+c1) * W.wd=off * W.wd+c1 * wd:=by rw [bK,hwd]
   rw [bK] at h5;have hwin:∀ o,W.base+off * W.wd<=o->o < W.base+off * W.wd+c1 * wd->InW W W.b o:=fun o h7 h8=>⟨rfl,by omega,by omega⟩
   have hin:∀ b o,(b=W.b/\W.base+off * W.wd+sh1.len * wd<=o/\o < W.base+off * W.wd+sh1.len * wd+news.length)->InW W b o:=by
    rintro b o ⟨rfl,h7,h8⟩
    exact hwin o (by omega) (by omega)
   have hup:=b9.setCells W.b news (W.base+off * W.wd+sh1.len * wd) w;have hle':Emb.le e (fun k=>if k=nx then some ⟨W.b,W.base+off * W.wd,c1 * wd,wd,sh1.len+sh2.len⟩ else e k):=fun k W' hk=>by
    by_cases h:k=nx
    ·subst h;rw [hn] at hk;cases hk
    ·simp [h,hk]
   have hold:∀ k x',k≠nx->upd (upd g i none) nx (some (fg wd sh1 sh2)) k=some x'->g k=some x'/\k≠i:=by
    intro k x' hne hk;simp only [upd,hne,aV] at hk;split at hk
    ·cases hk
    ·rename_i h;exact ⟨hk,h⟩
   obtain ⟨W0,hW0,hng⟩:=hr.dom i x hg;rw [hW] at hW0;cases hW0;have hsome:∀ j,j < news.length->(w.cell? ⟨W.b,W.base+off * W.wd+sh1.len * wd+j,none⟩).isSome=true:=fun j hj=>by
    have:=(hr.own i x W hg hW hpl (off * W.wd+sh1.len * wd+j) (by omega)).1
    rwa [show W.base+(off * W.wd+sh1.len * wd+j)=W.base+off * W.wd+sh1.len * wd+j by omega] at this
   refine ⟨_,F.ke nx noH,hle',fun k hk=>?_,fun _ _ _ y=>y,⟨⟨W.b,W.base+off * W.wd,c1 * wd,wd,sh1.len+sh2.len⟩,_,c1,by simp,rfl,by simp,hle,.inr ⟨by simp,by simp⟩⟩,?_,hup.mono fun b o h=>⟨i,x,W,hg,hW,.inl (.of hpl (hin b o h))⟩,?_,fun _ _ u y=> .inl ⟨u,y⟩⟩
   ·have:k≠nx:=by omega
    simp [this]
   ·refine hless.put (j:=nx) (x':=fg wd sh1 sh2) (W':=⟨W.b,W.base+off * W.wd,c1 * wd,wd,sh1.len+sh2.len⟩) hup ?_ (by simp [upd]) (by simp) hle' (fun k x' hne hk=>by simpa [upd,hne] using hk) ?_ ?_ hng ?_ ?_ ?_ ?_ ?_ (fun v rows hx=>absurd hx (hX.DH v rows)) ?_ ?_ hX.plain (by
     rintro b o ⟨rfl,h7,h8⟩
     have:=hsome (o - (W.base+off * W.wd+sh1.len * wd)) (by omega)
     rwa [show W.base+off * W.wd+sh1.len * wd+(o - (W.base+off * W.wd+sh1.len * wd))=o by omega] at this) (Hid.none (fP hX.plain) hno) (fun _ _ hs=>hs.elim) (fun _ _ hs=>hs.elim)
    ·rintro b hb o ⟨rfl,_,_⟩;omega
    ·intro b o hs' k x' W' hne hk hek hw';obtain ⟨hk',hki⟩:=hold k x' hne hk;exact hr.sep hg hW hk' hek (Ne.symm hki) (.inl (.of hpl (hin b o hs'))) hw'
    ·intro b o u hs' hu';exact hr.dJ b o u hu' ⟨i,x,W,hg,hW,.inl (.of hpl (hin b o hs'))⟩
    ·intro r k c hc;have h7:=hXrow r k c hc;have:=bw wd (show r+1<=c1 by omega);rw [bK,Nat.one_mul] at this;exact ⟨h7.1,by show r * wd+k < c1 * wd;omega⟩
    ·intro r k c hc _;have h7:=hXrow r k c hc;rcases jA u1 u2 hc with ⟨h3,h4⟩ | ⟨h3,h4⟩
     ·rcases hl1 with h0 | ⟨b',p',hb',hcell⟩
      ·omega
      ·simp only [aw,Addr.mk.injEq,and_true] at hb';obtain ⟨rfl,rfl⟩:=hb';obtain ⟨u,h8,h9⟩:=hcell r k c h4;refine ⟨u,?_,cj.mono hle' (fun _ _ _ y=>y) h9⟩;rw [World.cell?_setCells_out]
       ·exact h8
       ·intro _ _;left;have:=bw wd (show r+1<=sh1.len from h3);rw [bK,Nat.one_mul] at this;show W.base+off * W.wd+r * wd+k < W.base+off * W.wd+sh1.len * wd;omega
     ·obtain ⟨u,h8,h9⟩:=hnc _ k c h4;refine ⟨u,?_,cj.mono hle' (fun _ _ _ y=>y) h9⟩;have hlt':(r - sh1.len) * wd+k < news.length:=(af.1 h8).1;have:=World.cell?_setCells_in W.b news (W.base+off * W.wd+sh1.len * wd) w hsome _ hlt';have hidx:r * wd=sh1.len * wd+(r - sh1.len) * wd:=by rw [<- bK];congr 1;omega
      rw [show W.base+off * W.wd+sh1.len * wd+((r - sh1.len) * wd+k)=W.base+off * W.wd+r * wd+k by omega] at this;show World.cell? _ ⟨W.b,W.base+off * W.wd+r * wd+k,none⟩=_;rw [this,<- h8,aa hlt']
    ·intro k hk;have hk':k < c1 * wd:=hk;have:=hr.own i x W hg hW hpl (off * W.wd+k) (by omega);rw [show W.base+(off * W.wd+k)=W.base+off * W.wd+k by omega] at this;exact ⟨World.isSome_setCells _ _ _ _ _ this.1,by rw [World.frozen?_setCells];exact this.2⟩
    ·intro v rows hx;rcases hX with ⟨rows',h,h3,h4⟩ | ⟨rows',h,h3,h4⟩
     ·rw [h] at hx;cases hx;exact ⟨rfl,h3,h4⟩
     ·rw [h] at hx;cases hx
    ·intro v rows hx;rcases hX with ⟨rows',h,h3,h4⟩ | ⟨rows',h,h3,h4⟩
     ·rw [h] at hx;cases hx
     ·rw [h] at hx;cases hx;exact ⟨rfl,h3,h4⟩
    ·rintro k x' W' hne hk hek b o hw' (⟨_,rfl,h8,h9⟩ | hw'')
     ·obtain ⟨hk',hki⟩:=hold k x' hne hk;exact hr.sep hg hW hk' hek (Ne.symm hki) (.inl (.of hpl (hwin o h8 h9))) hw'
     ·exact hw''
    ·rintro b o u hu' (⟨_,rfl,h8,h9⟩ | hw'')
     ·exact hr.dJ _ o u hu' ⟨i,x,W,hg,hW,.inl (.of hpl (hwin o h8 h9))⟩
     ·exact hw''
   ·intro b o ho';left;obtain ⟨k,x',W',hk,hek,hw'⟩:=ho';by_cases hne:k=nx
    ·subst hne;simp only [bo] at hek;cases hek;rw [er] at hw';rcases hw' with ⟨_,rfl,h8,h9⟩ | hw'
     ·exact ⟨i,x,W,hg,hW,.inl (.of hpl (hwin o h8 h9))⟩
     ·exact hw'.elim
    ·simp only [hne,aV] at hek;rw [fW _ _ hne] at hw';exact ⟨k,x',W',(hold k x' hne hk).1,hek,hw'⟩
 ·
  have hup:b9 (fun _ _=>False) w w.drew:=b9.drew w;have hres:=qh (nx:=nx) (t:=el) (cs:=olds.toArray++news.toArray++rest) hless hup hX (fun r k c hc=>by
   refine ⟨(hXrow r k c hc).1,?_⟩;have hk:=(hXrow r k c hc).1;rcases jA u1 u2 hc with ⟨h3,h4⟩ | ⟨h3,h4⟩
   ·obtain ⟨u,h5,h6⟩:=hoc r k c h4;refine ⟨u,?_,h6⟩;have hlt':r * wd+k < olds.length:=(af.1 h5).1;rw [Array.append_assoc,Array.getElem?_append_left (by simpa using hlt')];simpa using h5
   ·obtain ⟨u,h5,h6⟩:=hnc _ k c h4;refine ⟨u,?_,h6⟩;have hlt':(r - sh1.len) * wd+k < news.length:=(af.1 h5).1;have hidx:r * wd+k=olds.length+((r - sh1.len) * wd+k):=by
     rw [hol,<- cS,<- bK];congr 2;omega
    rw [Array.append_assoc,Array.getElem?_append_right (by simp;omega),Array.getElem?_append_left (by simp;omega)];rw [<- h5];simp;congr 1;omega) (by
   have h5:(sh1.len+sh2.len) * wd+(cap - (sh1.len+sh2.len)) * wd=cap * wd:=by rw [<- bK];congr 1;omega
   simp only [Array.size_append,List.size_toArray,hol,hnl,hrest];rw [bK] at h5;omega) hcap hn
  obtain ⟨e',F',q1,q2,q3,q4,q5,q6,q7,q8⟩:=hres;have hmono:∀ b o,Own e F g' b o->Own e F g b o:=fun b o ⟨i,x,W,h,r⟩=>⟨i,x,W,hsub i x h,r⟩
  exact ⟨e',F',q1,q2,q3,q4,q5,q6.mono hmono,fun b o ho=>(q7 b o ho).imp (hmono b o) id,fun b o u hu=>(q8 b o u hu).imp id (Or.imp (hmono b o) id)⟩
end
section
variable {C:Ctx} {o:Oper} {fr:Fr} {σ:Ob} {nx:Nat} {K:Eff->Prop}
theorem yn (g:Sto) (i:Nat) (x y:Option O):upd (upd g i x) i y=upd g i y:=by
 funext k;simp only [upd];split<;>rfl
theorem Av {x:Option O} (h:g i=x):upd g i x=g:=by
 funext k;simp only [upd];split
 ·rename_i hk;rw [hk,h]
 ·rfl
theorem Rel.free (hr:Rel C e F g w) (h:e i=none):g i=none:=by
 cases hh:g i with
 | none=>rfl
 | some x=>obtain ⟨W,hW,_⟩:=hr.dom i x hh;rw [h] at hW;cases hW
theorem BY {b:List (List D)} {m:Nat} (h1:(Sh.ds a n).uni wd) (h2:(Sh.ds b m).uni wd):((a++b).drop 0).take (n+m)=a++b:=by
 rw [aq,ae];rw [aH,h1.1,h2.1];exact al _
theorem CN {x:Operand} {fz:Bool} (ho:∃ c,o.op= .call c/\c.callee= .builtin .append/\c.args=#[x,y]/\c.argTypes=#[t,t]) (hu:C.P.underlying t=some (.slice el)) (hi:C.P.info? el=some inf) (hz:inf.zero=some z)
  (hs:inf.size=wd) (hw:wd≠0) (hzs:z.cells.size=wd) (hby:inf.bytes<=65536) (hx:okA x x'=true) (hy:okA y y'=true) (hk:wpR C σ nx K (sem (.app wd x' y' fz) fr σ nx)):∃ eff,K eff/\Good C o fr nx eff:=by
 obtain ⟨c,ho,hc,ha,hat⟩:=ho;have key:∀ (sh1 sh2:Sh) (rd1 rd2 rd:List (Nat×O)) (pt:Pt) (v:V),shown σ wd (x'.ev fr)=some (sh1,rd1)->shown σ wd (y'.ev fr)=some (sh2,rd2)->(∀ p,p∈rd1\/p∈rd2->p∈rd)->sh1.len+sh2.len<=1073741824 ->
   ((x'.ev fr= .d .nil/\((v= .arr nx 0 (sh1.len+sh2.len)/\pt=[(nx,some (fg wd sh1 sh2))])\/(∃ a n b m,sh1= .ds a n/\sh2= .ds b m/\v= .d (.imm wd (a++b))/\pt=[]))) \/
   (∃ i off len,x'.ev fr= .arr i off len/\((v= .arr nx 0 (sh1.len+sh2.len)/\pt=[(i,none),(nx,some (fg wd sh1 sh2))])\/(∃ a n b m,sh1= .ds a n/\sh2= .ds b m/\v= .d (.imm wd (a++b))/\pt=[(i,none)])))) ->
   Good C o fr nx {v:=v,pt:=pt,n:=1,rd:=rd}:=by
  intro sh1 sh2 rd1 rd2 rd pt v h1 h2 hrd hmax hcase;refine Good.fl fun e F g w a hf hr hrd' hn=>?_
  have hnx:=hn nx (al _) (Nat.lt_succ_self _);have hv1:=aO hx hf;have hv2:=aO hy hf;have hgnx:=hr.free hnx;have fin:∀ (g':Sto),((x'.ev fr= .d .nil/\g'=g)\/∃ i off len,x'.ev fr= .arr i off len/\g'=upd g i none)->g' nx=none ->
    ∃ y' w',(execOp a.eval o).run C.P w= .ok (.value y') w'/\Res C e F g w nx 1 (.arr nx 0 (sh1.len+sh2.len)) (upd g' nx (some (fg wd sh1 sh2))) y' w' /\
     (∀ a n b m,sh1= .ds a n->sh2= .ds b m->Res C e F g w nx 1 (.d (.imm wd (a++b))) g' y' w'):=by
   intro g' hg' hfree;obtain ⟨y2,w',hrun,hres⟩:=B7 hu hi hz hs hw hzs hby hr hv1 hv2 h1 h2 (fun p hp=>hrd' p (hrd p (.inl hp))) (fun p hp=>hrd' p (hrd p (.inr hp))) hmax hnx o.type g' hg';refine ⟨y2,w',?_,hres,?_⟩
   ·simp [execOp,ho,resolve,hc,invoke,builtin,ha,hat,ax,hrun]
   ·rintro a2 n b m rfl rfl
    have hu1:=(iL hr hv1 h1 (fun p hp=>hrd' p (hrd p (.inl hp)))).1;have hu2:=(iL hr hv2 h2 (fun p hp=>hrd' p (hrd p (.inr hp)))).1;have:=Res.freeze hres (by simp only [upd,bo];rfl);rw [yn,Av hfree,show (Sh.ds a2 n).len+(Sh.ds b m).len=n+m from rfl,BY hu1 hu2] at this;exact this
  rcases hcase with ⟨hxn,hcase⟩ | ⟨i,off,len,hxa,hcase⟩
  ·obtain ⟨y2,w',hrun,hres,hfr⟩:=fin g (.inl ⟨hxn,rfl⟩) hgnx;rcases hcase with ⟨rfl,rfl⟩ | ⟨a2,n,b,m,e1,e2,rfl,rfl⟩
   ·exact ⟨y2,w',hrun,hres⟩
   ·exact ⟨y2,w',hrun,hfr a2 n b m e1 e2⟩
  ·obtain ⟨y2,w',hrun,hres,hfr⟩:=fin (upd g i none) (.inr ⟨i,off,len,hxa,rfl⟩) (by simp only [upd];split<;>first | rfl | exact hgnx);rcases hcase with ⟨rfl,rfl⟩ | ⟨a2,n,b,m,e1,e2,rfl,rfl⟩
   ·exact ⟨y2,w',hrun,hres⟩
   ·exact ⟨y2,w',hrun,hfr a2 n b m e1 e2⟩
 simp only [sem] at hk;split at hk
 ·rename_i sh1 rd1 sh2 rd2 h1 h2;split at hk
  ·rename_i hxn;have e1:sh1= .ds [] 0:=by
    rw [hxn] at h1;simp only [shown,aw,Prod.mk.injEq] at h1;exact h1.1.symm
   subst e1;split at hk
   ·rename_i y2 n;refine ⟨_,hk.2,key _ _ rd1 rd2 _ _ _ h1 h2 ?_ ?_ (.inl ⟨hxn,.inr ⟨[],0,y2,n,rfl,rfl,rfl,rfl⟩⟩)⟩
    ·rintro p (hp | hp)
     ·rw [hxn] at h1;simp only [shown,aw,Prod.mk.injEq] at h1;rw [<- h1.2] at hp;cases hp
     ·exact hp
    ·have:=hk.1;simp only [Sh.len];omega
   ·refine ⟨_,hk.2,key _ _ rd1 rd2 _ _ _ h1 h2 ?_ ?_ (.inl ⟨hxn,.inl ⟨by simp [Sh.len],rfl⟩⟩)⟩
    ·rintro p (hp | hp)
     ·rw [hxn] at h1;simp only [shown,aw,Prod.mk.injEq] at h1;rw [<- h1.2] at hp;cases hp
     ·exact hp
    ·have:=hk.1;simp only [Sh.len] at *;omega
  ·rename_i i off len hxa;have e1:sh1.len=len:=by
    rw [hxa] at h1;simp only [shown] at h1;split at h1
    ·rename_i w' rows hl;cases hb:Nat.beq wd w' with
     | false=>simp only [hb,cond_false] at h1;cases h1
     | true=>simp only [hb,cond_true,aw,Prod.mk.injEq] at h1;rw [<- h1.1];rfl
    ·rename_i w' rows hl;cases hb:Nat.beq wd w' with
     | false=>simp only [hb,cond_false] at h1;cases h1
     | true=>simp only [hb,cond_true,aw,Prod.mk.injEq] at h1;rw [<- h1.1];rfl
    ·cases h1
   split at hk
   ·rename_i x2 n1 y2 n;refine ⟨_,hk.2,key _ _ rd1 rd2 _ _ _ h1 h2 (fun p hp=>bL.2 hp) ?_ (.inr ⟨i,off,len,hxa,.inr ⟨_,_,_,_,rfl,rfl,rfl,rfl⟩⟩)⟩;have:=hk.1;rw [e1];exact this
   ·refine ⟨_,hk.2,key _ _ rd1 rd2 _ _ _ h1 h2 (fun p hp=>bL.2 hp) ?_ (.inr ⟨i,off,len,hxa,.inl ⟨by rw [e1],rfl⟩⟩)⟩;have:=hk.1;rw [e1];exact this
  ·exact hk.elim
 ·exact hk.elim
theorem AR (h:(O.da wd (List.replicate n ds)).cell r k=some c):r < n/\∃ d,ds[k]?=some d/\c= .d d:=by
 simp only [O.cell] at h;cases hr:(List.replicate n ds)[r]? with
 | none=>simp [hr] at h
 | some row =>
  have h1:r < n:=by simpa using (af.1 hr).1
  have h2:row=ds:=by rw [List.getElem?_replicate] at hr;simp [h1] at hr;exact hr.symm
  subst h2;simp only [hr,bQ,ay] at h;obtain ⟨d,h3,rfl⟩:=h;exact ⟨h1,d,h3,rfl⟩
theorem yK {z:Array Value} (hz:z.size=wd) (hr:r < n) (hk:k < wd):(madeCells z (n * wd))[r * wd+k]?=z[k]?:=by
 have h1:=bw wd (show r+1<=n from hr);rw [bK,Nat.one_mul] at h1;have h2:r * wd+k < n * wd:=by omega
 have h3:(r * wd+k) % wd=k:=by rw [Nat.mul_comm,Nat.mul_add_mod];exact Nat.mod_eq_of_lt hk
 unfold madeCells;simp [Array.getElem?_map,Array.getElem?_range,h2,hz,h3,Array.getElem!_eq_getD,hk]
theorem Cy {x:Operand} {z:List V} (ho:o.op= .makeSlice t x x) (hu:C.P.underlying t=some (.slice el)) (hi:C.P.info? el=some inf) (hz:inf.zero=some v)
  (hs:inf.size=wd) (hzs:v.cells.size=wd) (hby:inf.bytes<=65536) (hzc:xf v.cells.toList z=true) (hx:okA x x'=true) (hk:wpR C σ nx K (sem (.mks wd z x') fr σ nx)):∃ eff,K eff/\Good C o fr nx eff:=by
 have hzl:z.length=wd:=by
  have:=(gQ hzc (fun _=>none) ⟨fun _ _=>none,fun _ _ _=>False⟩).len;rw [this];simpa using hzs
 have run:∀ (k:IntKind) (n:Int),0<=n->n<=1073741824->∀ (e:Emb) (F:Fz) (w:World) (a:Act),FR e F fr a->x'.ev fr= .d (.int k n) ->
   (execOp a.eval o).run C.P w= .ok (.value (.slice (some ⟨w.heap.size,0,none⟩) n.toNat n.toNat)) (w.alloc (.cells (madeCells v.cells (n.toNat * wd)) el (0,0))):=by
  intro k n h0 h1 e F w a hf hv;have h2:=aO hx hf;rw [hv] at h2;have h2:=bj.et h2;have hb:(inf.bytes:Int) * n<=281474976710656:=by
   have h3:(inf.bytes:Int) * n<=65536 * 1073741824:=Int.mul_le_mul (by omega) h1 h0 (by omega);omega
  have h3:=run_make (P:=C.P) w t el inf v hu hi hz k k n n h0 (Int.le_refl _) hb (by omega);rw [hs] at h3;simp only [execOp,ho,ax,h2,h3,aF,bq]
 simp only [sem] at hk;split at hk
 ·rename_i k n ds hv hds;obtain ⟨⟨h0,h1⟩,hk⟩:=hk;refine ⟨_,hk,Good.fl fun e F g w a hf hr _ hn=>⟨_,_,run k n h0 h1 e F w a hf hv,?_⟩⟩;have hdl:=(ot _ _ hds).1;refine qh hr (b9.refl _ _) (.inl ⟨_,rfl,by simp,fun row hrow=>by rw [(List.eq_of_mem_replicate hrow),hdl,hzl]⟩) ?_ (by simp [madeCells]) (al _) (hn nx (al _) (Nat.lt_succ_self _));intro r q c hc;obtain ⟨h2,d,h3,rfl⟩:=AR hc;have hq:q < wd:=by rw [<- hzl,<- hdl];exact (af.1 h3).1
  refine ⟨hq,?_⟩;obtain ⟨c',h4,h5⟩:=qt hds q d h3;obtain ⟨u,h6,h7⟩:=(gQ hzc e F).get q c' h4;exact ⟨u,by rw [yK hzs h2 hq];simpa using h6,jD (b6.lF (fu.lR h7)) h5⟩
 ·rename_i k n hv hds;obtain ⟨⟨h0,h1⟩,hk⟩:=hk;refine ⟨_,hk,Good.fl fun e F g w a hf hr _ hn=>⟨_,_,run k n h0 h1 e F w a hf hv,?_⟩⟩;refine qh hr (b9.refl _ _) (.inr ⟨_,rfl,by simp,fun row hrow=>by rw [(List.eq_of_mem_replicate hrow),hzl]⟩) ?_ (by simp [madeCells]) (al _) (hn nx (al _) (Nat.lt_succ_self _));intro r q c hc;simp only [O.cell] at hc;cases hr':(List.replicate n.toNat z)[r]? with
  | none=>simp [hr'] at hc
  | some row =>
   have h2:r < n.toNat:=by simpa using (af.1 hr').1
   have h3:row=z:=by rw [List.getElem?_replicate] at hr';simp [h2] at hr';exact hr'.symm
   subst h3;simp only [hr',bQ] at hc;have hq:q < wd:=by rw [<- hzl];exact (af.1 hc).1
   obtain ⟨u,h6,h7⟩:=(gQ hzc e F).get q c hc;exact ⟨hq,u,by rw [yK hzs h2 hq];simpa using h6,h7⟩
 ·exact hk.elim
theorem nG:∀ (rows:List (List D)) (s:List UInt8),il rows=some s->∃ ns:List Int,s=ns.map (fun n=>UInt8.ofNat n.toNat)/\rows=ns.map (fun n=>[D.int .u8 n])
 | [],s,h=>by cases h;exact ⟨[],rfl,rfl⟩
 | r::l,s,h=>by
  unfold il at h;split at h
  ·rename_i h0;cases h0
  ·rename_i n l' h0;cases h0;simp only [ay] at h;obtain ⟨t,h1,rfl⟩:=h;obtain ⟨ns,rfl,rfl⟩:=nG l t h1;exact ⟨n::ns,rfl,rfl⟩
  ·cases h
theorem vV:∀ (ns:List Int) (r:ByteArray),(ns.foldl (fun r n=>r.push (UInt8.ofNat n.toNat)) r).data.toList=r.data.toList++ns.map (fun n=>UInt8.ofNat n.toNat)
 | [],r=>by simp
 | n::ns,r=>by
  rw [List.foldl_cons,vV ns];simp [ByteArray.push]
theorem zp {x:Operand} {s:TypeId} (ho:o.op= .convert s t x) (hs:C.P.underlying s=some (.slice el)) (ht:C.P.underlying t=some .string) (hel:C.P.underlying el=some (.int .u8)) (hx:okA x x'=true)
  (hk:wpR C σ nx K (sem (.qB x') fr σ nx)):∃ eff,K eff/\Good C o fr nx eff:=by
 simp only [sem] at hk;split at hk
 ·rename_i rs n rd hsh;obtain ⟨hne,hk⟩:=hk;cases hb:il rs with
  | none=>exact absurd hb hne
  | some str =>
   rw [hb] at hk;refine ⟨_,hk,Good.cz fun e F g w a hf hr hrd=>?_⟩;obtain ⟨u1,b,cap,hv,hcap,hl⟩:=iL hr (aO hx hf) hsh hrd;obtain ⟨ns,h1,h2⟩:=nG rs str hb;have hlen:ns.length=n:=by rw [<- u1.1,h2];simp
   have hrun:∃ y,(convert s t (a.eval x)).run C.P w= .ok (.string y) w/\y.data.toList=str:=by
    rw [hv];rcases b with _ | ⟨bb,pp,spot⟩
    ·have h0:n=0:=by
      rcases hl with h | ⟨_,_,h,_⟩
      ·exact h
      ·cases h
     have:ns=[]:=by rw [<- cI,hlen,h0]
     subst this;refine ⟨.empty,?_,by rw [h1];rfl⟩;simp [convert,ax,run_underlying hs,run_underlying ht,run_underlying hel,Conv.bytesToString]
    ·have hload:(loadCells ⟨bb,pp,spot⟩ n).run C.P w= .ok (ns.map (Value.int .u8)).toArray w:=by
      rcases hl with h | ⟨b',p',h,hcell⟩
      ·have h:n=0:=h;have:ns=[]:=by rw [<- cI,hlen,h]
       subst this;rw [h];rfl
      ·cases h;have:=run_loadCells_list (P:=C.P) w ⟨bb,pp,none⟩ (ns.map (Value.int .u8)) (fun j v hj=>by
        rw [Addr.add_mid];simp only [bf,ay] at hj;obtain ⟨m,h3,rfl⟩:=hj;obtain ⟨u,h4,h5⟩:=hcell j 0 (.d (.int .u8 m)) (by rw [h2];simp [Sh.get,h3]);rw [bj.et h5] at h4;simpa using h4)
       rw [aJ,hlen] at this;exact this
     have:=run_bytesToString (P:=C.P) w ⟨bb,pp,spot⟩ n cap ns hload;refine ⟨ns.foldl (fun r n=>r.push (UInt8.ofNat n.toNat)) ByteArray.empty,?_,?_⟩
     ·simp only [convert,ax,run_underlying hs,run_underlying ht,aF,Sh.len,run_underlying hel,this]
     ·rw [vV,h1];simp
   obtain ⟨y,h3,h4⟩:=hrun;refine ⟨.string y,by simp only [execOp,ho,ax,h3,aF,bq],?_⟩;rw [<- h4];exact bj.str y
 ·exact hk.elim
end
end Go.Proofs.YtggoiofammbchaaGreatDoor.Loc
