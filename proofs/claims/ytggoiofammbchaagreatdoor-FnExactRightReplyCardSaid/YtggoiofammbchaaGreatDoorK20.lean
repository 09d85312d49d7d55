/- Part 20 of a chain that ends in the statement named in GOCLAIM.json; no condition. -/
import Derived.Test.YtggoiofammbchaaGreatDoorK19
set_option maxRecDepth 100000
set_option maxHeartbeats 2000000
set_option linter.all false
namespace Go.Proofs.YtggoiofammbchaaGreatDoor.Loc
open Go
variable {α:Type} {P:List Fc} {k m n up:Nat} {l:List Val} {v:Val}
structure Frm where
 fn:Nat
 pc:Nat
 aL:List Val
 stack:List Val
 tries:List (Nat×Nat)
structure bI where
 fs:List Frm
 state:Int
 val:Val
 used:Nat
def j0 (c:Int):Val:=dH (eC c)
def iI (v:Val):List Frm->Option (List Frm)
 | []=>none
 | f::l=>match f.tries.getLast? with
  | some t=>some ({f with tries:=f.tries.dropLast,stack:=f.stack.take t.2++[v],pc:=t.1}::l)
  | none=>iI v l
def bI.throw (v:Val) (m:bI):bI:=match iI v m.fs with
 | some l=>{m with fs:=l}
 | none=>{m with fs:=[],state:=3,val:=v}
def tv (v:Val):List Frm->List Frm
 | []=>[]
 | f::l=>{f with stack:=f.stack++[v]}::l
def bI.made (r:Val×Int) (m:bI):bI:=if r.2≠0 then m.throw (j0 r.2) else {m with fs:=tv r.1 m.fs}
def bI.sD (v:Val) (m:bI):bI:=if m.fs.tail=[] then {m with fs:=[],state:=2,val:=v} else {m with fs:=tv v m.fs.tail}
def cC (sl:Nat) (j:Nat) (args:List Val):Frm:=⟨j,0,args++List.replicate (sl - args.length) bO,[],[]⟩
def slotsOf (P:List Fc) (j:Nat):Nat:=match P[j]? with
 | some f=>f.aL.toNat
 | none=>0
def dB (i:Ins):Nat :=
 if i.op=1\/i.op=2 then 0 else if i.op=3\/i.op=7\/i.op=8\/i.op=9\/i.op=12\/i.op=13\/i.op=16 then 1 else if i.op=4 then 1 else if i.op=5 then 2 else if i.op=11 then i.a.toNat else 0
def Frm.pop (n:Nat) (f:Frm):Frm:={f with stack:=f.stack.take (f.stack.length - n)}
def Frm.top (n:Nat) (f:Frm):List Val:=f.stack.drop (f.stack.length - n)
def arg (l:List Val) (k:Nat):Val:=l.getD k bO
def bE (P:List Fc) (i:Ins) (f:Frm) (l:List Frm) (m:bI):bI :=
 if i.op=10 then
  (if l.length+1=6 then ({m with fs:=f.pop i.b.toNat::l}:bI).throw (j0 9) else {m with fs:=cC (slotsOf P i.a.toNat) i.a.toNat (f.top i.b.toNat)::f.pop i.b.toNat::l})
 else
  let a:=f.top (dB i)
  let g:=f.pop (dB i)
  if i.op=1 then ({m with fs:=g::l}:bI).made (i.val,0)
  else if i.op=2 then ({m with fs:=g::l}:bI).made (arg g.aL i.a.toNat,0)
  else if i.op=3 then {m with fs:={g with aL:=g.aL.set i.a.toNat (arg a 0)}::l}
  else if i.op=4 then ({m with fs:=g::l}:bI).made (vUn i.text (arg a 0))
  else if i.op=5 then ({m with fs:=g::l}:bI).made (mI i.text (arg a 0) (arg a 1))
  else if i.op=11 then ({m with fs:=g::l}:bI).made (vBi i.text a)
  else if i.op=6 then {m with fs:={g with pc:=i.a.toNat}::l}
  else if i.op=7 then {m with fs:=(if (arg a 0).ig=true then g else {g with pc:=i.a.toNat})::l}
  else if i.op=8\/i.op=9 then {m with fs:=(if (arg a 0).ig=decide (i.op=9) then {g with stack:=g.stack++[arg a 0],pc:=i.a.toNat} else g)::l}
  else if i.op=12 then ({m with fs:=g::l}:bI).sD (arg a 0)
  else if i.op=13 then ({m with fs:=g::l}:bI).throw (arg a 0)
  else if i.op=14 then {m with fs:={g with tries:=g.tries++[(i.a.toNat,g.stack.length)]}::l}
  else if i.op=15 then {m with fs:={g with tries:=g.tries.dropLast}::l}
  else {m with fs:=g::l}
def pJ (P:List Fc) (f:Frm):Option Ins:=P[f.fn]?.bind (·.code[f.pc]?)
def iG (P:List Fc) (m:bI):bI:=match m.fs with
 | []=>m
 | f::l=>match pJ P f with
  | some i=>bE P i {f with pc:=f.pc+1} l {m with used:=min (m.used+1) 1000000}
  | none=>m
structure gA (P:List Fc) (up:Nat) (f:Frm):Prop where
 ex:∃ fc sl H,P[f.fn]?=some fc/\DF P fc sl H/\f.pc < fc.code.length/\f.aL.length=sl/\H f.pc=(f.stack.length+up,f.tries.length)/\∀ (k:Nat) t,f.tries[k]?=some t->t.2=0/\t.1 < fc.code.length/\H t.1=(1,k)
 vs:∀ v∈f.aL,v.ok
 vt:∀ v∈f.stack,v.ok
structure Je (P:List Fc) (l:List Frm):Prop where
 top:∀ f r,l=f::r->gA P 0 f/\∀ g∈r,gA P 1 g
 few:l.length<=6
structure gw (P:List Fc) (m:bI):Prop where
 fs:Je P m.fs
 run:m.state=1->m.fs≠[]
 val:m.val.ok
 st:m.state=1\/((m.state=2\/m.state=3)/\m.fs=[])
def Low (k:Nat) (l:List Frm):Prop:=∀ f∈l,f.stack.length<=k/\f.tries.length<=k
theorem lJ {t:List UInt8} (h:t.length<=1073741824):(dH t).ok:=⟨by simp [small,dH],by simp [Val.kindOk,dH],h⟩
theorem nC {n:Int} (h:small n):(iH n).ok:=⟨h,by simp [Val.kindOk,iH],by simp [iH]⟩
theorem nD (b:Bool):(iW b).ok:=⟨by simp only [iW,small];split<;>omega,by simp [Val.kindOk,iW],by simp [iW]⟩
theorem ef:bO.ok:=⟨by simp [small,bO],by simp [Val.kindOk,bO],by simp [bO]⟩
theorem uf (n:Int):(mH n).1.ok:=by
 unfold mH;split
 ·rename_i h;exact nC h
 ·exact ef
theorem vA (c:Int):(j0 c).ok:=by
 refine lJ ?_;unfold eC;split
 ·have:∀ w∈eS,w.length<=10:=by decide
  cases hq:eS[c.toNat]? with
  | none=>simp
  | some w=>have:=this w (aP hq);simp;omega
 ·simp
theorem DU (t:List UInt8) (a:Val):(vUn t a).1.ok:=by
 unfold vUn;split
 ·exact nD _
 split
 ·exact ef
 ·exact uf _
theorem DW (t:List UInt8) (a b:Int):(vAr t a b).1.ok:=by
 unfold vAr;repeat' split
 all_goals first | exact nD _ | exact uf _ | exact ef
theorem Cl (t:List UInt8) (a b:Val):(mI t a b).1.ok:=by
 unfold mI;split
 ·exact nD _
 split
 ·exact nD _
 split
 ·split
  ·exact ef
  ·exact lJ (by rw [aH];omega)
 split
 ·exact ef
 ·exact DW _ _ _
theorem By {n:Int} (h:small n):(Lib.itoa n).length<=1073741824:=by
 unfold small at h;unfold Lib.itoa;split
 ·have:=ve n.natAbs (by omega);simp;omega
 ·have:=ve n.toNat (by omega)
  first | omega | (simp;omega)
theorem vG {a:Val} (h:a.ok):a.text.length<=1073741824:=by
 unfold Val.text;split
 ·exact By h.1
 split
 ·split<;>simp
 split
 ·exact h.2.2
 ·simp
theorem DV (t:List UInt8) (l:List Val) (h:∀ v∈l,v.ok):(vBi t l).1.ok:=by
 unfold vBi;split
 ·rename_i a;have ha:=h a (by simp);split
  ·split
   ·exact ef
   ·refine nC ?_;have:=ha.2.2;unfold small;omega
  split
  ·exact lJ (vG ha)
  split
  ·exact ef
  ·exact uf _
 ·rename_i a b;have ha:=h a (by simp);have hb:=h b (by simp);split
  ·split
   ·exact ef
   split
   ·refine nC ?_;have:=UInt8.toNat_lt ((a.t[b.n.toNat]?).getD 0);unfold small;omega
   ·exact ef
  split
  ·exact ef
  split
  ·refine nC ?_;split
   ·exact hb.1
   ·exact ha.1
  ·refine nC ?_;split
   ·exact hb.1
   ·exact ha.1
 ·rename_i a b c;have ha:=h a (by simp);split
  ·exact ef
  split
  ·refine lJ ?_;have:=ha.2.2;rw [bD,bh];omega
  ·exact ef
 ·exact ef
structure Ao (P:List Fc) (f:Frm):Prop where
 ex:∃ fc sl H,P[f.fn]?=some fc/\DF P fc sl H/\f.aL.length=sl/\∀ (k:Nat) t,f.tries[k]?=some t->t.2=0/\t.1 < fc.code.length/\H t.1=(1,k)
 vs:∀ v∈f.aL,v.ok
theorem gA.t {f:Frm} (h:gA P up f):Ao P f:=by
 obtain ⟨⟨fc,sl,H,a1,a2,a3,a4,a5,a6⟩,b1,b2⟩:=h;exact ⟨⟨fc,sl,H,a1,a2,a4,a6⟩,b1⟩
theorem Ao.mk' {f g:Frm} (h:Ao P f) (h1:g.fn=f.fn) (h2:g.aL=f.aL) (h3:g.tries=f.tries):Ao P g:=by
 obtain ⟨⟨fc,sl,H,a1,a2,a4,a6⟩,b1⟩:=h;exact ⟨⟨fc,sl,H,by rw [h1];exact a1,a2,by rw [h2];exact a4,by rw [h3];exact a6⟩,by rw [h2];exact b1⟩
theorem sX {P:List Fc} {v:Val} (hv:v.ok):∀ (l:List Frm),(∀ f∈l,Ao P f)->(∀ f r,l=f::r->∀ g∈r,gA P 1 g)->∀ l',iI v l=some l'->(∃ f r,l'=f::r/\gA P 0 f/\∀ g∈r,gA P 1 g)/\l'.length<=l.length/\∀ k,Low k l->Low (k+1) l'
 | [],_,_,l',h=>by cases h
 | f::l,h1,h2,l',h=>by
  have h3:=h2 f l rfl;unfold iI at h;split at h
  ·rename_i t ht;cases h;obtain ⟨⟨fc,sl,H,a1,a2,a4,a6⟩,b1⟩:=h1 f (by simp);have hlast:f.tries[f.tries.length - 1]?=some t:=by rw [List.getLast?_eq_getElem?] at ht;exact ht
   obtain ⟨t1,t2,t3⟩:=a6 _ t hlast;have hst:f.stack.take t.2++[v]=[v]:=by rw [t1];simp
   refine ⟨⟨_,l,rfl,⟨⟨fc,sl,H,a1,a2,t2,a4,?_,fun k t' ht'=>?_⟩,b1,fun u hu=>?_⟩,h3⟩,by simp,fun k hk g hg=>?_⟩
   ·rw [t3,hst,List.length_dropLast];rfl
   ·refine a6 k t' ?_;rw [List.getElem?_dropLast] at ht';split at ht'
    ·exact ht'
    ·cases ht'
   ·rw [hst,bA] at hu;rw [hu];exact hv
   ·rcases aQ.1 hg with rfl | hg
    ·have:=hk f (by simp);simp only [hst,List.length_dropLast,aU];omega
    ·have:=hk g (aM _ hg);omega
  ·obtain ⟨g1,g2,g3⟩:=sX hv l (fun g hg=>(h3 g hg).t) (fun g r hr g' hg'=>h3 g' (by rw [hr];exact aM _ hg')) l' h;exact ⟨g1,Nat.le_succ_of_le g2,fun k hk=>g3 k fun g hg=>hk g (aM _ hg)⟩
theorem vF (hv:v.ok) {m:bI} (h1:m.state=1) (hval:m.val.ok) {f:Frm} {l:List Frm} (hfs:m.fs=f::l) (hf:Ao P f) (hl:∀ g∈l,gA P 1 g) (h6:l.length+1<=6):gw P (m.throw v)/\∀ k,Low k m.fs->Low (k+1) (m.throw v).fs:=by
 unfold bI.throw;cases hq:iI v m.fs with
 | none=>exact ⟨⟨⟨(fun f r h=>nomatch h),by simp⟩,(fun h=>by simp at h),hv,.inr ⟨.inr rfl,rfl⟩⟩,fun k _ g hg=>nomatch hg⟩
 | some l' =>
  obtain ⟨⟨f',r',e1,e2,e3⟩,g2,g3⟩:=sX hv m.fs (fun g hg=>by rw [hfs] at hg;rcases aQ.1 hg with rfl | hg;exact hf;exact (hl g hg).t) (fun f2 r2 h2=>by rw [hfs] at h2;cases h2;exact hl) l' hq;refine ⟨⟨⟨fun f2 r2 h2=>?_,?_⟩,fun _=>?_,hval,.inl h1⟩,g3⟩
  ·simp only at h2;rw [e1] at h2;cases h2;exact ⟨e2,e3⟩
  ·rw [hfs] at g2;simp at g2 ⊢;omega
  ·simp only;rw [e1];simp
theorem vU (hv:v.ok) {g:Frm} (h:gA P 1 g):gA P 0 {g with stack:=g.stack++[v]}:=by
 obtain ⟨⟨fc,sl,H,a1,a2,a3,a4,a5,a6⟩,b1,b2⟩:=h;refine ⟨⟨fc,sl,H,a1,a2,a3,a4,?_,a6⟩,b1,fun u hu=>?_⟩
 ·rw [a5];simp
 ·rcases bL.1 hu with hu | hu
  ·exact b2 u hu
  ·rw [bA.1 hu];exact hv
theorem C2 {r:Val×Int} (hv:r.1.ok) {m:bI} (h1:m.state=1) (hval:m.val.ok) {f:Frm} {l:List Frm} (hfs:m.fs=f::l) (hf:gA P 1 f) (hl:∀ g∈l,gA P 1 g) (h6:l.length+1<=6):gw P (m.made r)/\∀ k,Low k m.fs->Low (k+1) (m.made r).fs:=by
 unfold bI.made;split
 ·exact vF (vA _) h1 hval hfs hf.t hl h6
 ·rw [hfs];refine ⟨⟨⟨fun f2 r2 h2=>?_,by simpa [tv] using h6⟩,fun _=>by simp [tv],hval,.inl h1⟩,fun k hk g hg=>?_⟩
  ·simp only [tv] at h2;cases h2;exact ⟨vU hv hf,hl⟩
  ·simp only [tv] at hg;rcases aQ.1 hg with rfl | hg
   ·have:=hk f (by simp);simp only [aH,aU];omega
   ·have:=hk g (aM _ hg);omega
structure xt (P:List Fc) (f:Frm) (fc:Fc) (sl:Nat) (H:Hs) (i:Ins):Prop where
 get:P[f.fn]?=some fc
 ok:DF P fc sl H
 ins:fc.code[f.pc]?=some i
 aL:f.aL.length=sl
 at':H f.pc=(f.stack.length,f.tries.length)
 tries:∀ (k:Nat) t,f.tries[k]?=some t->t.2=0/\t.1 < fc.code.length/\H t.1=(1,k)
 sK:fM (KOk P) sl H 0 (fc.code.length - 1) f.pc i
 next:f.pc+1 < fc.code.length\/i.op=12
 vs:∀ v∈f.aL,v.ok
 vt:∀ v∈f.stack,v.ok
theorem gA.here {f:Frm} (h:gA P 0 f):∃ fc sl H i,xt P f fc sl H i:=by
 obtain ⟨⟨fc,sl,H,a1,a2,a3,a4,a5,a6⟩,b1,b2⟩:=h;have hi:=aa a3;obtain ⟨c1,c2⟩:=a2.sK.ins f.pc _ hi;exact ⟨fc,sl,H,_,a1,a2,hi,a4,a5,a6,c1,c2,b1,b2⟩
section
variable {P:List Fc} {f:Frm} {fc:Fc} {sl:Nat} {H:Hs} {i:Ins} (h:xt P f fc sl H i)
include h
theorem xt.pJ:Loc.pJ P f=some i:=by unfold Loc.pJ;rw [h.get,bQ,h.ins]
theorem xt.frm {g:Frm} (h1:g.fn=f.fn) (h2:g.pc < fc.code.length) (h3:g.aL.length=sl) (h4:H g.pc=(g.stack.length+up,g.tries.length)) (h5:∀ (k:Nat) t,g.tries[k]?=some t->t.2=0/\t.1 < fc.code.length/\H t.1=(1,k)) (h6:∀ v∈g.aL,v.ok) (h7:∀ v∈g.stack,v.ok):gA P up g :=
 ⟨⟨fc,sl,H,by rw [h1];exact h.get,h.ok,h2,h3,h4,h5⟩,h6,h7⟩
theorem xt.high {a b:Nat} (e:H f.pc=(a,b)):f.stack.length=a/\f.tries.length=b:=by
 have:=h.at'.symm.trans e;simpa using this
theorem xt.lt (hn:n<=fc.code.length - 1):n < fc.code.length:=by have:=h.ok.sK.pos;omega
end
theorem jo (h:l.length=n+m):(l.drop (l.length - m)).length=m/\(l.take (l.length - m)).length=n:=by
 rw [bD,bh];omega
theorem gu (h:∀ v∈l,v.ok):(arg l k).ok:=by
 unfold arg;rw [bc];cases hq:l[k]? with
 | none=>exact ef
 | some v=>exact h v (aP hq)
theorem D0 (h:∀ u∈l,u.ok) (hv:v.ok):∀ u∈l.set k v,u.ok:=fun u hu=>by
 rcases List.mem_or_eq_of_mem_set hu with hu | rfl
 ·exact h u hu
 ·exact hv
theorem iP {m:bI} (h1:m.state=1) (hval:m.val.ok) {f g:Frm} {l:List Frm} (hg:gA P 0 g) (hl:∀ g∈l,gA P 1 g) (h6:l.length+1<=6) (hs:g.stack.length<=f.stack.length+1) (ht:g.tries.length<=f.tries.length+1) :
  gw P {m with fs:=g::l}/\∀ k,Low k (f::l)->Low (k+1) (g::l):=by
 refine ⟨⟨⟨fun f2 r2 h2=>by cases h2;exact ⟨hg,hl⟩,by simpa using h6⟩,fun _=>by simp,hval,.inl h1⟩,fun k hk q hq=>?_⟩;rcases aQ.1 hq with rfl | hq
 ·have:=hk f (by simp);omega
 ·have:=hk q (aM _ hq);omega
theorem C3 {f g:Frm} {l:List Frm} (hs:g.stack=(f.pop n).stack) (ht:g.tries=f.tries) (h:Low k (f::l)):Low k (g::l):=fun q hq=>by
 rcases aQ.1 hq with rfl | hq
 ·have:=h f (by simp);rw [hs,ht];simp only [Frm.pop,bh];omega
 ·exact h q (aM _ hq)
theorem qa (hP:mi P) {m:bI} (hm:gw P m) (h1:m.state=1):gw P (iG P m)/\(∀ k,Low k m.fs->Low (k+1) (iG P m).fs):=by
 cases hfs:m.fs with
 | nil=>exact absurd hfs (hm.run h1)
 | cons f l =>
  obtain ⟨hf,hl⟩:=hm.fs.top f l hfs;have h6:l.length+1<=6:=by have:=hm.fs.few;rw [hfs] at this;simpa using this
  obtain ⟨fc,sl,H,i,hh⟩:=hf.here;have e:iG P m=bE P i {f with pc:=f.pc+1} l {m with used:=min (m.used+1) 1000000}:=by
   unfold iG;rw [hfs];simp only;rw [hh.pJ]
  rw [e];have hval:=hm.val;generalize hm':({m with used:=min (m.used+1) 1000000}:bI)=m';have s1:m'.state=1:=by rw [<- hm'];exact h1
  have v1:m'.val.ok:=by rw [<- hm'];exact hval
  have hvt:=hh.vt;have hvs:=hh.vs;have htr:=hh.tries;have hsl:=hh.aL;have tok:∀ (n:Nat) v,v∈f.stack.drop (f.stack.length - n)->v.ok:=fun n v hv=>hvt v (br hv)
  have pok:∀ (n:Nat) v,v∈f.stack.take (f.stack.length - n)->v.ok:=fun n v hv=>hvt v (cw hv)
  have hfl:=hh.sK;have hnx:=hh.next;have lowp:∀ (n:Nat) k,Low k (f::l)->Low k (({f with pc:=f.pc+1}:Frm).pop n::l):=fun n k h=>C3 (f:=f) (n:=n) rfl rfl h
  have made:∀ (n:Nat) (r:Val×Int) (m2:bI),r.1.ok->m2=m'->gA P 1 (({f with pc:=f.pc+1}:Frm).pop n)->gw P (({m2 with fs:=({f with pc:=f.pc+1}:Frm).pop n::l}:bI).made r)/\∀ k,Low k (f::l)->Low (k+1) (({m2 with fs:=({f with pc:=f.pc+1}:Frm).pop n::l}:bI).made r).fs:=by
   intro n r m2 hr e2 hg;subst e2;obtain ⟨q1,q2⟩:=C2 (m:={m2 with fs:=({f with pc:=f.pc+1}:Frm).pop n::l}) hr s1 v1 rfl hg hl h6;exact ⟨q1,fun k hk=>q2 k (lowp n k hk)⟩
  have thrown:∀ (n:Nat) (v:Val) (m2:bI),v.ok->m2=m'->gw P (({m2 with fs:=({f with pc:=f.pc+1}:Frm).pop n::l}:bI).throw v)/\∀ k,Low k (f::l)->Low (k+1) (({m2 with fs:=({f with pc:=f.pc+1}:Frm).pop n::l}:bI).throw v).fs:=by
   intro n v m2 hv e2;subst e2;obtain ⟨q1,q2⟩:=vF (m:={m2 with fs:=({f with pc:=f.pc+1}:Frm).pop n::l}) hv s1 v1 rfl (hf.t.mk' rfl rfl rfl) hl h6;exact ⟨q1,fun k hk=>q2 k (lowp n k hk)⟩
  cases hfl with
  | push v h t a b c =>
   have hn:=hnx.resolve_right (by simp [fN]);obtain ⟨x1,x2⟩:=hh.high b;have ee:bE P (fN v) {f with pc:=f.pc+1} l m'=({m' with fs:=({f with pc:=f.pc+1}:Frm).pop 0::l}:bI).made (v,0):=rfl;rw [ee];exact made 0 (v,0) m' a rfl (hh.frm rfl hn hsl (by simp only [Frm.pop];rw [c];simp [x1,x2]) htr hvs (by simpa [Frm.pop] using hvt))
  | load a h t hsl' b c =>
   have hn:=hnx.resolve_right (by simp [iOp]);obtain ⟨x1,x2⟩:=hh.high b;have ee:bE P (iOp 2 a 0 []) {f with pc:=f.pc+1} l m'=({m' with fs:=({f with pc:=f.pc+1}:Frm).pop 0::l}:bI).made (arg f.aL a,0):=by
    simp [bE,iOp,dB,Frm.pop]
   rw [ee];exact made 0 _ m' (gu hvs) rfl (hh.frm rfl hn hsl (by simp only [Frm.pop];rw [c];simp [x1,x2]) htr hvs (by simpa [Frm.pop] using hvt))
  | store a h t hsl' b c =>
   have hn:=hnx.resolve_right (by simp [iOp]);obtain ⟨x1,x2⟩:=hh.high b;obtain ⟨y1,y2⟩:=jo (l:=f.stack) (n:=h) (m:=1) x1;have ee:bE P (iOp 3 a 0 []) {f with pc:=f.pc+1} l m'={m' with fs:={({f with pc:=f.pc+1}:Frm).pop 1 with aL:=f.aL.set a (arg (f.stack.drop (f.stack.length - 1)) 0)}::l}:=by
    simp [bE,iOp,dB,Frm.pop,Frm.top]
   rw [ee];refine iP s1 v1 (hh.frm rfl hn (by simpa using hsl) ?_ htr (D0 hvs (gu (tok 1))) (by simpa [Frm.pop] using pok 1)) hl h6 ?_ ?_
   ·simp only [Frm.pop];(rw [c,y2,x2]<;>rfl)
   ·simp only [Frm.pop,bh];omega
   ·simp [Frm.pop]
  | un x h t b c =>
   have hn:=hnx.resolve_right (by simp [iOp]);obtain ⟨x1,x2⟩:=hh.high b;obtain ⟨y1,y2⟩:=jo (l:=f.stack) (n:=h) (m:=1) x1;have ee:bE P (iOp 4 0 0 x) {f with pc:=f.pc+1} l m'=({m' with fs:=({f with pc:=f.pc+1}:Frm).pop 1::l}:bI).made (vUn x (arg (f.stack.drop (f.stack.length - 1)) 0)):=by
    simp [bE,iOp,dB,Frm.pop,Frm.top]
   rw [ee];exact made 1 _ m' (DU _ _) rfl (hh.frm rfl hn hsl (by simp only [Frm.pop];(rw [c,y2,x2]<;>rfl)) htr hvs (by simpa [Frm.pop] using pok 1))
  | bin x h t b c =>
   have hn:=hnx.resolve_right (by simp [iOp]);obtain ⟨x1,x2⟩:=hh.high b;obtain ⟨y1,y2⟩:=jo (l:=f.stack) (n:=h) (m:=2) x1;have ee:bE P (iOp 5 0 0 x) {f with pc:=f.pc+1} l m'=({m' with fs:=({f with pc:=f.pc+1}:Frm).pop 2::l}:bI).made (mI x (arg (f.stack.drop (f.stack.length - 2)) 0) (arg (f.stack.drop (f.stack.length - 2)) 1)):=by
    simp [bE,iOp,dB,Frm.pop,Frm.top]
   rw [ee];exact made 2 _ m' (Cl _ _ _) rfl (hh.frm rfl hn hsl (by simp only [Frm.pop];(rw [c,y2,x2]<;>rfl)) htr hvs (by simpa [Frm.pop] using pok 2))
  | jump n h t lo hi b c =>
   obtain ⟨x1,x2⟩:=hh.high b;have ee:bE P (iOp 6 n 0 []) {f with pc:=f.pc+1} l m'={m' with fs:={f with pc:=n}::l}:=by
    simp [bE,iOp,dB,Frm.pop]
   rw [ee];exact iP s1 v1 (hh.frm rfl (hh.lt hi) hsl (by simp only;(rw [c,x1,x2]<;>rfl)) htr hvs hvt) hl h6 (by simp only;omega) (by simp only;omega)
  | wT n h t lo hi b c d =>
   have hn:=hnx.resolve_right (by simp [iOp]);obtain ⟨x1,x2⟩:=hh.high b;obtain ⟨y1,y2⟩:=jo (l:=f.stack) (n:=h) (m:=1) x1;have ee:bE P (iOp 7 n 0 []) {f with pc:=f.pc+1} l m'={m' with fs:=(if (arg (f.stack.drop (f.stack.length - 1)) 0).ig=true then ({f with pc:=f.pc+1}:Frm).pop 1 else {({f with pc:=f.pc+1}:Frm).pop 1 with pc:=n})::l}:=by
    simp [bE,iOp,dB,Frm.pop,Frm.top]
   rw [ee];split
   ·exact iP s1 v1 (hh.frm rfl hn hsl (by simp only [Frm.pop];(rw [d,y2,x2]<;>rfl)) htr hvs (by simpa [Frm.pop] using pok 1)) hl h6 (by simp only [Frm.pop,bh];omega) (by simp [Frm.pop])
   ·exact iP s1 v1 (hh.frm rfl (hh.lt hi) hsl (by simp only [Frm.pop];(rw [c,y2,x2]<;>rfl)) htr hvs (by simpa [Frm.pop] using pok 1)) hl h6 (by simp only [Frm.pop,bh];omega) (by simp [Frm.pop])
  | both k n h t hk lo hi b c d =>
   have hn:=hnx.resolve_right (by simp only [iOp];omega);obtain ⟨x1,x2⟩:=hh.high b;obtain ⟨y1,y2⟩:=jo (l:=f.stack) (n:=h) (m:=1) x1;have ee:bE P (iOp k n 0 []) {f with pc:=f.pc+1} l m'={m' with fs:=(if (arg (f.stack.drop (f.stack.length - 1)) 0).ig=decide (k=9) then {({f with pc:=f.pc+1}:Frm).pop 1 with stack:=(({f with pc:=f.pc+1}:Frm).pop 1).stack++[arg (f.stack.drop (f.stack.length - 1)) 0],pc:=n} else ({f with pc:=f.pc+1}:Frm).pop 1)::l}:=by
    rcases hk with rfl | rfl<;>simp [bE,iOp,dB,Frm.pop,Frm.top]
   rw [ee];split
   ·refine iP s1 v1 (hh.frm rfl (hh.lt hi) hsl ?_ htr hvs (fun v hv=>?_)) hl h6 (by simp only [Frm.pop,aH,bh,aU];omega) (by simp [Frm.pop])
    ·simp only [Frm.pop,aH,aU];(rw [c,y2,x2]<;>rfl)
    ·simp only [Frm.pop] at hv;rcases bL.1 hv with hv | hv
     ·exact pok 1 v hv
     ·rw [bA.1 hv];exact gu (tok 1)
   ·exact iP s1 v1 (hh.frm rfl hn hsl (by simp only [Frm.pop];(rw [d,y2,x2]<;>rfl)) htr hvs (by simpa [Frm.pop] using pok 1)) hl h6 (by simp only [Frm.pop,bh];omega) (by simp [Frm.pop])
  | call j nk h t a b c =>
   have hn:=hnx.resolve_right (by simp [iOp]);obtain ⟨x1,x2⟩:=hh.high b;obtain ⟨y1,y2⟩:=jo (l:=f.stack) (n:=h) (m:=nk) x1;have ee:bE P (iOp 10 j nk []) {f with pc:=f.pc+1} l m'=if l.length+1=6 then ({m' with fs:=({f with pc:=f.pc+1}:Frm).pop nk::l}:bI).throw (j0 9) else {m' with fs:=cC (slotsOf P j.toNat) j.toNat (f.stack.drop (f.stack.length - nk))::({f with pc:=f.pc+1}:Frm).pop nk::l}:=by
    simp [bE,iOp,Frm.pop,Frm.top]
   rw [ee];split
   ·exact thrown nk _ m' (vA _) rfl
   ·rename_i h66;obtain ⟨fc',k0,k1,k2⟩:=a;obtain ⟨sl',H',hfc⟩:=hP.fns fc' (aP k1);have hs':slotsOf P j.toNat=sl':=by unfold slotsOf;rw [k1];simp only;rw [hfc.aL];simp
    have hle:nk<=sl':=by have:=hfc.aL;omega
    have hnew:gA P 0 (cC (slotsOf P j.toNat) j.toNat (f.stack.drop (f.stack.length - nk))):=by
     refine ⟨⟨fc',sl',H',k1,hfc,hfc.sK.pos,?_,?_,fun k t ht=>by simp [cC] at ht⟩,fun v hv=>?_,by simp [cC]⟩
     ·simp only [cC,aH,List.length_replicate];rw [y1,hs'];omega
     ·simp only [cC];rw [hfc.sK.zero];rfl
     ·simp only [cC] at hv;rcases bL.1 hv with hv | hv
      ·exact tok nk v hv
      ·rw [List.eq_of_mem_replicate hv];exact ef
    have hold:gA P 1 (({f with pc:=f.pc+1}:Frm).pop nk):=hh.frm rfl hn hsl (by simp only [Frm.pop];(rw [c,y2,x2]<;>rfl)) htr hvs (by simpa [Frm.pop] using pok nk);refine ⟨⟨⟨fun f2 r2 h2=>?_,by simp;omega⟩,fun _=>by simp,v1,.inl s1⟩,fun k hk q hq=>?_⟩
    ·simp only at h2;cases h2;refine ⟨hnew,fun g hg=>?_⟩;rcases aQ.1 hg with rfl | hg
     ·exact hold
     ·exact hl g hg
    ·simp only at hq;rcases aQ.1 hq with rfl | hq
     ·simp [cC]
     ·have:=lowp nk k hk q hq;omega
  | bi x ks nk h t a z b c =>
   have hn:=hnx.resolve_right (by simp [iOp]);obtain ⟨x1,x2⟩:=hh.high b;obtain ⟨y1,y2⟩:=jo (l:=f.stack) (n:=h) (m:=nk) x1;have ee:bE P (iOp 11 nk 0 x) {f with pc:=f.pc+1} l m'=({m' with fs:=({f with pc:=f.pc+1}:Frm).pop nk::l}:bI).made (vBi x (f.stack.drop (f.stack.length - nk))):=by
    simp [bE,iOp,dB,Frm.pop,Frm.top]
   rw [ee];exact made nk _ m' (DV _ _ (tok nk)) rfl (hh.frm rfl hn hsl (by simp only [Frm.pop];(rw [c,y2,x2]<;>rfl)) htr hvs (by simpa [Frm.pop] using pok nk))
  | ret h t b =>
   obtain ⟨x1,x2⟩:=hh.high b;have ee:bE P (iOp 12 0 0 []) {f with pc:=f.pc+1} l m'=({m' with fs:=({f with pc:=f.pc+1}:Frm).pop 1::l}:bI).sD (arg (f.stack.drop (f.stack.length - 1)) 0):=by
    simp [bE,iOp,dB,Frm.pop,Frm.top]
   rw [ee];unfold bI.sD;simp only [List.tail_cons];cases l with
   | nil=>exact ⟨⟨⟨(fun f r h=>nomatch h),by simp⟩,(fun h=>by simp at h),gu (tok 1),.inr ⟨.inl rfl,rfl⟩⟩,fun k _ g hg=>nomatch hg⟩
   | cons g r =>
    simp only [ab (show ¬ (g::r=[]) by simp),reduceCtorEq,aV];obtain ⟨q1,q2⟩:=iP (m:=m') (f:=g) (l:=r) s1 v1 (vU (gu (l:=f.stack.drop (f.stack.length - 1)) (k:=0) (tok 1)) (hl g (by simp))) (fun q hq=>hl q (aM _ hq)) (by simp at h6;omega) (by simp) (by simp);exact ⟨q1,fun k hk=>q2 k fun q hq=>hk q (aM _ hq)⟩
  | thr h t b =>
   have ee:bE P (iOp 13 0 0 []) {f with pc:=f.pc+1} l m'=({m' with fs:=({f with pc:=f.pc+1}:Frm).pop 1::l}:bI).throw (arg (f.stack.drop (f.stack.length - 1)) 0):=by
    simp [bE,iOp,dB,Frm.pop,Frm.top]
   rw [ee];exact thrown 1 _ m' (gu (tok 1)) rfl
  | tr n t lo hi b c d =>
   have hn:=hnx.resolve_right (by simp [iOp]);obtain ⟨x1,x2⟩:=hh.high b;have ee:bE P (iOp 14 n 0 []) {f with pc:=f.pc+1} l m'={m' with fs:={f with pc:=f.pc+1,tries:=f.tries++[(n,f.stack.length)]}::l}:=by
    simp [bE,iOp,dB,Frm.pop]
   rw [ee];refine iP s1 v1 (hh.frm rfl hn hsl ?_ (fun k t' ht=>?_) hvs hvt) hl h6 (by simp) (by simp)
   ·simp only [aH,aU];(rw [c,x1,x2]<;>rfl)
   ·simp only at ht;rw [List.getElem?_append] at ht;split at ht
    ·exact htr k t' ht
    ·have hk:k=f.tries.length:=by
      have:=(af.1 ht).1;simp at this;omega
     subst hk;simp only [Nat.sub_self,az,aw] at ht;subst ht;exact ⟨x1,hh.lt hi,by rw [d,x2]⟩
  | don h t b c =>
   have hn:=hnx.resolve_right (by simp [iOp]);obtain ⟨x1,x2⟩:=hh.high b;have ee:bE P (iOp 15 0 0 []) {f with pc:=f.pc+1} l m'={m' with fs:={f with pc:=f.pc+1,tries:=f.tries.dropLast}::l}:=by
    simp [bE,iOp,dB,Frm.pop]
   rw [ee];refine iP s1 v1 (hh.frm rfl hn hsl ?_ (fun k t' ht=>?_) hvs hvt) hl h6 (by simp) (by simp;omega)
   ·simp only [List.length_dropLast];rw [c,x1,x2];rfl
   ·simp only at ht;rw [List.getElem?_dropLast] at ht;split at ht
    ·exact htr k t' ht
    ·cases ht
  | pop h t b c =>
   have hn:=hnx.resolve_right (by simp [iOp]);obtain ⟨x1,x2⟩:=hh.high b;obtain ⟨y1,y2⟩:=jo (l:=f.stack) (n:=h) (m:=1) x1;have ee:bE P (iOp 16 0 0 []) {f with pc:=f.pc+1} l m'={m' with fs:=({f with pc:=f.pc+1}:Frm).pop 1::l}:=by
    simp [bE,iOp,dB,Frm.pop,Frm.top]
   rw [ee];exact iP s1 v1 (hh.frm rfl hn hsl (by simp only [Frm.pop];(rw [c,y2,x2]<;>rfl)) htr hvs (by simpa [Frm.pop] using pok 1)) hl h6 (by simp only [Frm.pop,bh];omega) (by simp [Frm.pop])
def tryD (t:Nat×Nat):List D:=[.int .i64 t.1,.int .i64 t.2]
def Frm.enc (f:Frm):List D:=[.int .i64 f.fn,.int .i64 f.pc,.own false 3 (f.aL.map Val.enc),.own false 3 (f.stack.map Val.enc),.own false 2 (f.tries.map tryD)]
structure pq (C:Ctx):Prop where
 clone:∀ (rows:List (List D)) (off n:Nat),off+n<=rows.length->n<=1073741824->Fn C 215 [.arr 0 off n] [.da 3 rows] (.d (.imm 3 ((rows.drop off).take n))) [some (.da 3 rows)]
def a7 (l:List Frm):List (List D):=l.reverse.map Frm.enc
theorem bu (l:List Frm):(a7 l).length=l.length:=by simp [a7]
theorem ia (f:Frm) (l:List Frm):a7 (f::l)=a7 l++[f.enc]:=by simp [a7]
theorem aE (f:Frm) (l:List Frm):(a7 (f::l))[l.length]?=some f.enc:=by
 rw [ia,cx (by rw [bu];omega),bu];simp
theorem fG (f g:Frm) (l:List Frm):(a7 (f::l)).set l.length g.enc=a7 (g::l):=by
 rw [ia,ia,List.set_append_right _ _ (by rw [bu];omega),bu];simp
theorem j5 (f:Frm) (l:List Frm):(a7 (f::l)).take l.length=a7 l:=by
 rw [ia,List.take_append_of_le_length (by rw [bu];omega),ae (by rw [bu];omega)]
def bI.enc (m:bI):O:= .st [.own true 5 (a7 m.fs),.d (.int .i64 m.state),.d (.int .i64 m.val.kind),.d (.int .i64 m.val.n),.d (.str m.val.t),.d (.int .i64 m.used)]
def bI.wV (n:Nat) (m:bI):O:= .st [.arr 1 0 n,.d (.int .i64 m.state),.d (.int .i64 m.val.kind),.d (.int .i64 m.val.n),.d (.str m.val.t),.d (.int .i64 m.used)]
def ky (P:List Fc):O:= .st [.d (.imm 4 (P.map Fc.enc))]
theorem eo (h0:0 < n) (h:n < 4611686018427387904):IntKind.i64.wrap ((n:Int) - 1)=((n - 1:Nat):Int):=by
 rw [wrap_i64 (by omega)];omega
theorem qx (h0:m<=n) (h:n < 4611686018427387904):IntKind.i64.wrap ((n:Int) - (m:Int))=((n - m:Nat):Int):=by
 rw [wrap_i64 (by omega)];omega
section
variable {C:Ctx} (hP:C.P=Tryz.prog)
include hP
theorem Bq (m:bI) (rows:List (List D)) (n:Nat) (h0:0 < n) (hl:n<=1073741824):Fn C 148 [.ptr 0 0 0] [m.wV n,.oa 5 rows] (.ptr 1 (n - 1) 0) [some (m.wV n),some (.oa 5 rows)]:=by
 refine eN hP c148 ⟨?_⟩;rw [eo h0 (by omega)];refine gN ?_ ⟨?_⟩
 ·omega
 repeat' (refine ah.dR ?_ ?_;first | exact trivial | exact And.intro rfl trivial | exact And.intro rfl (And.intro rfl trivial))
 try refine gG ⟨?_⟩
 refine ah.aD (os':=[some (m.wV n),some (.oa 5 rows)]) [0,1] trivial rfl rfl ⟨rfl,rfl,trivial⟩ ?_;(conv=>whnf);rw [show 0+((n - 1:Nat):Int).toNat=n - 1 by omega];exact ⟨rfl,rfl⟩
theorem mK (hS7:pq C) (f:Frm) (l:List Frm) (n:Nat) (hn:n<=f.stack.length) (hl:f.stack.length<=1073741824):Fn C 151 [.ptr 0 l.length 0,.d (.int .i64 n)] [.oa 5 (a7 (f::l))] (.d (lx (f.top n))) [some (.oa 5 (a7 (f.pop n::l)))]:=by
 have c215:=hS7.clone (f.stack.map Val.enc) (f.stack.length - n) n (by simp;omega) (by omega);refine eN hP eM ⟨gD (aE f l) ⟨?_⟩⟩;rw [aJ,qx hn (by omega)];refine ah.dR ?_ ?_
 ·exact ⟨by omega,by omega⟩
 rw [show 0+bH (some ((f.stack.length - n:Nat):Int))=f.stack.length - n by simp [bH],show ct f.stack.length (some ((f.stack.length - n:Nat):Int)) none=n by simp only [ct,eA,bH];omega];refine gG ⟨gC [2] c215 ⟨?_⟩⟩;refine ah.dR ?_ ?_
 ·exact ⟨by omega,by omega⟩
 rw [show 0+bH none=0 from rfl,show ct f.stack.length none (some ((f.stack.length - n:Nat):Int))=f.stack.length - n by simp only [ct,eA,bH];omega];refine gG ⟨gD (aE f l) ⟨lW ⟨⟨?_,trivial⟩,?_⟩⟩⟩
 ·(conv=>lhs;whnf);rw [<- fG f (f.pop n) l];simp only [Frm.enc,Frm.pop,List.map_take,aq]
 ·rw [lx,Frm.top,List.map_drop,ae (by simp;omega)]
theorem FL (m:bI) (st:Int) (v:Val):Fn C 221 [.ptr 0 0 0,.d (.int .i64 st),v.v] [m.enc] (.tup []) [some ({fs:=[],state:=st,val:=v,used:=m.used}:bI).enc]:=by
 refine eN hP IB ⟨?_⟩;repeat' (first | refine gN (by simp [ew]) ⟨?_⟩ | fail)
 exact lW ⟨⟨rfl,trivial⟩,rfl⟩
omit hP in
theorem cB {f g:Frm} {l:List Frm} {row:List D} (hn:n=l.length+1) (hr:row=g.enc):List.take n (List.drop 0 ((a7 (f::l)).set l.length row))=a7 (g::l):=by
 rw [hr,fG,aq,hn,ae (by rw [bu];simp)]
omit hP in
theorem dw {f:Frm} {a b:Int} {A B T:List (List D)} (h1:a=f.fn) (h2:b=f.pc) (hA:A=f.aL.map Val.enc) (hB:B=f.stack.map Val.enc) (hT:T=f.tries.map tryD):[D.int .i64 a,.int .i64 b,.own false 3 A,.own false 3 B,.own false 2 T]=f.enc:=by
 rw [h1,h2,hA,hB,hT];rfl
omit hP in
theorem kH {enc:α->List D} {l:List α}:List.take n (List.drop 0 (l.map enc))=(l.take n).map enc:=by
 rw [aq,List.map_take]
omit hP in
theorem je {enc:α->List D} {l:List α} (hn:n=l.length):List.take n (List.drop 0 (l.map enc))=l.map enc:=by
 rw [aq,hn,ae (by simp)]
omit hP in
theorem jG {enc:α->List D} {l:List α} {v:α} {vr:List D} (hm:m=n+1) (hn:n<=l.length) (hv:vr=enc v):List.take m (List.drop 0 (List.take n (List.drop 0 (l.map enc))++[vr]))=(l.take n++[v]).map enc:=by
 rw [aq,aq,hm,hv,ae (by simp;omega)];simp [List.map_take]
def Fits (l:List Frm):Prop:=l.length<=6/\∀ f∈l,f.stack.length<=1000000/\f.tries.length<=1000000/\∀ t∈f.tries,t.2=0
theorem Ey (m:bI) (v:Val) (hf:Fits m.fs):Fn C 158 [.ptr 0 0 0,v.v] [m.enc] (.tup []) [some (m.throw v).enc]:=by
 obtain ⟨fs0,st,vl,us⟩:=m;refine eN hP yg ⟨gW (fun l:List Frm=>l.length) (fun l=>Fits l/\iI v l=iI v fs0) (fun l=>[(0,.ptr 0 0 0),(3,.ptr 1 0 0)]) (fun l=>[(0,(⟨l,st,vl,us⟩:bI).enc),(1,.st (v.enc.map .d))]) 2 ?_ fs0 ⟨hf,rfl⟩⟩;refine fun fs ⟨⟨h6,hfs⟩,hR⟩ ih=>⟨?_⟩
 cases fs with
 | nil =>
  refine gX ⟨gC [0] (FL hP ⟨[],st,vl,us⟩ 3 v) ⟨lW ⟨⟨?_,trivial⟩,rfl⟩⟩⟩;(conv=>lhs;whnf);unfold bI.throw;rw [<- hR];rfl
 | cons f l =>
  obtain ⟨hs1,hs2,hs3⟩:=hfs f (by simp);have c148:=Bq hP ⟨f::l,st,vl,us⟩ (a7 (f::l)) (l.length+1) (by omega) (by simp at h6;omega);rw [bu];refine gY ⟨?_⟩ (by simp);rw [show l.length+1 - 1=l.length from rfl] at c148;refine gC [0,2] c148 ⟨gD (aE f l) ⟨?_⟩⟩;rw [aJ,aJ];rcases List.eq_nil_or_concat f.tries with ht | ⟨ts,t,ht⟩
  ·rw [show f.tries.length=0 by rw [ht];rfl];refine gX ⟨gD (aE f l) ⟨?_⟩⟩;rw [eo (n:=l.length+1) (by omega) (by simp at h6;omega)];refine gN ?_ ⟨?_⟩
   ·exact ⟨by omega,by omega⟩
   repeat' (first | refine gN (by simp [ew]) ⟨?_⟩ | fail)
   have hrow:List.take (ct (l.length+1) none (some ((l.length+1 - 1:Nat):Int))) (List.drop (0+bH none) ((a7 (f::l)).set l.length [.int .i64 f.fn,.int .i64 f.pc,.own false 3 (f.aL.map Val.enc),.own false 3 (List.take f.stack.length (List.drop 0 (f.stack.map Val.enc))),.own false 2 (List.take 0 (List.drop 0 (f.tries.map tryD)))]))=a7 l:=by
    rw [show [D.int .i64 f.fn,.int .i64 f.pc,.own false 3 (f.aL.map Val.enc),.own false 3 (List.take f.stack.length (List.drop 0 (f.stack.map Val.enc))),.own false 2 (List.take 0 (List.drop 0 (f.tries.map tryD)))]=f.enc by
     rw [Frm.enc,aq,ae (by simp),ht];rfl]
    rw [fG,show ct (l.length+1) none (some ((l.length+1 - 1:Nat):Int))=l.length by simp only [ct,eA,bH];omega];exact j5 f l
   refine (ih l ⟨⟨by simp at h6;omega,fun g hg=>hfs g (aM _ hg)⟩,?_⟩ (by simp)).to rfl (congrArg (fun R=>[(0,O.st [V.own true 5 R,.d (.int .i64 st),.d (.int .i64 vl.kind),.d (.int .i64 vl.n),.d (.str vl.t),.d (.int .i64 us)]),(1,O.st (v.enc.map .d))]) hrow);rw [<- hR,iI,ht];rfl
  ·have htl:f.tries.length=ts.length+1:=by rw [ht];simp
   rw [htl,eo (by omega) (by omega)];refine gY ⟨?_⟩ (by simp);have ht2:t.2<=f.stack.length:=by have:=hs3 t (by rw [ht];simp);omega
   have hrt:(f.tries.map tryD)[0+(((ts.length+1 - 1:Nat):Int)).toNat]?=some (tryD t):=by rw [ht];simp
   refine gN ?_ ⟨?_⟩
   ·omega
   refine gD hrt ⟨gN ?_ ⟨?_⟩⟩
   ·exact ⟨by omega,by omega⟩
   refine gN ?_ ⟨?_⟩
   ·exact ⟨by omega,by omega⟩
   have hsub:ct f.stack.length none (some (t.2:Int))=t.2:=by simp only [ct,eA,bH];omega
   refine gN ?_ ⟨?_⟩
   ·rw [hsub];simp only [Sh.len,aU];omega
   repeat' (first | refine gN (by simp [ew]) ⟨?_⟩ | fail)
   refine gD (aE f l) ⟨?_⟩;have hres:bI.throw v ⟨fs0,st,vl,us⟩=⟨{f with tries:=ts,stack:=f.stack.take t.2++[v],pc:=t.1}::l,st,vl,us⟩:=by
    unfold bI.throw;simp only;rw [<- hR,iI,ht];simp
   refine lW ⟨⟨?_,trivial⟩,rfl⟩;rw [hres];(conv=>lhs;whnf);refine congrArg (fun R=>some (O.st [V.own true 5 R,.d (.int .i64 st),.d (.int .i64 vl.kind),.d (.int .i64 vl.n),.d (.str vl.t),.d (.int .i64 us)])) (cB rfl ?_);rw [hsub];refine dw rfl rfl rfl (jG rfl ht2 rfl) ?_;rw [show ct (ts.length+1) none (some ((ts.length+1 - 1:Nat):Int))=ts.length by simp only [ct,eA,bH];omega];refine kH.trans ?_;rw [ht];simp
omit hP in
theorem Fits.cons {f:Frm} {l:List Frm} (h:Fits (f::l)):l.length+1<=6/\f.stack.length<=1000000/\f.tries.length<=1000000:=by
 obtain ⟨h1,h2⟩:=h;have:=h2 f (by simp);exact ⟨by simpa using h1,this.1,this.2.1⟩
theorem Bo (m:bI) (v:Val) (code:Int) (hf:Fits m.fs) (h0:m.fs≠[]):Fn C 152 [.ptr 0 0 0,v.v,.d (.int .i64 code)] [m.enc] (.tup []) [some (m.made (v,code)).enc]:=by
 have c58:=k58 hP code;have c99:=k99 hP (eC code);have yg:=Ey hP m (j0 code) hf;obtain ⟨fs,st,vl,us⟩:=m;by_cases hc:code=0
 ·subst hc;cases fs with
  | nil=>exact absurd rfl h0
  | cons f l =>
   obtain ⟨h6,hs1,hs2⟩:=hf.cons;have c148:=Bq hP ⟨f::l,st,vl,us⟩ (a7 (f::l)) (l.length+1) (by omega) (by omega);rw [show l.length+1 - 1=l.length from rfl] at c148;refine eN hP c152 ⟨gX ⟨?_⟩⟩;rw [bu];refine gC [0,2] c148 ⟨gD (aE f l) ⟨?_⟩⟩;rw [aJ];refine gN ?_ ⟨?_⟩
   ·simp only [Sh.len,aU];omega
   repeat' (first | refine gN (by simp [ew]) ⟨?_⟩ | fail)
   refine gD (aE f l) ⟨lW ⟨⟨?_,trivial⟩,rfl⟩⟩;rw [show bI.made (v,0) ⟨f::l,st,vl,us⟩=⟨{f with stack:=f.stack++[v]}::l,st,vl,us⟩ from rfl];(conv=>lhs;whnf);refine congrArg (fun R=>some (O.st [V.own true 5 R,.d (.int .i64 st),.d (.int .i64 vl.kind),.d (.int .i64 vl.n),.d (.str vl.t),.d (.int .i64 us)])) (cB rfl ?_);refine dw rfl rfl rfl ((jG rfl (al _) rfl).trans ?_) rfl;rw [b8]
 ·have hm:bI.made (v,code) ⟨fs,st,vl,us⟩=bI.throw (j0 code) ⟨fs,st,vl,us⟩:=by unfold bI.made;rw [aj hc]
  rw [hm];exact eN hP c152 ⟨gY ⟨gO c58 ⟨gO c99 ⟨gC [0] yg ⟨lW ⟨⟨rfl,trivial⟩,rfl⟩⟩⟩⟩⟩ (by simpa using hc)⟩
theorem HL (m:bI) (v:Val) (hf:Fits m.fs) (h0:m.fs≠[]):Fn C 157 [.ptr 0 0 0,v.v] [m.enc] (.tup []) [some (m.sD v).enc]:=by
 obtain ⟨fs,st,vl,us⟩:=m;cases fs with
 | nil=>exact absurd rfl h0
 | cons f l =>
  obtain ⟨h6,_,_⟩:=hf.cons;refine eN hP c157 ⟨?_⟩;rw [bu,eo (n:=(f::l).length) (by simp) (by simp only [aT];omega)];refine gN ?_ ⟨?_⟩
  ·exact ⟨by omega,by simp only [aT];omega⟩
  repeat' (first | refine gN (by simp [ew]) ⟨?_⟩ | fail)
  rw [show ct (f::l).length none (some (((f::l).length - 1:Nat):Int))=l.length by simp only [ct,eA,bH,aT];omega,show 0+bH none=0 from rfl,aq,j5,bu];cases l with
  | nil =>
   exact gY ⟨gC [0] (FL hP ⟨[],st,vl,us⟩ 2 v) ⟨lW ⟨⟨rfl,trivial⟩,rfl⟩⟩⟩
  | cons g r =>
   obtain ⟨hg1,hg2,_⟩:=hf.2 g (by simp);have c148:=Bq hP ⟨g::r,st,vl,us⟩ (a7 (g::r)) (r.length+1) (by omega) (by simp at h6;omega);rw [show r.length+1 - 1=r.length from rfl] at c148;refine gX ⟨gC [0,3] c148 ⟨gD (aE g r) ⟨?_⟩⟩⟩ (by simp;omega);rw [aJ];refine gN ?_ ⟨?_⟩
   ·simp only [Sh.len,aU];omega
   repeat' (first | refine gN (by simp [ew]) ⟨?_⟩ | fail)
   refine gD (aE g r) ⟨lW ⟨⟨?_,trivial⟩,rfl⟩⟩;rw [show bI.sD v ⟨f::g::r,st,vl,us⟩=⟨{g with stack:=g.stack++[v]}::r,st,vl,us⟩ from rfl];(conv=>lhs;whnf);refine congrArg (fun R=>some (O.st [V.own true 5 R,.d (.int .i64 st),.d (.int .i64 vl.kind),.d (.int .i64 vl.n),.d (.str vl.t),.d (.int .i64 us)])) (cB rfl ?_);refine dw rfl rfl rfl ((jG rfl (al _) rfl).trans ?_) rfl;rw [b8]
def Frm.o (f:Frm):O:= .st [.d (.int .i64 f.fn),.d (.int .i64 f.pc),.own false 3 (f.aL.map Val.enc),.own false 3 (f.stack.map Val.enc),.own false 2 (f.tries.map tryD)]
def l4 (i:Ins) (v:Val) (f:Frm):Frm:=if i.op=7 then (if v.ig=true then f else {f with pc:=i.a.toNat}) else if v.ig=decide (i.op=9) then {f with stack:=f.stack++[v],pc:=i.a.toNat} else f
theorem Ez (f:Frm) (i:Ins) (v:Val) (hl:f.stack.length<=1000000) (ha:0<=i.a):Fn C 156 [.ptr 0 0 0,i.v,v.v] [f.o] (.tup []) [some (l4 i v f).o]:=by
 have Dx:=FM hP v;obtain ⟨n,hn⟩:=Int.eq_ofNat_of_zero_le ha;unfold l4;refine eN hP c156 ⟨gP (fun h=>⟨?_⟩) fun h=>⟨?_⟩⟩
 ·rw [aj (ai h)];refine gO Dx ⟨?_⟩;generalize v.ig=b;cases b with
  | true =>
   exact gX ⟨lW ⟨⟨rfl,trivial⟩,rfl⟩⟩
  | false =>
   refine gY ⟨lW ⟨⟨?_,trivial⟩,rfl⟩⟩;(conv=>lhs;whnf);rw [hn];rfl
 ·rw [ab (ao h)];refine gO Dx ⟨?_⟩;generalize v.ig=b;by_cases hb:b=decide (i.op=9)
  ·rw [aj hb];refine gY ⟨?_⟩ (by rw [<- hb];cases b<;>rfl);rw [aJ];refine gN ?_ ⟨?_⟩
   ·simp only [Sh.len,aU];omega
   repeat' (first | refine gN (by simp [ew]) ⟨?_⟩ | fail)
   refine lW ⟨⟨?_,trivial⟩,rfl⟩;(conv=>lhs;whnf);rw [hn];refine congrArg (fun R=>some (O.st [V.d (.int .i64 f.fn),.d (.int .i64 n),.own false 3 (f.aL.map Val.enc),.own false 3 R,.own false 2 (f.tries.map tryD)])) ((jG rfl (al _) rfl).trans ?_);rw [b8]
  ·rw [ab hb];exact gX ⟨lW ⟨⟨rfl,trivial⟩,rfl⟩⟩ (by revert hb;generalize decide (i.op=9)=q;cases b<;>cases q<;>simp)
def A6 (i:Ins):Int:=if i.op=1\/i.op=2 then 0 else if i.op=3\/i.op=7\/i.op=8\/i.op=9\/i.op=12\/i.op=13\/i.op=16 then 1 else if i.op=4 then 1 else if i.op=5 then 2 else if i.op=10 then i.b else if i.op=11 then i.a else 0
theorem nj (i:Ins):FnE C 150 [i.v] [] (fun v os'=>∃ x:Int,v= .tup [.d (.int .i64 (A6 i)),.d (.int .i64 x)]/\os'=[]):=by
 unfold A6;refine eE hP gR ⟨?_⟩;repeat' (refine gP (fun h=>⟨?_⟩) fun h=>⟨?_⟩)
 all_goals
  simp only [ak,dC] at *
  repeat (first | rw [aj (by omega)] | rw [ab (by omega)])
  refine lE (os':=[]) ⟨trivial,?_⟩;(conv=>whnf);exact ⟨_,rfl,rfl⟩
theorem k98 (P:List Fc) (fc:Fc) (j sl:Nat) (args:List Val) (hj:P[j]?=some fc) (hs:fc.aL=sl) (hl:sl<=1000) (ha:args.length<=sl):Fn C 98 [.ptr 0 0 0,.d (.int .i64 j),.d (lx args)] [ky P] (.agg [.d (.int .i64 j),.d (.int .i64 0),.arr 1 0 sl,.d .nil,.d .nil]) [some (ky P),some (.da 3 ((cC sl j args).aL.map Val.enc))]:=by
 have hr:(P.map Fc.enc)[((j:Nat):Int).toNat]?=some fc.enc:=by simp [hj]
 refine eN hP c98 ⟨gD hr ⟨?_⟩⟩;rw [hs];refine gN ?_ ⟨?_⟩
 ·exact ⟨by omega,by omega⟩
 have hm:min ((sl:Nat):Int).toNat (args.map Val.enc).length=args.length:=by simp;omega
 refine ah.aD (os':=[some (ky P),some (.da 3 ((cC sl j args).aL.map Val.enc))]) [0,2,1] trivial rfl rfl ⟨rfl,?_,trivial⟩ ?_
 ·(conv=>lhs;whnf);rw [hm,List.take_zero,dG,aW,ae (by simp)];simp only [cC,fa,List.map_replicate,List.drop_replicate,bt];rfl
 ·(conv=>whnf);exact ⟨rfl,rfl⟩
end
end Go.Proofs.YtggoiofammbchaaGreatDoor.Loc
