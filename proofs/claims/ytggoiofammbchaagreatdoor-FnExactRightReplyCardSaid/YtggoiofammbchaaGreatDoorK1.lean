/- Part 1 of a chain that ends in the statement named in GOCLAIM.json; no condition. -/
import Derived.Orders
import Derived.Laws.IdiomCopy
import Derived.Laws.Append
import Derived.Deep.MidRow
import Derived.Below
import Derived.KernelRfl
set_option maxRecDepth 100000
set_option maxHeartbeats 2000000
set_option linter.all false
namespace Go.Proofs.YtggoiofammbchaaGreatDoor
open Go
open Go
abbrev aa:=@List.getElem?_eq_getElem
abbrev ab:=@if_neg
abbrev ae:=@List.take_of_length_le
abbrev af:=@List.getElem?_eq_some_iff
abbrev ag:=@Bool.and_eq_true
abbrev ai:=@of_decide_eq_true
abbrev aj:=@if_pos
abbrev ak:=@decide_eq_true_eq
abbrev al:=@Nat.le_refl
abbrev ao:=@of_decide_eq_false
abbrev aq:=@List.drop_zero
abbrev av:=@List.drop_eq_getElem_cons
abbrev aw:=@Option.some.injEq
abbrev ax:=@Sem.run_bind
abbrev ay:=@Option.map_eq_some_iff
abbrev az:=@List.getElem?_cons_zero
abbrev aF:=@Result.andThen_ok
abbrev aG:=@List.take_succ_eq_append_getElem
abbrev aH:=@List.length_append
abbrev aI:=@decide_eq_false
abbrev aJ:=@List.length_map
abbrev aM:=@List.mem_cons_of_mem
abbrev aN:=@Nat.eq_of_beq_eq_true
abbrev aP:=@List.mem_of_getElem?
abbrev aQ:=@List.mem_cons
abbrev aR:=@decide_eq_true
abbrev aS:=@Option.map_some
abbrev aT:=@List.length_cons
abbrev aU:=@List.length_singleton
abbrev aV:=@if_false
abbrev aW:=@Nat.zero_add
abbrev aZ:=@List.getElem_mem
abbrev bc:=@List.getD_eq_getElem?_getD
abbrev bf:=@List.getElem?_map
abbrev bh:=@List.length_take
abbrev bo:=@if_true
abbrev bq:=@Sem.run_pure
abbrev br:=@List.mem_of_mem_drop
abbrev bt:=@Int.toNat_natCast
abbrev bw:=@Nat.mul_le_mul_right
abbrev bx:=@eq_false_of_ne_true
abbrev bA:=@List.mem_singleton
abbrev bB:=@Bool.false_eq_true
abbrev bC:=@List.mem_append_right
abbrev bD:=@List.length_drop
abbrev bF:=@List.getElem?_eq_none
abbrev bG:=@Nat.le_trans
abbrev bK:=@Nat.add_mul
abbrev bL:=@List.mem_append
abbrev bQ:=@Option.bind_some
abbrev bU:=@List.getElem?_append_left
abbrev bW:=@List.mem_append_left
abbrev bX:=@Option.isSome_iff_exists
abbrev b7:=@List.drop_eq_nil_of_le
abbrev b8:=@List.take_length
abbrev cr:=@Nat.add_zero
abbrev cw:=@List.mem_of_mem_take
abbrev cx:=@List.getElem?_append_right
abbrev cD:=@Array.getD_eq_getD_getElem?
abbrev cI:=@List.length_eq_zero_iff
abbrev cN:=@List.cons_append
abbrev cS:=@Nat.add_assoc
abbrev cT:=@List.map_cons
abbrev c6:=@List.length_nil
abbrev dC:=@decide_eq_false_iff_not
abbrev dF:=@List.getElem?_drop
abbrev dG:=@List.nil_append
abbrev dL:=@Array.getElem?_eq_getElem
abbrev ey:=@Bool.not_eq_true'
abbrev eT:=@Nat.lt_of_lt_of_le
abbrev e8:=@List.append_assoc
abbrev fa:=@List.map_append
abbrev gx:=@Option.getD_some
end Go.Proofs.YtggoiofammbchaaGreatDoor
namespace Go.Proofs.YtggoiofammbchaaGreatDoor.Loc
open Go
inductive D where
 | int (k:IntKind) (n:Int)
 | bool (b:Bool)
 | str (s:List UInt8)
 | nil
 | imm (w:Nat) (rows:List (List D))
 | own (dp:Bool) (w:Nat) (rows:List (List D))
 deriving Inhabited
def D.dW:D->Bool
 | .own _ _ _=>true
 | _=>false
inductive V where
 | d (x:D)
 | ptr (i r o:Nat)
 | iM
 | arr (i off len:Nat)
 | fn (f:Nat) (caps:List (Nat×Nat×Nat))
 | tt
 | ff
 | rd (row:List D) (o:Nat)
 | agg (cells:List V)
 | tup (vs:List V)
 | un
 | mp (i:Nat)
 | nmp
 | own (dp:Bool) (w:Nat) (rows:List (List D))
 deriving Inhabited
def V.dW:V->Bool
 | .own _ _ _=>true
 | _=>false
def D.toV:D->V
 | .own dp w rows=> .own dp w rows
 | x=> .d x
inductive O where
 | st (cells:List V)
 | da (w:Nat) (rows:List (List D))
 | va (w:Nat) (rows:List (List V))
 | mp (es:List (D×Int))
 | oa (w:Nat) (rows:List (List D))
 | rest (w:Nat) (rows:List (List D)) (r:Nat) (o:Nat) (n:Nat) (k:Nat)
 | rst (cs:List V) (o:Nat) (n:Nat) (k:Nat)
 deriving Inhabited
def O.plain:O->Bool
 | .mp _=>false
 | .rest _ _ _ _ _ _=>false
 | .rst _ _ _ _=>false
 | _=>true
def O.dU:O->Bool
 | .st _=>true
 | .oa _ _=>true
 | _=>false
def O.gone:O->Bool
 | .rest _ _ _ _ _ _=>true
 | .rst _ _ _ _=>true
 | _=>false
def O.cell:O->Nat->Nat->Option V
 | .st cs,r,j=>if r=0 then cs[j]? else none
 | .da _ rows,r,j=>(rows[r]?.bind (·[j]?)).map .d
 | .va _ rows,r,j=>rows[r]?.bind (·[j]?)
 | .mp _,_,_=>none
 | .oa _ rows,r,j=>(rows[r]?.bind (·[j]?)).map D.toV
 | .rest _ _ _ _ _ _,_,_=>none
 | .rst _ _ _ _,_,_=>none
inductive cK {α β:Type} (R:α->β->Prop):List α->List β->Prop where
 | nil:cK R [] []
 | cons {a b l m} (h:R a b) (t:cK R l m):cK R (a::l) (b::m)
structure Win where
 b:Nat
 base:Nat
 cap:Nat
 wd:Nat
 n:Nat
abbrev Emb:=Nat->Option Win
structure Fz where
 f:Nat->Nat->Option Value
 H:Nat->Nat->Nat->Prop
instance:CoeFun Fz (fun _=>Nat->Nat->Option Value):=⟨Fz.f⟩
def Fz.ke (F:Fz) (j:Nat) (S:Nat->Nat->Prop):Fz:=⟨F.f,fun i=>if i=j then S else F.H i⟩
def noH:Nat->Nat->Prop:=fun _ _=>False
abbrev Sto:=Nat->Option O
inductive bj (F:Fz):D->Value->Prop where
 | int (k:IntKind) (n:Int):bj F (.int k n) (.int k n)
 | bool (b:Bool):bj F (.bool b) (.bool b)
 | str (s:ByteArray):bj F (.str s.data.toList) (.string s)
 | nil (a:Option Addr):bj F .nil (.slice a 0 0)
 | wG (w:Nat) (a:Option Addr) (cap:Nat):bj F (.imm w []) (.slice a 0 cap)
 | imm (w:Nat) (rows:List (List D)) (b o cap:Nat) (f:Nat->Nat->Value) (hc:rows.length<=cap)
   (h0:∀ row∈rows,row.length=w)
   (h1:∀ i j d,(rows[i]?.bind (·[j]?))=some d->F b (o+i * w+j)=some (f i j))
   (h2:∀ i j d,(rows[i]?.bind (·[j]?))=some d->bj F d (f i j)) :
   bj F (.imm w rows) (.slice (some ⟨b,o,none⟩) rows.length cap)
def kJ (e:Emb) (p:Nat×Nat×Nat) (v:Value):Prop:=∃ W,e p.1=some W/\v= .pointer (some ⟨W.b,W.base+p.2.1 * W.wd+p.2.2,none⟩)
def cj (e:Emb) (F:Fz):V->Value->Prop
 | .d x,v=>bj F x v
 | .ptr i r o,v=>kJ e (i,r,o) v
 | .iM,v=>v= .pointer none
 | .tt,v=>v= .bool true
 | .ff,v=>v= .bool false
 | .arr i off len,v=>∃ W a cap,e i=some W/\v= .slice a len cap/\off+len<=W.n/\len<=cap /\
   (cap=0\/(a=some ⟨W.b,W.base+off * W.wd,none⟩/\(off+cap) * W.wd<=W.cap))
 | .fn f ps,v=>∃ us:List Value,v= .func (.func f) #[] us.toArray/\cK (kJ e) ps us
 | .mp i,v=>∃ W,e i=some W/\v= .map (some W.b)
 | .nmp,v=>v= .map none
 | _,_=>False
def jh:D->Value->Prop
 | .str s,v=>v= .string ⟨s.toArray⟩
 | .int k n,v=>v= .int k n
 | _,_=>False
def Am (es:List (D×Int)) (me:Array MapEntry):Prop:=cK (fun p x=>jh p.1 x.key/\x.val= .int .i64 p.2) es me.toList
def fu (e:Emb) (F:Fz):V->Value->Prop
 | .agg cs,v=>∃ us:List Value,v= .agg us.toArray/\cK (cj e F) cs us
 | x,v=>cj e F x v
def b6 (e:Emb) (F:Fz):V->Value->Prop
 | .tup vs,v=>∃ us:List Value,v= .tuple us.toArray/\cK (fu e F) vs us
 | .rd row o,v=>∃ b p,v= .pointer (some ⟨b,p+o,none⟩)/\∀ (j:Nat) d,row[j]?=some d->∃ u,F b (p+j)=some u/\bj F d u
 | .un,_=>True
 | x,v=>fu e F x v
theorem b6.lF {e:Emb} {F:Fz} {x:V} {v:Value} (h:fu e F x v):b6 e F x v:=by
 cases x<;>first | exact h | exact absurd h id
theorem fu.lR {e:Emb} {F:Fz} {x:V} {v:Value} (h:cj e F x v):fu e F x v:=by
 cases x<;>first | exact h | exact absurd h id
def Emb.le (e e':Emb):Prop:=∀ i W,e i=some W->e' i=some W
def Fz.le (F F':Fz):Prop:=∀ b o u,F b o=some u->F' b o=some u
theorem bj.mono {F F':Fz} (h:Fz.le F F') {x:D} {v:Value} (hx:bj F x v):bj F' x v:=by
 induction hx with
 | int k n=>exact .int k n
 | bool b=>exact .bool b
 | str s=>exact .str s
 | nil a=>exact .nil a
 | wG w a cap=>exact .wG w a cap
 | imm w rows b o cap f hc h0 h1 h2 ih=>exact .imm w rows b o cap f hc h0 (fun i j d hd=>h _ _ _ (h1 i j d hd)) ih
theorem e6 {α β:Type} {R R':α->β->Prop} {l:List α} {m:List β} (h:∀ a b,R a b->R' a b) (hl:cK R l m):cK R' l m:=by
 induction hl with
 | nil=>exact .nil
 | cons a _ ih=>exact .cons (h _ _ a) ih
theorem kJ.mono {e e':Emb} (h:Emb.le e e') {p:Nat×Nat×Nat} {v:Value} (hp:kJ e p v):kJ e' p v :=
 let ⟨W,h1,h2⟩:=hp;⟨W,h _ _ h1,h2⟩
theorem cj.mono {e e':Emb} {F F':Fz} (he:Emb.le e e') (hf:Fz.le F F') {x:V} {v:Value} (hx:cj e F x v):cj e' F' x v:=by
 cases x with
 | d x=>exact bj.mono hf hx
 | ptr i r o=>exact kJ.mono he hx
 | iM=>exact hx
 | tt=>exact hx
 | ff=>exact hx
 | arr i off len=>obtain ⟨W,a,cap,h1,h2⟩:=hx;exact ⟨W,a,cap,he _ _ h1,h2⟩
 | fn f ps=>obtain ⟨us,h1,h2⟩:=hx;exact ⟨us,h1,e6 (fun _ _=>kJ.mono he) h2⟩
 | mp i=>obtain ⟨W,h1,h2⟩:=hx;exact ⟨W,he _ _ h1,h2⟩
 | _=>exact hx
theorem fu.mono {e e':Emb} {F F':Fz} (he:Emb.le e e') (hf:Fz.le F F') {x:V} {v:Value} (hx:fu e F x v):fu e' F' x v:=by
 cases x with
 | agg cs=>obtain ⟨us,h1,h2⟩:=hx;exact ⟨us,h1,e6 (fun _ _=>cj.mono he hf) h2⟩
 | d x=>exact cj.mono he hf (x:= .d x) hx
 | ptr i r o=>exact cj.mono he hf (x:= .ptr i r o) hx
 | iM=>exact hx
 | tt=>exact hx
 | ff=>exact hx
 | arr i off len=>exact cj.mono he hf (x:= .arr i off len) hx
 | fn f ps=>exact cj.mono he hf (x:= .fn f ps) hx
 | mp i=>exact cj.mono he hf (x:= .mp i) hx
 | nmp=>exact hx
 | own=>exact hx
 | rd=>exact hx
 | tup=>exact hx
 | un=>exact hx
theorem b6.mono {e e':Emb} {F F':Fz} (he:Emb.le e e') (hf:Fz.le F F') {x:V} {v:Value} (hx:b6 e F x v):b6 e' F' x v:=by
 cases x with
 | tup vs=>obtain ⟨us,h1,h2⟩:=hx;exact ⟨us,h1,e6 (fun _ _=>fu.mono he hf) h2⟩
 | rd row o=>obtain ⟨b,p,h1,h2⟩:=hx;exact ⟨b,p,h1,fun j d hd=>let ⟨u,h3,h4⟩:=h2 j d hd;⟨u,hf _ _ _ h3,bj.mono hf h4⟩⟩
 | un=>trivial
 | agg cs=>exact fu.mono he hf (x:= .agg cs) hx
 | d x=>exact fu.mono he hf (x:= .d x) hx
 | ptr i r o=>exact fu.mono he hf (x:= .ptr i r o) hx
 | iM=>exact hx
 | tt=>exact hx
 | ff=>exact hx
 | arr i off len=>exact fu.mono he hf (x:= .arr i off len) hx
 | fn f ps=>exact fu.mono he hf (x:= .fn f ps) hx
 | mp i=>exact fu.mono he hf (x:= .mp i) hx
 | nmp=>exact hx
 | own=>exact hx
theorem bj.one {F:Fz} {x:D} {v:Value} (h:bj F x v):v.oneCell'=true:=by cases h<;>rfl
theorem cj.one {e:Emb} {F:Fz} {x:V} {v:Value} (h:cj e F x v):v.oneCell'=true:=by
 cases x with
 | d x=>exact bj.one h
 | ptr i r o=>obtain ⟨W,_,rfl⟩:=h;rfl
 | iM=>cases (show v=_ from h);rfl
 | tt=>cases (show v=_ from h);rfl
 | ff=>cases (show v=_ from h);rfl
 | arr i off len=>obtain ⟨W,a,cap,_,rfl,_⟩:=h;rfl
 | fn f ps=>obtain ⟨us,rfl,_⟩:=h;rfl
 | mp i=>obtain ⟨W,_,rfl⟩:=h;rfl
 | nmp=>cases (show v=_ from h);rfl
 | _=>exact absurd h id
theorem cj.cells {e:Emb} {F:Fz} {x:V} {v:Value} (h:cj e F x v):v.cells=#[v]:=by
 cases x with
 | d x=>cases (show bj F x v from h)<;>rfl
 | ptr i r o=>obtain ⟨W,_,rfl⟩:=h;rfl
 | iM=>cases (show v=_ from h);rfl
 | tt=>cases (show v=_ from h);rfl
 | ff=>cases (show v=_ from h);rfl
 | arr i off len=>obtain ⟨W,a,cap,_,rfl,_⟩:=h;rfl
 | fn f ps=>obtain ⟨us,rfl,_⟩:=h;rfl
 | mp i=>obtain ⟨W,_,rfl⟩:=h;rfl
 | nmp=>cases (show v=_ from h);rfl
 | _=>exact absurd h id
inductive HT (F:Fz) (w:World):Bool->Nat->List (List D)->Value->(Nat->Nat->Prop)->Prop where
 | nil (dp:Bool) (wd:Nat) (a:Option Addr) (S:Nat->Nat->Prop):HT F w dp wd [] (.slice a 0 0) S
 | mk (dp:Bool) (wd:Nat) (rows:List (List D)) (b p cap:Nat) (S:Nat->Nat->Prop) (Sub:Nat->Nat->Nat->Nat->Prop) (us:Nat->Nat->Value)
   (h0:0 < cap * wd) (hc:rows.length<=cap) (hw:∀ row∈rows,row.length=wd) (hS:∀ k,k < cap * wd->S b (p+k))
   (hu:∀ (r j:Nat) d,(rows[r]?.bind (·[j]?))=some d->w.cell? ⟨b,p+r * wd+j,none⟩=some (us r j))
   (hd:∀ (r j:Nat) d,(rows[r]?.bind (·[j]?))=some d->d.dW=false->bj F d (us r j))
   (hp:∀ (r j:Nat) dp' wd' rows',(rows[r]?.bind (·[j]?))=some (D.own dp' wd' rows')->dp=true)
   (ho:∀ (r j:Nat) dp' wd' rows',(rows[r]?.bind (·[j]?))=some (D.own dp' wd' rows')->HT F w dp' wd' rows' (us r j) (Sub r j))
   (hs:∀ r j b' o,Sub r j b' o->S b' o/\¬ (b'=b/\p<=o/\o < p+cap * wd))
   (ha:∀ r j r' j' b' o,(r≠r'\/j≠j')->Sub r j b' o->¬ Sub r' j' b' o):HT F w dp wd rows (.slice (some ⟨b,p,none⟩) rows.length cap) S
structure Ctx where
 P:Program
 ng:Nat
 G:World->Prop
 uj:∀ w w',(∀ b,b < ng->w'.heap[b]?=w.heap[b]?)->G w->G w'
def InW (W:Win) (b o:Nat):Prop:=b=W.b/\W.base<=o/\o < W.base+W.cap
def InR (x:O) (W:Win) (b o:Nat):Prop:=x.gone=false/\InW W b o
def Own (e:Emb) (F:Fz) (g:Sto) (b o:Nat):Prop:=∃ i x W,g i=some x/\e i=some W/\(InR x W b o\/F.H i b o)
def ox (F:Fz) (w:World) (S:Nat->Nat->Prop) (cell:Nat->Nat->Option V) (W:Win):Prop :=
 ∃ Sub:Nat->Nat->Nat->Nat->Prop,(∀ r j b o,Sub r j b o->S b o/\¬ InW W b o)/\(∀ r j r' j' b o,(r≠r'\/j≠j')->Sub r j b o->¬ Sub r' j' b o) /\
  ∀ r j dp wd rows,cell r j=some (.own dp wd rows)->∃ u,w.cell? ⟨W.b,W.base+r * W.wd+j,none⟩=some u/\HT F w dp wd rows u (Sub r j)
structure fw (e:Emb) (F:Fz) (w:World) (S:Nat->Nat->Prop) (W:Win) (x:O) (r o n k:Nat):Prop where
 kid:e k=some ⟨W.b,W.base+r * W.wd+o,n,n,1⟩
 inn:o+n<=W.wd/\r * W.wd+o+n<=W.cap
 fit:∀ r' j c,x.cell r' j=some c->j < W.wd/\r' * W.wd+j < W.cap
 wo:∀ v rows,x= .oa v rows->v=W.wd/\rows.length=W.n/\∀ row∈rows,row.length=v
 reg:∀ q,q < W.cap->¬ (r * W.wd+o<=q/\q < r * W.wd+o+n)->S W.b (W.base+q)
 cells:∀ r' j c,x.cell r' j=some c->¬ (r'=r/\o<=j/\j < o+n)->c.dW=false->∃ u,w.cell? ⟨W.b,W.base+r' * W.wd+j,none⟩=some u/\cj e F c u
 hid:ox F w S (fun r' j=>if r'=r/\o<=j/\j < o+n then none else x.cell r' j) W
def Hid (e:Emb) (F:Fz) (w:World) (S:Nat->Nat->Prop):O->Win->Prop
 | .rest wd rows r o n k,W=>fw e F w S W (.oa wd rows) r o n k
 | .rst cs o n k,W=>fw e F w S W (.st cs) 0 o n k
 | x,W=>ox F w S x.cell W
structure Rel (C:Ctx) (e:Emb) (F:Fz) (g:Sto) (w:World):Prop where
 np:C.G w
 ng:C.ng<=w.heap.size
 dom:∀ i x,g i=some x->∃ W,e i=some W/\C.ng<=W.b
 fit:∀ i x W,g i=some x->e i=some W->∀ r j c,x.cell r j=some c->j < W.wd/\r * W.wd+j < W.cap
 cells:∀ i x W,g i=some x->e i=some W->∀ r j c,x.cell r j=some c->(x.dU=false\/c.dW=false) ->
  ∃ u,w.cell? ⟨W.b,W.base+r * W.wd+j,none⟩=some u/\cj e F c u
 own:∀ i x W,g i=some x->e i=some W->x.plain=true->∀ k,k < W.cap ->
  (w.cell? ⟨W.b,W.base+k,none⟩).isSome=true/\w.frozen? ⟨W.b,W.base+k,none⟩=false
 mp:∀ i es W,g i=some (.mp es)->e i=some W->W.base=0/\W.cap=1/\∃ me ck,w.heap[W.b]?=some (.map me ck)/\Am es me
 wd:∀ i x W,g i=some x->e i=some W->∀ v rows,(x= .da v rows->v=W.wd/\rows.length=W.n/\∀ row∈rows,row.length=v)
 wv:∀ i x W,g i=some x->e i=some W->∀ v rows,(x= .va v rows->v=W.wd/\rows.length=W.n/\∀ row∈rows,row.length=v)
 apart:∀ i x W i' x' W',g i=some x->e i=some W->g i'=some x'->e i'=some W'->i≠i' ->
  ∀ b o,InR x W b o->¬ InR x' W' b o
 hid:∀ i x W,g i=some x->e i=some W->Hid e F w (F.H i) x W
 dY:∀ i x,g i=some x->∀ b o,F.H i b o->C.ng<=b/\(w.cell? ⟨b,o,none⟩).isSome=true/\w.frozen? ⟨b,o,none⟩=false
 hap:∀ i x i' x' W',g i=some x->g i'=some x'->e i'=some W'->∀ b o,F.H i b o->(i≠i'->¬ F.H i' b o)/\¬ InR x' W' b o
 wo:∀ i x W,g i=some x->e i=some W->∀ v rows,(x= .oa v rows->v=W.wd/\rows.length=W.n/\∀ row∈rows,row.length=v)
 fz:∀ b o u,F b o=some u->w.cell? ⟨b,o,none⟩=some u
 dJ:∀ b o u,F b o=some u->¬ Own e F g b o
structure b9 (S:Nat->Nat->Prop) (w w':World):Prop where
 os:w'.os=w.os
 tape:w'.tape=w.tape
 output:w'.output=w.output
 size:w.heap.size<=w'.heap.size
 blk:∀ b,b < w.heap.size->(∀ o,¬ S b o)->w'.heap[b]?=w.heap[b]?
 cell:∀ b o,b < w.heap.size->¬ S b o->w'.cell? ⟨b,o,none⟩=w.cell? ⟨b,o,none⟩
 frz:∀ b o,b < w.heap.size->w'.frozen? ⟨b,o,none⟩=w.frozen? ⟨b,o,none⟩
theorem b9.refl (S:Nat->Nat->Prop) (w:World):b9 S w w:=⟨rfl,rfl,rfl,al _,fun _ _ _=>rfl,fun _ _ _ _=>rfl,fun _ _ _=>rfl⟩
theorem b9.trans {S S':Nat->Nat->Prop} {w w' w'':World} (h:b9 S w w') (h':b9 S' w' w'') (hs:∀ b o,b < w.heap.size->S' b o->S b o):b9 S w w'' where
 os:=h'.os.trans h.os
 tape:=h'.tape.trans h.tape
 output:=h'.output.trans h.output
 size:=bG h.size h'.size
 blk:=fun b hb ho=>(h'.blk b (eT hb h.size) (fun o hs'=>ho o (hs b o hb hs'))).trans (h.blk b hb ho)
 cell:=fun b o hb ho=>(h'.cell b o (eT hb h.size) (fun hs'=>ho (hs b o hb hs'))).trans (h.cell b o hb ho)
 frz:=fun b o hb=>(h'.frz b o (eT hb h.size)).trans (h.frz b o hb)
theorem b9.below {w w':World} (h:b9 (fun _ _=>False) w w'):RowKit.Below w.heap.size w w' :=
 ⟨h.os,h.tape,h.output,h.size,fun k hk=>h.blk k hk (fun _ x=>x)⟩
theorem b9.iu {S:Nat->Nat->Prop} {w w':World} (h:RowKit.Below w.heap.size w w'):b9 S w w' where
 os:=h.os
 tape:=h.tape
 output:=h.output
 size:=h.size
 blk:=fun b hb _=>h.block b hb
 cell:=fun b o hb _=>h.cell (p:=⟨b,o,none⟩) hb
 frz:=fun b o hb=>h.frozen (p:=⟨b,o,none⟩) hb
theorem b9.mono {S S':Nat->Nat->Prop} {w w':World} (h:b9 S w w') (hs:∀ b o,S b o->S' b o):b9 S' w w' :=
 ⟨h.os,h.tape,h.output,h.size,fun b hb ho=>h.blk b hb (fun o x=>ho o (hs _ _ x)),fun b o hb ho=>h.cell b o hb (fun x=>ho (hs _ _ x)),h.frz⟩
structure Ext (m:Nat) (e:Emb) (F:Fz) (g:Sto) (w:World) (e':Emb) (F':Fz) (g':Sto) (w':World):Prop where
 ee:∀ i W,i < m->e i=some W->e' i=some W
 ff:Fz.le F F'
 up:b9 (Own e F g) w w'
 own:∀ b o,Own e' F' g' b o->Own e F g b o\/w.heap.size<=b
 fz:∀ b o u,F' b o=some u->(∃ u',F b o=some u')\/Own e F g b o\/w.heap.size<=b
theorem Ext.refl (m:Nat) (e:Emb) (F:Fz) (g:Sto) (w:World):Ext m e F g w e F g w :=
 ⟨fun _ _ _ h=>h,fun _ _ _ h=>h,b9.refl _ _,fun _ _ h=> .inl h,fun _ _ u h=> .inl ⟨u,h⟩⟩
theorem Ext.trans {m:Nat} {e F g w e' F' g' w' e'' F'' g'' w''} (h:Ext m e F g w e' F' g' w') (h':Ext m e' F' g' w' e'' F'' g'' w''):Ext m e F g w e'' F'' g'' w'' where
 ee:=fun i W hm hi=>h'.ee _ _ hm (h.ee _ _ hm hi)
 ff:=fun b o u hu=>h'.ff _ _ _ (h.ff _ _ _ hu)
 up:=h.up.trans h'.up (fun b o hb ho=>(h.own b o ho).resolve_right (by omega))
 own:=fun b o ho=>(h'.own b o ho).elim (h.own b o) (fun hb=> .inr (bG h.up.size hb))
 fz:=fun b o u hu=>(h'.fz b o u hu).elim (fun ⟨u',hu'⟩=>h.fz b o u' hu')
  (fun ho=>ho.elim (fun ho=> .inr (h.own b o ho)) (fun hb=> .inr (.inr (bG h.up.size hb))))
def km (P:Program) (f:Nat):Prop:=∃ fn c,P.funcs[f]?=some fn/\(fn.name == "runtime.NumGoroutine")=false/\fn.body=some c
def Ok (C:Ctx) (m:Nat) (f:FuncId) (args:List V) (g:Sto) (v:V) (g':Sto):Prop :=
 km C.P f/\∀ (e:Emb) (F:Fz) (w:World) (xs:List Value),Rel C e F g w->(∀ i,m<=i->e i=none)->cK (b6 e F) args xs ->
  Calls C.P f xs.toArray w fun en w'=>∃ e' F' x,en= .returned x/\b6 e' F' v x/\Rel C e' F' g' w'/\Ext m e F g w e' F' g' w'
inductive A where
 | t (n:Nat)
 | k (v:V)
 deriving Inhabited
instance (n:Nat):OfNat A n:=⟨.t n⟩
inductive I where
 | mv (a:A)
 | pick (c a b:A)
 | box (a:A)
 | new (z:List V)
 | build (z:List V) (ps:List (Nat×Nat×A))
 | lit (w:Nat) (as:List A) (m:Bool)
 | ld (n:Option Nat) (a:A)
 | sto (n:Nat) (a x:A)
 | zC (a:A)
 | bin (op:BinOp) (a b:A)
 | beq (ne:Bool) (a b:A)
 | peq (ne:Bool) (a b:A)
 | aeq (ne:Bool) (ks:List Nat) (a b:A)
 | not (a:A)
 | neg (a:A)
 | sV (k:IntKind) (a:A)
 | qB (a:A)
 | nF (a:A)
 | ext (a:A) (i:Nat)
 | fad (off:Nat) (a:A)
 | fld (off:Nat) (n:Option Nat) (a:A)
 | iad (w:Nat) (a i:A)
 | idx (a i:A)
 | xB (a:A) (lo hi:Option A)
 | slc (w:Nat) (a:A) (lo hi:Option A)
 | zm (a:A)
 | len (a:A)
 | mx (a b:A)
 | mn (a b:A)
 | app (w:Nat) (a b:A) (fz:Bool)
 | mks (w:Nat) (z:List V) (l:A)
 | call (f:Nat) (as:List A)
 | r0 (f:A) (as:List A)
 | mkf (f:Nat) (as:List A)
 | mkm
 | lkp (ok:Bool) (kd:Option IntKind) (m k:A)
 | wh (kd:Option IntKind) (m k x:A)
 | cpy (w:Nat) (a b:A)
 | opn (a:A) (c:Nat)
 | cls (a:A) (c w:Nat) (dp:Bool)
 | out (a:A) (n:Nat)
 | inn (a:A)
 | pk (a:A) (ws:List (Option (Bool×Nat)))
 | yj (w:Nat) (a b:A) (ws:List (Option (Bool×Nat)))
 | wa (a:A) (c n:Nat)
 | wF (a:A)
 deriving Inhabited
structure Ir where
 dst:Option Nat
 g:Option (Nat×Bool):=none
 op:I
 anc:List Nat:=[]
 deriving Inhabited
inductive Gst where
 | frz (s:Nat) (c:Option Nat)
 | BK (s c:Nat)
 | emp (s w:Nat)
 | sL (s c w:Nat)
 | fF (s c:Nat)
 | imo (s c w:Nat)
 deriving Inhabited
inductive L where
 | skip
 | reg (ops:List Ir)
 | wZ (ops:List Ir)
 | seq (a b:L)
 | ite (c:A) (x y:L)
 | blk (id:Nat) (b:L)
 | loop (cA:List Nat) (b:L)
 | exit (id:Nat)
 | ret
 | gh (g:Gst)
 | gop (dst:Option Nat) (op:I)
 | cut (cA:List Nat)
 deriving Inhabited
inductive Ex where
 | normal
 | exit (id:Nat)
 | ret
 deriving DecidableEq
abbrev Fr:=List (Nat×V)
def cP:Fr->Nat->V
 | [],_=> .un
 | (d,x)::l,n=>bif Nat.beq d n then x else cP l n
abbrev Ob:=List (Nat×O)
def look:Ob->Nat->Option O
 | [],_=>none
 | (j,x)::l,i=>bif Nat.beq j i then some x else look l i
def fS:Ob->Nat->Ob
 | [],_=>[]
 | (j,x)::l,i=>bif Nat.beq j i then fS l i else (j,x)::fS l i
abbrev Pt:=List (Nat×Option O)
def kS (σ:Ob) (i:Nat):Option O->Ob
 | some x=>(i,x)::fS σ i
 | none=>fS σ i
def patch:Ob->Pt->Ob
 | σ,[]=>σ
 | σ,(i,x)::l=>patch (kS σ i x) l
def fq (fr:Fr):Option Nat->V->Fr
 | some d,v=>(d,v)::fr
 | none,_=>fr
def A.ev (fr:Fr):A->V
 | .t n=>cP fr n
 | .k v=>v
def cu {α:Type}:List α->Nat->List α->Option (List α)
 | xs,0,[]=>some xs
 | x::xs,0,v::vs=>(cu xs 0 vs).map (v::·)
 | x::xs,n+1,vs=>(cu xs n vs).map (x::·)
 | [],_,_=>none
def takeN {α:Type}:List α->Nat->Nat->Option (List α)
 | _,0,0=>some []
 | x::xs,0,n+1=>(takeN xs 0 n).map (x::·)
 | _::xs,o+1,n=>takeN xs o n
 | [],_,_=>none
def V.asD:V->Option D
 | .d x=>some x
 | .tt=>some (.bool true)
 | .ff=>some (.bool false)
 | _=>none
def p9:List V->Option (List D)
 | []=>some []
 | x::l=>match x.asD,p9 l with
  | some x,some l=>some (x::l)
  | _,_=>none
def V.pe:V->Option (List V)
 | .agg cs=>some cs
 | .rd _ _=>none
 | .tup _=>none
 | .un=>none
 | v=>some [v]
def lT:List D->List V
 | []=>[]
 | x::l=> .d x::lT l
def sub {α:Type} (s:List α) (lo hi:Option Int):List α :=
 match lo,hi with
 | none,none=>s
 | some l,none=>s.drop l.toNat
 | none,some h=>s.take h.toNat
 | some l,some h=>(s.take h.toNat).drop l.toNat
def fb (n:Nat) (lo hi:Option Int):Prop :=
 match lo,hi with
 | none,none=>True
 | some l,none=>0<=l/\l<=n
 | none,some h=>0<=h/\h<=n
 | some l,some h=>0<=l/\l<=h/\h<=n
def bH (lo:Option Int):Nat:=match lo with | none=>0 | some l=>l.toNat
def eA (n:Nat) (hi:Option Int):Nat:=match hi with | none=>n | some h=>h.toNat
def ct (n:Nat) (lo hi:Option Int):Nat:=eA n hi - bH lo
def evo (fr:Fr):Option A->Option (Option Int)
 | none=>some none
 | some a=>match a.ev fr with
  | .d (.int _ n)=>some (some n)
  | _=>none
def E9 (op:BinOp) (k:IntKind) (a b:Int):Option D :=
 match op with
 | .add=>some (.int k (k.wrap (a+b)))
 | .sub=>some (.int k (k.wrap (a - b)))
 | .mul=>some (.int k (k.wrap (a * b)))
 | .eql=>some (.bool (decide (a=b)))
 | .neq=>some (.bool (!decide (a=b)))
 | .lss=>some (.bool (decide (a < b)))
 | .leq=>some (.bool (decide (a<=b)))
 | .gtr=>some (.bool (decide (b < a)))
 | .geq=>some (.bool (decide (b<=a)))
 | _=>none
def Fa (op:BinOp):D->D->Option D
 | .int k a,.int k' b=>bif decide (k=k') then E9 op k a b else none
 | .str a,.str b =>
  match op with
  | .eql=>some (.bool (decide (a=b)))
  | .neq=>some (.bool (!decide (a=b)))
  | .lss=>some (.bool (Op.bytesLess a b))
  | _=>none
 | _,_=>none
structure Eff where
 v:V
 pt:Pt:=[]
 n:Nat:=0
 rd:List (Nat×O):=[]
inductive R where
 | ok (e:Eff)
 | dR (p:Prop) (e:Eff)
 | exD (p:Prop) (rows:List (List D)) (n:Nat) (f:List D->Option Eff)
 | exV (p:Prop) (rows:List (List V)) (n:Nat) (f:List V->Option Eff)
 | exB (s:List UInt8) (k:Int)
 | split (b:Bool) (x y:V)
 | call (f:Nat) (args:List V)
 | bad
def jv (w:Nat):List V->Option (List (List V))
 | []=>some []
 | x::l=>match x.pe,jv w l with
  | some cs,some rs=>bif Nat.beq cs.length w then some (cs::rs) else none
  | _,_=>none
def pn:List (List V)->Option (List (List D))
 | []=>some []
 | r::l=>match p9 r,pn l with
  | some r,some l=>some (r::l)
  | _,_=>none
def mkO (w:Nat) (rows:List (List V)):O :=
 match pn rows with
 | some rs=> .da w rs
 | none=> .va w rows
def si:List V->List (Nat×Nat×V)->Option (List V)
 | z,[]=>some z
 | z,(o,n,x)::ps=>match x.pe with
  | some cs=>match Nat.beq cs.length n,cu z o cs with
   | true,some z=>si z ps
   | _,_=>none
  | none=>none
def il:List (List D)->Option (List UInt8)
 | []=>some []
 | [.int .u8 n]::l=>(il l).map (UInt8.ofNat n.toNat::·)
 | _::_=>none
def evq (fr:Fr):List (Nat×Nat×A)->List (Nat×Nat×V)
 | []=>[]
 | (i,n,a)::l=>(i,n,a.ev fr)::evq fr l
def eva (fr:Fr):List A->List V
 | []=>[]
 | a::l=>a.ev fr::eva fr l
inductive Sh where
 | ds (rows:List (List D)) (len:Nat)
 | vs (rows:List (List V)) (len:Nat)
def shown (σ:Ob) (w:Nat):V->Option (Sh×List (Nat×O))
 | .d .nil=>some (.ds [] 0,[])
 | .d (.imm w' rows)=>bif Nat.beq w w' then some (.ds rows rows.length,[]) else none
 | .arr i off len =>
  match look σ i with
  | some (.da w' rows)=>bif Nat.beq w w' then some (.ds ((rows.drop off).take len) len,[(i,.da w' rows)]) else none
  | some (.va w' rows)=>bif Nat.beq w w' then some (.vs ((rows.drop off).take len) len,[(i,.va w' rows)]) else none
  | _=>none
 | _=>none
def toV (l:List (List D)):List (List V):=l.map (·.map .d)
def fg (w:Nat):Sh->Sh->O
 | .ds a _,.ds b _=> .da w (a++b)
 | .ds [] _,.vs b _=> .va w b
 | .vs a _,.vs b _=> .va w (a++b)
 | .ds a _,.vs b _=> .va w (toV a++b)
 | .vs a _,.ds b _=> .va w (a++toV b)
def Sh.len:Sh->Nat
 | .ds _ n=>n
 | .vs _ n=>n
def ldD (w:Nat) (n:Option Nat) (o:Nat) (rd:List (Nat×O)) (row:List D):Option Eff :=
 match n with
 | none=>match row[o]? with
  | some c=>some {v:= .d c,rd:=rd}
  | none=>none
 | some n=>match takeN row o n with
  | some vs=>some {v:= .agg (lT vs),rd:=rd}
  | none=>none
def nz:List V->Bool
 | []=>false
 | x::l=>match x.dW with
  | true=>true
  | false=>nz l
def ldV (n:Option Nat) (o:Nat) (rd:List (Nat×O)) (row:List V):Option Eff :=
 match n with
 | none=>match row[o]? with
  | some c=>match c.dW with
   | false=>some {v:=c,rd:=rd}
   | true=>none
  | none=>none
 | some n=>match takeN row o n with
  | some vs=>match nz vs with
   | false=>some {v:= .agg vs,rd:=rd}
   | true=>none
  | none=>none
def qZ:List D->List V
 | []=>[]
 | x::l=>x.toV::qZ l
def V.GL:V->Option D
 | .own dp w rows=>some (.own dp w rows)
 | x=>x.asD
def sr:List V->Option (List D)
 | []=>some []
 | x::l=>match x.GL,sr l with
  | some x,some l=>some (x::l)
  | _,_=>none
def kh (i:Nat):List Nat->Bool
 | []=>false
 | j::l=>bif Nat.beq j i then true else kh i l
def kG:List Nat->Bool
 | []=>true
 | i::l=>bif kh i l then false else kG l
def tB (σ:Ob) (x:V):Option (Bool×Nat)->Option (D×List (Nat×O))
 | none=>match x.asD with
  | some d=>some (d,[])
  | none=>none
 | some (dp,w)=>match x with
  | .d .nil=>some (.own dp w [],[])
  | .arr j off len=>match look σ j with
   | some (.da w' rows)=>match Nat.beq w w'&&Nat.blt 0 w with
    | true=>some (.own dp w ((rows.drop off).take len),[(j,.da w' rows)])
    | false=>none
   | some (.oa w' rows)=>match Nat.beq w w'&&Nat.blt 0 w,dp with
    | true,true=>some (.own true w ((rows.drop off).take len),[(j,.oa w' rows)])
    | _,_=>none
   | _=>none
  | _=>none
def j3 (σ:Ob):List V->List (Option (Bool×Nat))->Option (List D×List (Nat×O))
 | [],[]=>some ([],[])
 | x::l,c::ws=>match tB σ x c,j3 σ l ws with
  | some (d,m),some (ds,mv)=>some (d::ds,m++mv)
  | _,_=>none
 | _,_=>none
def y0 (k:Nat):Ob->Option Nat
 | []=>none
 | (i,.rest _ _ _ _ _ k')::l=>bif Nat.beq k' k then some i else y0 k l
 | (i,.rst _ _ _ k')::l=>bif Nat.beq k' k then some i else y0 k l
 | _::l=>y0 k l
def Cq (σ:Ob):V->Option (Nat×Nat×List V)
 | .ptr i 0 o=>match look σ i with
  | some (.st cs)=>some (i,o,cs)
  | _=>none
 | .arr i 0 1=>match look σ i with
  | some (.st cs)=>some (i,0,cs)
  | _=>none
 | _=>none
def R.of:Option Eff->R
 | some e=> .ok e
 | none=> .bad
def vb:List Nat->List D->List D->Option Bool
 | [],[],[]=>some true
 | 0::ks,.int k a::l,.int k' b::m=>match decide (k=k'),vb ks l m with
  | true,some z=>some (decide (a=b)&&z)
  | _,_=>none
 | 1::ks,.str a::l,.str b::m=>match vb ks l m with
  | some z=>some (decide (a=b)&&z)
  | none=>none
 | 2::ks,.bool a::l,.bool b::m=>match vb ks l m with
  | some z=>some ((a == b)&&z)
  | none=>none
 | _,_,_=>none
def vf:List V->Option (List (Nat×Nat×Nat))
 | []=>some []
 | .ptr i r o::l=>match vf l with
  | some ps=>some ((i,r,o)::ps)
  | none=>none
 | _::_=>none
def eV:D->D->Bool
 | .str a,.str b=>decide (a=b)
 | .int _ a,.int _ b=>decide (a=b)
 | _,_=>false
def jO:Option IntKind->D->Prop
 | none,.str _=>True
 | some k,.int k' _=>k'=k
 | _,_=>False
def wy (kd:Option IntKind) (es:List (D×Int)) (k:D):Prop:=jO kd k/\∀ p∈es,jO kd p.1
def cL:List (D×Int)->D->Int
 | [],_=>0
 | (k',v)::l,k=>if eV k k'=true then v else cL l k
def cJ:List (D×Int)->D->Bool
 | [],_=>false
 | (k',v)::l,k=>if eV k k'=true then true else cJ l k
def dd:List (D×Int)->D->Int->List (D×Int)
 | [],k,v=>[(k,v)]
 | (k',v')::l,k,v=>if eV k k'=true then (k,v)::l else (k',v')::dd l k v
def sem (op:I) (fr:Fr) (σ:Ob) (nx:Nat):R :=
 match op with
 | .mv a=> .ok {v:=a.ev fr}
 | .pick c a b =>
  match c.ev fr with
  | .tt=> .ok {v:=a.ev fr}
  | .ff=> .ok {v:=b.ev fr}
  | .d (.bool x)=> .split x (a.ev fr) (b.ev fr)
  | _=> .bad
 | .box a=>match (a.ev fr).pe with
  | some cs=> .ok {v:= .ptr nx 0 0,pt:=[(nx,some (.st cs))],n:=1}
  | none=> .bad
 | .new z=> .ok {v:= .ptr nx 0 0,pt:=[(nx,some (.st z))],n:=1}
 | .build z ps =>
  match si z (evq fr ps) with
  | some cs=> .ok {v:= .agg cs}
  | none=> .bad
 | .lit w as m =>
  match as,m,jv w (eva fr as) with
  | [],false,some _=> .ok {v:= .d .nil}
  | as,true,some rs=> .ok {v:= .arr nx 0 as.length,pt:=[(nx,some (mkO w rs))],n:=1}
  | as,false,some rs=>match pn rs with
   | some rs=> .ok {v:= .d (.imm w rs)}
   | none=> .ok {v:= .arr nx 0 as.length,pt:=[(nx,some (.va w rs))],n:=1}
  | _,_,none=> .bad
 | .ld n a =>
  match a.ev fr with
  | .ptr i r o =>
   match look σ i with
   | some (.st cs)=>match r with
    | 0=>R.of (ldV n o [(i,.st cs)] cs)
    | _=> .bad
   | some (.da w rows)=> .exD True rows r (ldD w n o [(i,.da w rows)])
   | some (.va w rows)=> .exV True rows r (ldV n o [(i,.va w rows)])
   | some (.mp _)=> .bad
   | some (.oa _ _)=> .bad
   | some (.rest _ _ _ _ _ _)=> .bad
   | some (.rst cs h m k)=>match r,Nat.ble h o&&Nat.blt o (h+m) with
    | 0,true=>match look σ k with
     | some (.st vs)=>R.of (ldV n (o - h) [(i,.rst cs h m k),(k,.st vs)] vs)
     | _=> .bad
    | 0,false=>match n,cs[o]? with
     | none,some c=>match c.dW with
      | false=> .ok {v:=c,rd:=[(i,.rst cs h m k)]}
      | true=> .bad
     | _,_=> .bad
    | _,_=> .bad
   | none=> .bad
  | .rd row o=>R.of (ldD 0 n o [] row)
  | _=> .bad
 | .sto n a x =>
  match (x.ev fr).pe,a.ev fr with
  | some vs,.ptr i r o=>match Nat.beq vs.length n with
   | false=> .bad
   | true=>match look σ i with
    | some (.st cs)=>match r,cu cs o vs with
     | 0,some cs'=> .ok {v:= .un,rd:=[(i,.st cs)],pt:=[(i,some (.st cs'))]}
     | _,_=> .bad
    | some (.da w rows)=> .exD True rows r fun row=>match p9 vs with
     | some ds=>match cu row o ds with
      | some row'=>some {v:= .un,rd:=[(i,.da w rows)],pt:=[(i,some (.da w (rows.set r row')))]}
      | none=>none
     | none=>none
    | some (.va w rows)=> .exV True rows r fun row=>match cu row o vs with
     | some row'=>some {v:= .un,rd:=[(i,.va w rows)],pt:=[(i,some (.va w (rows.set r row')))]}
     | none=>none
    | some (.mp _)=> .bad
    | some (.oa _ _)=> .bad
    | some (.rest _ _ _ _ _ _)=> .bad
    | some (.rst cs h m k)=>match r,Nat.ble h o&&Nat.blt o (h+m),look σ k with
     | 0,true,some (.st ws)=>match cu ws (o - h) vs with
      | some ws'=> .ok {v:= .un,rd:=[(i,.rst cs h m k),(k,.st ws)],pt:=[(k,some (.st ws'))]}
      | none=> .bad
     | _,_,_=> .bad
    | none=> .bad
  | _,_=> .bad
 | .zC a =>
  match a.ev fr with
  | .ptr i r o=> .ok {v:= .ptr i r o}
  | .rd row o=> .ok {v:= .rd row o}
  | .fn f caps=> .ok {v:= .fn f caps}
  | _=> .bad
 | .bin op a b =>
  match a.ev fr,b.ev fr with
  | .d x,.d y =>
   match op,x,y with
   | .add,.str s,.str t=> .dR (s.length+t.length<=4611686018427387904) {v:= .d (.str (s++t))}
   | .quo,.int k x,.int k' y=> .dR (k=k'/\y≠0) {v:= .d (.int k (k.wrap (x.tdiv y)))}
   | .rem,.int k x,.int k' y=> .dR (k=k'/\y≠0) {v:= .d (.int k (x.tmod y))}
   | op,x,y=>match Fa op x y with
    | some z=> .ok {v:= .d z}
    | none=> .bad
  | _,_=> .bad
 | .beq ne a b=>match (a.ev fr).asD,(b.ev fr).asD with
  | some (.bool x),some (.bool y)=> .ok {v:= .d (.bool (ne ^^ (x == y)))}
  | _,_=> .bad
 | .peq ne a b=>match a.ev fr,b.ev fr with
  | .ptr _ _ _,.iM=>match ne with | true=> .ok {v:= .tt} | false=> .ok {v:= .ff}
  | .iM,.iM=>match ne with | true=> .ok {v:= .ff} | false=> .ok {v:= .tt}
  | _,_=> .bad
 | .aeq ne ks a b=>match a.ev fr,b.ev fr with
  | .agg xs,.agg ys=>match p9 xs,p9 ys with
   | some xs,some ys=>match vb ks xs ys with
    | some z=> .ok {v:= .d (.bool (ne ^^ z))}
    | none=> .bad
   | _,_=> .bad
  | _,_=> .bad
 | .not a=>match a.ev fr with
  | .d (.bool b)=> .ok {v:= .d (.bool (!b))}
  | .tt=> .ok {v:= .ff}
  | .ff=> .ok {v:= .tt}
  | _=> .bad
 | .neg a=>match a.ev fr with
  | .d (.int k n)=> .ok {v:= .d (.int k (k.wrap (0 - n)))}
  | _=> .bad
 | .sV k a=>match a.ev fr with
  | .d (.int _ n)=> .ok {v:= .d (.int k (k.wrap n))}
  | _=> .bad
 | .qB a=>match shown σ 1 (a.ev fr) with
  | some (.ds rs _,rd)=> .dR (il rs≠none) {v:= .d (.str ((il rs).getD [])),rd:=rd}
  | _=> .bad
 | .nF a=> .bad
 | .ext a i=>match a.ev fr with
  | .tup vs=>match vs[i]? with
   | some v=> .ok {v:=v}
   | none=> .bad
  | _=> .bad
 | .fad off a=>match a.ev fr with
  | .ptr i r o=> .ok {v:= .ptr i r (o+off)}
  | .rd row o=> .ok {v:= .rd row (o+off)}
  | _=> .bad
 | .fld off n a=>match a.ev fr with
  | .agg cs=>R.of (ldV n off [] cs)
  | _=> .bad
 | .iad w a i=>match a.ev fr,i.ev fr with
  | .arr j off len,.d (.int _ k)=>match look σ j with
   | some (.da w' rows)=>bif Nat.beq w w' then .dR (0<=k/\k < len) {v:= .ptr j (off+k.toNat) 0,rd:=[(j,.da w' rows)]} else .bad
   | some (.va w' rows)=>bif Nat.beq w w' then .dR (0<=k/\k < len) {v:= .ptr j (off+k.toNat) 0,rd:=[(j,.va w' rows)]} else .bad
   | some (.oa w' rows)=>bif Nat.beq w w' then .dR (0<=k/\k < len) {v:= .ptr j (off+k.toNat) 0,rd:=[(j,.oa w' rows)]} else .bad
   | _=> .bad
  | .d (.imm w' rows),.d (.int _ k)=>bif Nat.beq w w' then .exD (0<=k) rows k.toNat (fun row=>some {v:= .rd row 0}) else .bad
  | _,_=> .bad
 | .idx a i=>match a.ev fr,i.ev fr with
  | .d (.str s),.d (.int _ k)=> .exB s k
  | _,_=> .bad
 | .xB a lo hi=>match evo fr lo,evo fr hi,a.ev fr with
  | some lo,some hi,.d (.str s)=> .dR (fb s.length lo hi) {v:= .d (.str (sub s lo hi))}
  | _,_,_=> .bad
 | .slc w a lo hi=>match evo fr lo,evo fr hi with
  | some lo,some hi=>match a.ev fr with
   | .d (.imm w' rows)=>bif Nat.beq w w' then .dR (fb rows.length lo hi) {v:= .d (.imm w (sub rows lo hi))} else .bad
   | .d .nil=> .dR (fb 0 lo hi) {v:= .d .nil}
   | .arr i off len=>match look σ i with
    | some (.da w' rows)=>bif Nat.beq w w' then .dR (fb len lo hi) {v:= .arr i (off+bH lo) (ct len lo hi),rd:=[(i,.da w' rows)]} else .bad
    | some (.va w' rows)=>bif Nat.beq w w' then .dR (fb len lo hi) {v:= .arr i (off+bH lo) (ct len lo hi),rd:=[(i,.va w' rows)]} else .bad
    | some (.oa w' rows)=>bif Nat.beq w w' then .dR (fb len lo hi) {v:= .arr i (off+bH lo) (ct len lo hi),rd:=[(i,.oa w' rows)]} else .bad
    | _=> .bad
   | _=> .bad
  | _,_=> .bad
 | .zm a=>match a.ev fr with
  | .d (.str s)=> .ok {v:= .d (.int .i64 s.length)}
  | _=> .bad
 | .len a=>match a.ev fr with
  | .d (.imm _ rows)=> .ok {v:= .d (.int .i64 rows.length)}
  | .d .nil=> .ok {v:= .d (.int .i64 0)}
  | .arr _ _ n=> .ok {v:= .d (.int .i64 n)}
  | _=> .bad
 | .mx a b=>match a.ev fr,b.ev fr with
  | .d (.int k x),.d (.int _ y)=> .ok {v:= .d (.int k (if y > x then y else x))}
  | _,_=> .bad
 | .mn a b=>match a.ev fr,b.ev fr with
  | .d (.int k x),.d (.int _ y)=> .ok {v:= .d (.int k (if y < x then y else x))}
  | _,_=> .bad
 | .app w a b fz =>
  match shown σ w (a.ev fr),shown σ w (b.ev fr) with
  | some (r1,rd1),some (r2,rd2) =>
   match a.ev fr with
   | .d .nil=>match fz,r2 with
    | true,.ds y n=> .dR (n<=1073741824) {v:= .d (.imm w y),rd:=rd2,n:=1}
    | _,r2=> .dR (r2.len<=1073741824) {v:= .arr nx 0 r2.len,rd:=rd2,pt:=[(nx,some (fg w (.ds [] 0) r2))],n:=1}
   | .arr i _ len=>match fz,r1,r2 with
    | true,.ds x _,.ds y n=> .dR (len+n<=1073741824) {v:= .d (.imm w (x++y)),rd:=rd1++rd2,pt:=[(i,none)],n:=1}
    | _,r1,r2=> .dR (len+r2.len<=1073741824) {v:= .arr nx 0 (len+r2.len),rd:=rd1++rd2,pt:=[(i,none),(nx,some (fg w r1 r2))],n:=1}
   | _=> .bad
  | _,_=> .bad
 | .mks w z l=>match l.ev fr,p9 z with
  | .d (.int _ n),some ds=> .dR (0<=n/\n<=1073741824) {v:= .arr nx 0 n.toNat,pt:=[(nx,some (.da w (List.replicate n.toNat ds)))],n:=1}
  | .d (.int _ n),none=> .dR (0<=n/\n<=1073741824) {v:= .arr nx 0 n.toNat,pt:=[(nx,some (.va w (List.replicate n.toNat z)))],n:=1}
  | _,_=> .bad
 | .call f as=> .call f (eva fr as)
 | .r0 f as=>match f.ev fr with
  | .fn g caps=> .call g (eva fr as++caps.map fun p=> .ptr p.1 p.2.1 p.2.2)
  | _=> .bad
 | .mkf f as=>match vf (eva fr as) with
  | some ps=> .ok {v:= .fn f ps}
  | none=> .bad
 | .mkm=> .ok {v:= .mp nx,pt:=[(nx,some (.mp []))],n:=1}
 | .lkp ok kd m k=>match m.ev fr,k.ev fr with
  | .mp i,.d k=>match look σ i with
   | some (.mp es)=>match ok with
    | true=> .dR (wy kd es k) {v:= .tup [.d (.int .i64 (cL es k)),.d (.bool (cJ es k))],rd:=[(i,.mp es)]}
    | false=> .dR (wy kd es k) {v:= .d (.int .i64 (cL es k)),rd:=[(i,.mp es)]}
   | _=> .bad
  | _,_=> .bad
 | .wh kd m k x=>match m.ev fr,k.ev fr,x.ev fr with
  | .mp i,.d k,.d (.int vk n)=>match look σ i with
   | some (.mp es)=> .dR (wy kd es k/\vk= .i64) {v:= .un,rd:=[(i,.mp es)],pt:=[(i,some (.mp (dd es k n)))]}
   | _=> .bad
  | _,_,_=> .bad
 | .cpy w a b=>match a.ev fr,shown σ w (b.ev fr) with
  | .arr i off len,some (.ds r2 n,rd2)=>match look σ i with
   | some (.da w' rows)=>bif Nat.beq w w' then .ok {v:= .d (.int .i64 (min len n:Nat)),rd:=(i,.da w' rows)::rd2,pt:=[(i,some (.da w' (rows.take off++r2.take (min len n)++rows.drop (off+min len n))))]} else .bad
   | _=> .bad
  | _,_=> .bad
 | .opn a c=>match Cq σ (a.ev fr) with
  | some (i,o,cs)=>match cs[o+c]? with
   | some (.own dp w rows)=>match cu cs (o+c) [.arr nx 0 rows.length] with
    | some cs'=> .ok {v:=a.ev fr,pt:=[(i,some (.st cs')),(nx,some (match dp with | true=> .oa w rows | false=> .da w rows))],rd:=[(i,.st cs)],n:=1}
    | none=> .bad
   | some (.arr _ _ _)=> .ok {v:=a.ev fr}
   | _=> .bad
  | none=> .bad
 | .cls a c w dp=>match Cq σ (a.ev fr) with
  | some (i,o,cs)=>match cs[o+c]? with
   | some (.arr j off len)=>match look σ j with
    | some (.da w' rows)=>match Nat.beq w w'&&Nat.blt 0 w,cu cs (o+c) [.own dp w ((rows.drop off).take len)] with
     | true,some cs'=> .ok {v:=a.ev fr,pt:=[(j,none),(i,some (.st cs'))],rd:=[(i,.st cs),(j,.da w' rows)]}
     | _,_=> .bad
    | some (.oa w' rows)=>match Nat.beq w w'&&Nat.blt 0 w,dp,cu cs (o+c) [.own dp w ((rows.drop off).take len)] with
     | true,true,some cs'=> .ok {v:=a.ev fr,pt:=[(j,none),(i,some (.st cs'))],rd:=[(i,.st cs),(j,.oa w' rows)]}
     | _,_,_=> .bad
    | _=> .bad
   | some (.d .nil)=>match cu cs (o+c) [.own dp w []] with
    | some cs'=> .ok {v:=a.ev fr,pt:=[(i,some (.st cs'))],rd:=[(i,.st cs)]}
    | none=> .bad
   | some (.own _ _ _)=> .ok {v:=a.ev fr}
   | _=> .bad
  | none=> .bad
 | .out a n=>match a.ev fr with
  | .ptr i r o=>match look σ i with
   | some (.st cs)=>match r,n,takeN cs o n with
    | 0,n'+1,some vs=> .ok {v:= .ptr nx 0 0,pt:=[(i,some (.rst cs o (n'+1) nx)),(nx,some (.st vs))],rd:=[(i,.st cs)],n:=1}
    | _,_,_=> .bad
   | some (.oa w rows)=>match n with
    | 0=> .bad
    | n'+1=> .exD True rows r fun row=>match takeN row o (n'+1) with
     | some ds=>some {v:= .ptr nx 0 0,pt:=[(i,some (.rest w rows r o (n'+1) nx)),(nx,some (.st (qZ ds)))],rd:=[(i,.oa w rows)],n:=1}
     | none=>none
   | _=> .bad
  | _=> .bad
 | .inn a=>match a.ev fr with
  | .ptr k 0 0=>match look σ k,y0 k σ with
   | some (.st vs),some i=>match look σ i with
    | some (.rst cs o n k')=>match Nat.beq k' k,Nat.beq vs.length n,cu cs o vs with
     | true,true,some cs'=> .ok {v:= .ptr i 0 o,pt:=[(k,none),(i,some (.st cs'))],rd:=[(k,.st vs),(i,.rst cs o n k')]}
     | _,_,_=> .bad
    | some (.rest w rows r o n k')=>match Nat.beq k' k,Nat.beq vs.length n,sr vs with
     | true,true,some ds=> .exD True rows r fun row=>match cu row o ds with
      | some row'=>some {v:= .ptr i r o,pt:=[(k,none),(i,some (.oa w (rows.set r row')))],rd:=[(k,.st vs),(i,.rest w rows r o n k')]}
      | none=>none
     | _,_,_=> .bad
    | _=> .bad
   | _,_=> .bad
  | _=> .bad
 | .wa a c n=>match a.ev fr,n with
  | .ptr i 0 o,n'+1=>match look σ i with
   | some (.st cs)=>match takeN cs (o+c) (n'+1) with
    | some vs=> .ok {v:= .un,pt:=[(i,some (.rst cs (o+c) (n'+1) nx)),(nx,some (.st vs))],rd:=[(i,.st cs)],n:=1}
    | none=> .bad
   | _=> .bad
  | _,_=> .bad
 | .wF a=>match a.ev fr with
  | .ptr i 0 _=>match look σ i with
   | some (.rst cs o n k)=>match look σ k with
    | some (.st vs)=>match Nat.beq vs.length n,cu cs o vs with
     | true,some cs'=> .ok {v:= .un,pt:=[(k,none),(i,some (.st cs'))],rd:=[(k,.st vs),(i,.rst cs o n k)]}
     | _,_=> .bad
    | _=> .bad
   | _=> .bad
  | _=> .bad
 | .pk a ws=>match a.ev fr with
  | .arr i 0 1=>match look σ i with
   | some (.va w [row])=>match j3 σ row ws with
    | some (ds,mv)=>match kG (i::mv.map (·.1)) with
     | true=> .ok {v:= .arr i 0 1,pt:=(mv.map fun p=>(p.1,none))++[(i,some (.oa w [ds]))],rd:=(i,.va w [row])::mv}
     | false=> .bad
    | none=> .bad
   | _=> .bad
  | _=> .bad
 | .yj w a b ws=>match a.ev fr,b.ev fr with
  | .d .nil,.arr j 0 n=>match look σ j with
   | some (.oa w' rows)=>match Nat.beq w w' with
    | true=> .dR (n=rows.length/\n<=1073741824) {v:= .arr nx 0 n,rd:=[(j,.oa w' rows)],pt:=[(j,none),(nx,some (.oa w rows))],n:=1}
    | false=> .bad
   | _=> .bad
  | .arr i off len,.arr j 0 1=>match look σ i,look σ j with
   | some (.oa w1 rows1),some (.va w2 [row])=>match Nat.beq w w1&&Nat.beq w w2,j3 σ row ws with
    | true,some (ds,mv)=>match kG (i::j::mv.map (·.1)) with
     | true=> .dR (len+1<=1073741824) {v:= .arr nx 0 (len+1),rd:=(i,.oa w1 rows1)::(j,.va w2 [row])::mv,pt:=(mv.map fun p=>(p.1,none))++[(i,none),(j,none),(nx,some (.oa w ((rows1.drop off).take len++[ds])))],n:=1}
     | false=> .bad
    | _,_=> .bad
   | _,_=> .bad
  | _,_=> .bad
def gH (π:List Nat) (m nx:Nat) (i:Nat):Nat:=match π[i]? with | some j=>j | none=>nx+(i - m)
def V.ren (π:List Nat) (m nx:Nat):V->V
 | .ptr i r o=> .ptr (gH π m nx i) r o
 | .arr i o l=> .arr (gH π m nx i) o l
 | .fn f caps=> .fn f (caps.map fun p=>(gH π m nx p.1,p.2.1,p.2.2))
 | .mp i=> .mp (gH π m nx i)
 | x=>x
def lQ (π:List Nat) (m nx:Nat):List V->List V
 | []=>[]
 | x::l=>x.ren π m nx::lQ π m nx l
def V.AS (π:List Nat) (m nx:Nat):V->V
 | .agg cs=> .agg (lQ π m nx cs)
 | x=>x.ren π m nx
def j2 (π:List Nat) (m nx:Nat):List V->List V
 | []=>[]
 | x::l=>x.AS π m nx::j2 π m nx l
def V.nO (π:List Nat) (m nx:Nat):V->V
 | .tup vs=> .tup (j2 π m nx vs)
 | x=>x.AS π m nx
def O.ren (π:List Nat) (m nx:Nat):O->O
 | .st cs=> .st (lQ π m nx cs)
 | .da w rows=> .da w rows
 | .va w rows=> .va w (rows.map (lQ π m nx))
 | .mp es=> .mp es
 | .oa w rows=> .oa w rows
 | .rest w rows r o n k=> .rest w rows r o n (gH π m nx k)
 | .rst cs o n k=> .rst (lQ π m nx cs) o n (gH π m nx k)
def gE (σ:Ob):List Nat->Option (List O)
 | []=>some []
 | i::l=>match look σ i,gE σ l with
  | some x,some xs=>some (x::xs)
  | _,_=>none
def gp (π:List Nat) (m nx:Nat):List O->List O
 | []=>[]
 | x::l=>x.ren π m nx::gp π m nx l
def dQ (π:List Nat) (m nx:Nat):Nat->List (Option O)->Pt
 | _,[]=>[]
 | i,x::l=>(gH π m nx i,x.map (·.ren π m nx))::dQ π m nx (i+1) l
def V.bnd (m:Nat):V->Bool
 | .ptr i _ _=>Nat.blt i m
 | .arr i _ _=>Nat.blt i m
 | .fn _ caps=>caps.all fun p=>Nat.blt p.1 m
 | .mp i=>Nat.blt i m
 | _=>true
def sP (m:Nat):List V->Bool
 | []=>true
 | x::l=>x.bnd m&&sP m l
def V.DB (m:Nat):V->Bool
 | .agg cs=>sP m cs
 | .tup _=>false
 | x=>x.bnd m
def j9 (m:Nat):List V->Bool
 | []=>true
 | x::l=>x.DB m&&j9 m l
def V.vj (m:Nat):V->Bool
 | .tup vs=>j9 m vs
 | x=>x.DB m
def O.bnd (m:Nat):O->Bool
 | .st cs=>sP m cs
 | .da _ _=>true
 | .va _ rows=>rows.all (sP m)
 | .mp _=>true
 | .oa _ _=>true
 | .rest _ _ _ _ _ k=>Nat.blt k m
 | .rst cs _ _ k=>sP m cs&&Nat.blt k m
def oo (m:Nat):List O->Bool
 | []=>true
 | x::l=>x.bnd m&&oo m l
def mR (m:Nat):List (Option O)->Bool
 | []=>true
 | some x::l=>x.bnd m&&mR m l
 | none::l=>mR m l
def distinct:List Nat->Bool
 | []=>true
 | i::l=>!l.contains i&&distinct l
structure oy (C:Ctx) (f:Nat) (xs:List V) (σ:Ob) (nx:Nat) (e:Eff):Prop where
 ex:∃ (args:List V) (π:List Nat) (os:List O) (v:V) (os':List (Option O)),
  Ok C π.length f args (fun i=>os[i]?) v (fun i=>(os'[i]?).join)/\os.length=π.length/\π.length<=os'.length/\distinct π=true/\xs=j2 π π.length nx args /\
  gE σ π=some (gp π π.length nx os) /\
  (j9 π.length args&&oo π.length os&&v.vj os'.length&&mR os'.length os')=true/\e.v=v.nO π π.length nx/\e.pt=dQ π π.length nx 0 os'/\e.n=os'.length - π.length/\e.rd=π.zip (gp π π.length nx os)
def wpR (C:Ctx) (σ:Ob) (nx:Nat) (K:Eff->Prop):R->Prop
 | .ok e=>K e
 | .dR p e=>p/\K e
 | .exD p rows n f=>p/\∃ row e,rows[n]?=some row/\f row=some e/\K e
 | .exV p rows n f=>p/\∃ row e,rows[n]?=some row/\f row=some e/\K e
 | .exB s k=>0<=k/\∃ b,s[k.toNat]?=some b/\K {v:= .d (.int .u8 b.toNat)}
 | .split b x y=>(b=true->K {v:=x})/\(b=false->K {v:=y})
 | .call f xs=>∃ e,oy C f xs σ nx e/\K e
 | .bad=>False
structure Te where
 ix:Nat
 anc:List Nat
 rd:List Nat
 pt:List (Nat×Prop)
inductive Trc where
 | off
 | on (l:List Te)
 | bad
def pW:List (Nat×O)->List Nat
 | []=>[]
 | p::l=>p.1::pW l
def mM {α:Type}:List (Nat×α)->List Nat
 | []=>[]
 | p::l=>p.1::mM l
def mP (σ:Ob):Pt->List (Nat×Prop)
 | []=>[]
 | (i,x)::l=>(i,look σ i=x)::mP σ l
def jf (tr:Trc) (anc:List Nat) (σ:Ob) (pt:Pt) (rd:List (Nat×O)):Trc :=
 match tr with
 | .off=> .off
 | .bad=> .bad
 | .on l=>match rd,pt with
  | [],[]=> .on l
  | rd,pt=>match anc with
   | i::as=> .on (⟨i,as,pW rd,mP σ pt⟩::l)
   | []=> .bad
def sel {α:Type}:List (Nat×α)->List Nat->List α
 | [],_=>[]
 | (i,p)::l,is=>bif kh i is then p::sel l is else sel l is
def tU (d e:Te):List Prop :=
 bif kh d.ix e.anc then [] else sel d.pt (e.rd++mM e.pt)++sel e.pt (d.rd++mM d.pt)
def rW (e:Te):List Te->List Prop
 | []=>[]
 | d::l=>tU d e++rW e l
def pO:List Te->List Prop
 | []=>[]
 | e::l=>rW e l++pO l
def ew:List Prop->Prop
 | []=>True
 | p::l=>p/\ew l
def pw (tr:Trc) (p:Prop):Prop :=
 match tr with
 | .off=>p
 | .on l=>ew (pO l)/\p
 | .bad=>False
theorem xp (tr:Trc) (anc:List Nat) (σ:Ob):jf tr anc σ [] []=tr:=by cases tr<;>rfl
theorem xy {tr:Trc} {p q:Prop} (h:p->q) (hp:pw tr p):pw tr q:=by
 cases tr with
 | off=>exact h hp
 | on l=>exact ⟨hp.1,h hp.2⟩
 | bad=>exact hp
inductive Gd where
 | yes
 | no
 | ask (s:Nat) (b want:Bool)
 | bad
def gd (fr:Fr):Option (Nat×Bool)->Gd
 | none=> .yes
 | some (s,b)=>match cP fr s with
  | .tt=>match b with | true=> .yes | false=> .no
  | .ff=>match b with | true=> .no | false=> .yes
  | .d (.bool x)=> .ask s x b
  | .tup []=> .no
  | _=> .bad
def gdc (fr:Fr):Option (Nat×Bool)->Gd
 | none=> .yes
 | some (s,b)=>match cP fr s with
  | .tt=>match b with | true=> .yes | false=> .no
  | .ff=>match b with | true=> .no | false=> .yes
  | .d (.bool x)=> .ask s x b
  | _=> .bad
def dt (C:Ctx):List Ir->Trc->Fr->Ob->Nat->(Fr->Ob->Nat->Prop)->Prop
 | [],tr,fr,σ,nx,K=>pw tr (K fr σ nx)
 | o::rest,tr,fr,σ,nx,K =>
  match gd fr o.g with
  | .yes=>wpR C σ nx (fun e=>dt C rest (jf tr o.anc σ e.pt e.rd) (fq fr o.dst e.v) (patch σ e.pt) (nx+e.n) K) (sem o.op fr σ nx)
  | .no=>dt C rest tr (fq fr o.dst (.tup [])) σ nx K
  | .ask s b w =>
   (b=w->wpR C σ nx (fun e=>dt C rest (jf tr o.anc σ e.pt e.rd) (fq ((s,bif w then .tt else .ff)::fr) o.dst e.v) (patch σ e.pt) (nx+e.n) K) (sem o.op ((s,bif w then .tt else .ff)::fr) σ nx)) /\
   (b=!w->dt C rest tr (fq ((s,bif w then .ff else .tt)::fr) o.dst (.tup [])) σ nx K)
  | .bad=>False
def sI (σ:Ob):V->Option (V×Nat)
 | .arr i off len=>match look σ i with
  | some (.da w rows)=>some (.d (.imm w ((rows.drop off).take len)),i)
  | _=>none
 | _=>none
def yR (σ:Ob) (c:Option Nat) (v:V):Option (V×Nat) :=
 match c with
 | none=>sI σ v
 | some j=>match v with
  | .agg cs=>match cs[j]? with
   | some x=>match sI σ x with
    | some (x',i)=>match cu cs j [x'] with
     | some cs'=>some (.agg cs',i)
     | none=>none
    | none=>none
   | none=>none
  | _=>none
def cellAt (σ:Ob):V->Option (Nat×List V)
 | .ptr i 0 0=>match look σ i with
  | some (.st cs)=>some (i,cs)
  | _=>none
 | _=>none
def isD:V->Bool
 | .d _=>true
 | _=>false
def ghost:Gst->Fr->Ob->Nat->Option (Fr×Ob×Nat)
 | .frz s c,fr,σ,nx=>match isD (cP fr s) with
  | true=>some (fr,σ,nx)
  | false=>match yR σ c (cP fr s) with
   | some (v,i)=>some ((s,v)::fr,fS σ i,nx)
   | none=>none
 | .BK s c,fr,σ,nx=>match cellAt σ (cP fr s) with
  | some (i,cs)=>match cs[c]? with
   | some x=>match isD x with
    | true=>some (fr,σ,nx)
    | false=>match sI σ x with
     | some (x',j)=>match cu cs c [x'] with
      | some cs'=>some (fr,kS (fS σ j) i (some (.st cs')),nx)
      | none=>none
     | none=>none
   | none=>none
  | none=>none
 | .emp s w,fr,σ,nx=>match cP fr s with
  | .d .nil=>some ((s,.arr nx 0 0)::fr,(nx,.da w [])::σ,nx+1)
  | .arr _ _ _=>some (fr,σ,nx)
  | _=>none
 | .sL s c w,fr,σ,nx=>match cellAt σ (cP fr s) with
  | some (i,cs)=>match cs[c]? with
   | some (.d .nil)=>match cu cs c [.arr nx 0 0] with
    | some cs'=>some (fr,(nx,.da w [])::kS σ i (some (.st cs')),nx+1)
    | none=>none
   | some (.arr _ _ _)=>some (fr,σ,nx)
   | _=>none
  | none=>none
 | .imo s c w,fr,σ,nx=>match cellAt σ (cP fr s) with
  | some (i,cs)=>match cs[c]? with
   | some (.d .nil)=>match cu cs c [.d (.imm w [])] with
    | some cs'=>some (fr,kS σ i (some (.st cs')),nx)
    | none=>none
   | some x=>match isD x with
    | true=>some (fr,σ,nx)
    | false=>match sI σ x with
     | some (x',j)=>match cu cs c [x'] with
      | some cs'=>some (fr,kS (fS σ j) i (some (.st cs')),nx)
      | none=>none
     | none=>none
   | none=>none
  | none=>none
 | .fF s c,fr,σ,nx=>match cellAt σ (cP fr s) with
  | some (i,cs)=>match cs[c]? with
   | some (.arr j off len)=>match look σ j with
    | some (.da w rows)=>match cu cs c [.arr nx off len] with
     | some cs'=>some (fr,(nx,.da w rows)::kS (fS σ j) i (some (.st cs')),nx+1)
     | none=>none
    | _=>none
   | _=>none
  | none=>none
def eB (fr:Fr):List Nat->Fr
 | []=>[]
 | d::l=>(d,cP fr d)::eB fr l
def V.ids:V->List Nat
 | .ptr i _ _=>[i]
 | .arr i _ _=>[i]
 | .fn _ caps=>caps.map (·.1)
 | .mp i=>[i]
 | _=>[]
def Di:List V->List Nat
 | []=>[]
 | x::l=>x.ids++Di l
def V.H7:V->List Nat
 | .agg cs=>Di cs
 | x=>x.ids
def O.ids:O->List Nat
 | .st cs=>Di cs
 | .rest _ _ _ _ _ k=>[k]
 | .rst cs _ _ k=>k::Di cs
 | _=>[]
def Dj:Fr->List Nat
 | []=>[]
 | (_,x)::l=>x.H7++Dj l
def BF:Ob->Bool
 | []=>false
 | (_,.va _ _)::_=>true
 | _::l=>BF l
def reach (σ:Ob):Nat->List Nat->List Nat->List Nat
 | 0,_,acc=>acc
 | _+1,[],acc=>acc
 | n+1,i::todo,acc=>bif kh i acc then reach σ n todo acc else reach σ n (todo++(match look σ i with | some x=>x.ids | none=>[])) (acc++[i])
def Dh (i:Nat):Nat->List Nat->Option Nat
 | _,[]=>none
 | k,j::l=>bif Nat.beq j i then some k else Dh i (k+1) l
def upto:Nat->List Nat
 | 0=>[]
 | n+1=>upto n++[n]
def mvI (l:List Nat) (i:Nat):Option Nat:=Dh i 0 l
def uG (l:List Nat):List (Nat×Nat×Nat)->Option (List (Nat×Nat×Nat))
 | []=>some []
 | p::ps=>match mvI l p.1,uG l ps with
  | some i,some ps=>some ((i,p.2.1,p.2.2)::ps)
  | _,_=>none
def V.mv (l:List Nat):V->Option V
 | .ptr i r o=>match mvI l i with | some i=>some (.ptr i r o) | none=>none
 | .arr i o n=>match mvI l i with | some i=>some (.arr i o n) | none=>none
 | .fn f caps=>match uG l caps with | some c=>some (.fn f c) | none=>none
 | .mp i=>match mvI l i with | some i=>some (.mp i) | none=>none
 | x=>some x
def mvL (l:List Nat):List V->Option (List V)
 | []=>some []
 | x::xs=>match x.mv l,mvL l xs with
  | some x,some xs=>some (x::xs)
  | _,_=>none
def V.mvW (l:List Nat):V->Option V
 | .agg cs=>match mvL l cs with | some cs=>some (.agg cs) | none=>none
 | .tup _=>some .un
 | x=>x.mv l
def mvF (l:List Nat):Fr->Option Fr
 | []=>some []
 | (d,x)::fr=>match x.mvW l,mvF l fr with
  | some x,some fr=>some ((d,x)::fr)
  | _,_=>none
def mvR (l:List Nat):List (List V)->Option (List (List V))
 | []=>some []
 | x::xs=>match mvL l x,mvR l xs with
  | some x,some xs=>some (x::xs)
  | _,_=>none
def O.mv (l:List Nat):O->Option O
 | .st cs=>match mvL l cs with | some cs=>some (.st cs) | none=>none
 | .da w rows=>some (.da w rows)
 | .mp es=>some (.mp es)
 | .va w rows=>match mvR l rows with | some rows=>some (.va w rows) | none=>none
 | .oa w rows=>some (.oa w rows)
 | .rest w rows r o n k=>match mvI l k with | some k=>some (.rest w rows r o n k) | none=>none
 | .rst cs o n k=>match mvL l cs,mvI l k with | some cs,some k=>some (.rst cs o n k) | _,_=>none
def mvO (σ:Ob) (l:List Nat):Nat->List Nat->Option Ob
 | _,[]=>some []
 | k,i::is=>match look σ i with
  | none=>mvO σ l (k+1) is
  | some x=>match x.mv l,mvO σ l (k+1) is with
   | some x,some σ'=>some ((k,x)::σ')
   | _,_=>none
def CT:Nat->Nat->List Nat->Bool
 | 0,_,_=>true
 | n+1,k,j::l=>bif Nat.beq j k then CT n (k+1) l else false
 | _+1,_,[]=>false
def fU (m:Nat) (l:List Nat) (fr:Fr) (σ:Ob):Option (Fr×Ob×Nat) :=
 match CT m 0 l,kG l,mvF l fr,mvO σ l 0 l with
 | true,true,some fr',some σ'=>some (fr',σ',l.length)
 | _,_,_,_=>none
def canon (m:Nat) (cA:List Nat) (fr:Fr) (σ:Ob) (nx:Nat):Option (Fr×Ob×Nat) :=
 match BF σ with
 | true=>some (eB fr cA,σ,nx)
 | false=>fU m (reach σ 1000 (upto m++Dj (eB fr cA)) []) (eB fr cA) σ
def rp (m:Nat) (body:Fr->Ob->Nat->(Ex->Fr->Ob->Nat->Prop)->Prop) (cA:List Nat) (K:Ex->Fr->Ob->Nat->Prop) (I:Fr->Ob->Nat->Prop) (fr:Fr) (σ:Ob) (nx:Nat):Prop :=
 match canon m cA fr σ nx with
 | some (fr,σ,nx)=>body fr σ nx fun x fr σ nx=>match x with
  | .normal=>I fr σ nx
  | x=>K x fr σ nx
 | none=>False
def ub (m:Nat) (body:Fr->Ob->Nat->(Ex->Fr->Ob->Nat->Prop)->Prop) (cA:List Nat) (K:Ex->Fr->Ob->Nat->Prop) (fr:Fr) (σ:Ob) (nx:Nat):Prop :=
 ∀ I:Fr->Ob->Nat->Prop,(∀ fr σ nx,rp m body cA K I fr σ nx->I fr σ nx)->I fr σ nx
def wpL (C:Ctx) (m:Nat):L->Fr->Ob->Nat->(Ex->Fr->Ob->Nat->Prop)->Prop
 | .skip,fr,σ,nx,K=>K .normal fr σ nx
 | .reg ops,fr,σ,nx,K=>dt C ops .off fr σ nx (K .normal)
 | .wZ ops,fr,σ,nx,K=>dt C ops (.on []) fr σ nx (K .normal)
 | .seq a b,fr,σ,nx,K=>wpL C m a fr σ nx fun x fr σ nx=>match x with
  | .normal=>wpL C m b fr σ nx K
  | x=>K x fr σ nx
 | .ite c x y,fr,σ,nx,K =>
  match gdc fr (match c with | .t s=>some (s,true) | .k _=>none) with
  | .yes=>wpL C m x fr σ nx K
  | .no=>wpL C m y fr σ nx K
  | .ask s b _=>(b=true->wpL C m x ((s,.tt)::fr) σ nx K)/\(b=false->wpL C m y ((s,.ff)::fr) σ nx K)
  | .bad=>False
 | .blk id b,fr,σ,nx,K=>wpL C m b fr σ nx fun x fr σ nx=>match x with
  | .exit j=>bif Nat.beq j id then K .normal fr σ nx else K (.exit j) fr σ nx
  | x=>K x fr σ nx
 | .loop cA b,fr,σ,nx,K=>ub m (wpL C m b) cA K fr σ nx
 | .exit id,fr,σ,nx,K=>K (.exit id) fr σ nx
 | .ret,fr,σ,nx,K=>K .ret fr σ nx
 | .gop dst op,fr,σ,nx,K=>dt C [⟨dst,none,op,[]⟩] .off fr σ nx (K .normal)
 | .gh g,fr,σ,nx,K=>match ghost g fr σ nx with
  | some (fr,σ,nx)=>K .normal fr σ nx
  | none=>False
 | .cut cA,fr,σ,nx,K=>match canon m cA fr σ nx with
  | some (fr,σ,nx)=>K .normal fr σ nx
  | none=>False
theorem vw {C:Ctx} {σ:Ob} {nx:Nat} {K K':Eff->Prop} (h:∀ e,K e->K' e) (r:R) (hr:wpR C σ nx K r):wpR C σ nx K' r:=by
 cases r with
 | ok e=>exact h _ hr
 | dR p e=>exact ⟨hr.1,h _ hr.2⟩
 | exD p rows n f=>obtain ⟨hp,row,e,h1,h2,h3⟩:=hr;exact ⟨hp,row,e,h1,h2,h _ h3⟩
 | exV p rows n f=>obtain ⟨hp,row,e,h1,h2,h3⟩:=hr;exact ⟨hp,row,e,h1,h2,h _ h3⟩
 | exB s k=>obtain ⟨hp,b,h1,h2⟩:=hr;exact ⟨hp,b,h1,h _ h2⟩
 | split b x y=>exact ⟨fun hb=>h _ (hr.1 hb),fun hb=>h _ (hr.2 hb)⟩
 | call f xs=>obtain ⟨e,h1,h2⟩:=hr;exact ⟨e,h1,h _ h2⟩
 | bad=>exact hr
theorem iU {C:Ctx} {K K':Fr->Ob->Nat->Prop} (h:∀ fr σ nx,K fr σ nx->K' fr σ nx):∀ (l:List Ir) (tr:Trc) (fr:Fr) (σ:Ob) (nx:Nat),dt C l tr fr σ nx K->dt C l tr fr σ nx K'
 | [],tr,fr,σ,nx,hk=>xy (h _ _ _) hk
 | o::l,tr,fr,σ,nx,hk=>by
  have ih:=iU (C:=C) h l;simp only [dt] at hk ⊢;cases hg:gd fr o.g with
  | yes=>simp only [hg] at hk ⊢;exact vw (fun e he=>ih _ _ _ _ he) _ hk
  | no=>simp only [hg] at hk ⊢;exact ih _ _ _ _ hk
  | ask s b w=>simp only [hg] at hk ⊢;exact ⟨fun hb=>vw (fun e he=>ih _ _ _ _ he) _ (hk.1 hb),fun hb=>ih _ _ _ _ (hk.2 hb)⟩
  | bad=>simp only [hg] at hk
theorem rn {m:Nat} {body:Fr->Ob->Nat->(Ex->Fr->Ob->Nat->Prop)->Prop} {cA:List Nat} {K K':Ex->Fr->Ob->Nat->Prop} {I I':Fr->Ob->Nat->Prop}
  (hb:∀ fr σ nx (K K':Ex->Fr->Ob->Nat->Prop),(∀ x fr σ nx,K x fr σ nx->K' x fr σ nx)->body fr σ nx K->body fr σ nx K') (h:∀ x fr σ nx,K x fr σ nx->K' x fr σ nx) (hI:∀ fr σ nx,I fr σ nx->I' fr σ nx) (fr:Fr) (σ:Ob) (nx:Nat)
  (hs:rp m body cA K I fr σ nx):rp m body cA K' I' fr σ nx:=by
 unfold rp at hs ⊢
 grind
theorem fh {C:Ctx} {m:Nat}:∀ (c:L) {K K':Ex->Fr->Ob->Nat->Prop},(∀ x fr σ nx,K x fr σ nx->K' x fr σ nx)->∀ (fr:Fr) (σ:Ob) (nx:Nat),wpL C m c fr σ nx K->wpL C m c fr σ nx K'
 | .skip,K,K',h,fr,σ,nx,hk=>h _ _ _ _ hk
 | .reg ops,K,K',h,fr,σ,nx,hk=>iU (h _) _ _ _ _ _ hk
 | .wZ ops,K,K',h,fr,σ,nx,hk=>iU (h _) _ _ _ _ _ hk
 | .seq a b,K,K',h,fr,σ,nx,hk=>fh a (by
   intro x fr σ nx hx;cases x with
   | normal=>exact fh b h _ _ _ hx
   | exit id=>exact h _ _ _ _ hx
   | ret=>exact h _ _ _ _ hx) fr σ nx hk
 | .ite c x y,K,K',h,fr,σ,nx,hk=>by
  simp only [wpL] at hk ⊢;split
  ·rename_i hg;simp only [hg] at hk;exact fh x h _ _ _ hk
  ·rename_i hg;simp only [hg] at hk;exact fh y h _ _ _ hk
  ·rename_i hg;simp only [hg] at hk;exact ⟨fun hb=>fh x h _ _ _ (hk.1 hb),fun hb=>fh y h _ _ _ (hk.2 hb)⟩
  ·simp_all
 | .blk id b,K,K',h,fr,σ,nx,hk=>fh b (by
   intro x fr σ nx hx;cases x with
   | normal=>exact h _ _ _ _ hx
   | exit j =>
    grind
   | ret=>exact h _ _ _ _ hx) fr σ nx hk
 | .loop cA b,K,K',h,fr,σ,nx,hk=>fun I hI=>hk I fun fr σ nx hs=>hI _ _ _ (rn (fun fr σ nx K K' hkk=>fh b hkk fr σ nx) h (fun _ _ _ x=>x) _ _ _ hs)
 | .exit id,K,K',h,fr,σ,nx,hk=>h _ _ _ _ hk
 | .ret,K,K',h,fr,σ,nx,hk=>h _ _ _ _ hk
 | .cut cA,K,K',h,fr,σ,nx,hk=>by
  simp only [wpL] at hk ⊢
  grind
 | .gop dst op,K,K',h,fr,σ,nx,hk=>iU (h _) _ _ _ _ _ hk
 | .gh g,K,K',h,fr,σ,nx,hk=>by
  simp only [wpL] at hk ⊢
  grind
theorem ub.fold {C:Ctx} {m:Nat} {b:L} {cA:List Nat} {K:Ex->Fr->Ob->Nat->Prop} {fr:Fr} {σ:Ob} {nx:Nat} (h:rp m (wpL C m b) cA K (ub m (wpL C m b) cA K) fr σ nx):ub m (wpL C m b) cA K fr σ nx :=
 fun I hI=>hI _ _ _ (rn (fun fr σ nx K K' hkk=>fh b hkk fr σ nx) (fun _ _ _ _ x=>x) (fun fr σ nx hl=>hl I hI) _ _ _ h)
end Go.Proofs.YtggoiofammbchaaGreatDoor.Loc
