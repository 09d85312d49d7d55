/- Part 27 of a chain that ends in the statement named in GOCLAIM.json; no condition. -/
import Derived.Test.YtggoiofammbchaaGreatDoorK26
set_option maxRecDepth 100000
set_option maxHeartbeats 2000000
set_option linter.all false
namespace Go.Proofs.YtggoiofammbchaaGreatDoor.Loc
open Go
variable {C:Ctx} {F:Fz} {args:List V} {f:FuncId} {os:List O} {rows:List (List D)} {x:Value}
theorem Fn.kept {v:V} (hc:km C.P f)
  (h:∀ e F w xs,Rel C e F (fun i=>os[i]?) w->cK (b6 e F) args xs->Calls C.P f xs.toArray w fun en w'=>∃ x,en= .returned x/\b6 e F v x/\RowKit.Below w.heap.size w w') :
  Fn C f args os v (os.map some):=by
 have e1:(fun (i:Nat)=>((os.map some)[i]?).join)=fun i=>os[i]?:=by
  funext i
  rw [bf];cases os[i]?<;>rfl
 unfold Fn;rw [e1];exact ⟨hc,fun e F w xs hR _ ha=>(h e F w xs hR ha).mono fun en w' ⟨x,h1,h2,h3⟩=>⟨e,F,x,h1,h2,hR.grow (b9.iu h3),fun _ _ _ h=>h,fun _ _ _ h=>h,b9.iu h3,fun _ _ h=> .inl h,fun _ _ u h=> .inl ⟨u,h⟩⟩⟩
theorem kE {s:List UInt8} (h:bj F (.str s) x):x= .string ⟨s.toArray⟩:=by
 cases h;rfl
theorem wY {k:IntKind} {n:Int} (h:bj F (.int k n) x):x= .int k n:=by
 cases h;rfl
theorem mC (s:List UInt8):bj F (.str s) (.string ⟨s.toArray⟩):=bj.str ⟨s.toArray⟩
theorem yN (c:UInt8):∀ s:List UInt8,Lib.indexByte s c=sC c s
 | []=>rfl
 | b::l=>by
  have ih:=yN c l;unfold Lib.indexByte sC;rw [List.findIdx?_cons,ih];unfold sC;by_cases h:(b == c)=true
  ·rw [aj h,aj h];rfl
  ·rw [ab h,ab h];cases l.findIdx? (· == c) with
   | none=>rfl
   | some i =>
    simp only [aS];have:¬ ((i:Int) == -1)=true:=by simp
    rw [ab this];simp
theorem Fn.fresh {wd:Nat} (t:TypeId) (hc:km C.P f) (h0:∀ row∈rows,row.length=wd)
  (h:∀ e F w xs,Rel C e F (fun i=>os[i]?) w->cK (b6 e F) args xs->Calls C.P f xs.toArray w fun en w'=>∃ x news,en= .returned x/\w'.ownsRow w.heap.size t wd x rows.length news /\
   (∀ (i j:Nat) d,(rows[i]?.bind (·[j]?))=some d->∃ u,news[i * wd+j]?=some u/\bj F d u)/\RowKit.Below w.heap.size w w') :
  Fn C f args os (.d (.imm wd rows)) (os.map some):=by
 have e1:(fun (i:Nat)=>((os.map some)[i]?).join)=fun i=>os[i]?:=by
  funext i
  rw [bf];cases os[i]?<;>rfl
 unfold Fn;rw [e1];refine ⟨hc,fun e F w xs hR _ ha=>(h e F w xs hR ha).mono ?_⟩;rintro en w' ⟨x,news,h1,⟨hl,hv⟩,h2,h3⟩
 have hg:=hR.grow (b9.iu h3);rcases hv with ⟨rfl,hn⟩ | ⟨g,cap,cur,rfl,hb,hh,hcap,_,hsz,htk⟩
 ·have:rows=[]:=List.eq_nil_of_length_eq_zero hn;subst this;exact ⟨e,F,_,h1,bj.wG wd none 0,hg,fun _ _ _ h=>h,fun _ _ _ h=>h,b9.iu h3,fun _ _ h=> .inl h,fun _ _ u h=> .inl ⟨u,h⟩⟩
 ·have hcell:∀ o u,news[o]?=some u->w'.cell? ⟨g,o,none⟩=some u:=by
   intro o u hu;rw [<- htk,List.getElem?_take] at hu;split at hu
   ·simp only [World.cell?,hh];simpa using hu
   ·cases hu
  have hle:Fz.le F ⟨fun b o=>if b=g then news[o]? else F.f b o,F.H⟩:=by
   intro b o u hu;have:=hR.n5 hu;show (if b=g then news[o]? else F.f b o)=some u;rw [ab (by omega)];exact hu
  have hnew:∀ b o u,(if b=g then news[o]? else F.f b o)=some u->b=g/\news[o]?=some u\/F b o=some u:=by
   intro b o u hu;split at hu
   ·exact .inl ⟨by assumption,hu⟩
   ·exact .inr hu
  refine ⟨e,⟨fun b o=>if b=g then news[o]? else F.f b o,F.H⟩,_,h1,?_,hg.freeze hle rfl (fun _ _ h=>h) ?_ ?_,fun _ _ _ h=>h,hle,b9.iu h3,fun b o ho=> .inl ho,?_⟩
  ·show bj _ _ _;cases hrw:rows with
   | nil=>rw [hrw] at hl;exact bj.wG wd _ cap
   | cons a l =>
    rw [<- hrw];refine bj.imm wd rows g 0 cap (fun i j=>(news[i * wd+j]?).getD undef) hcap h0 ?_ ?_
    ·intro i j d hd;obtain ⟨u,hu,_⟩:=h2 i j d hd;show (if g=g then news[0+i * wd+j]? else _)=_;rw [aj rfl,aW,hu];rfl
    ·intro i j d hd;obtain ⟨u,hu,hx⟩:=h2 i j d hd;rw [hu];exact hx.mono hle
  ·intro b o u hu;rcases hnew b o u hu with ⟨rfl,h⟩ | h
   ·exact hcell o u h
   ·exact hg.fz b o u h
  ·intro b o u hu ho;rcases hnew b o u hu with ⟨rfl,h⟩ | h
   ·have:=hR.jL ho;omega
   ·exact hR.dJ b o u h ho
  ·intro b o u hu;rcases hnew b o u hu with ⟨rfl,h⟩ | h
   ·exact .inr (.inr hb)
   ·exact .inl ⟨u,h⟩
theorem BQ {w:Nat} (h:bj F (.imm w rows) x):(rows=[]/\∃ a cap,x= .slice a 0 cap) \/
  ∃ b o cap,x= .slice (some ⟨b,o,none⟩) rows.length cap/\rows.length<=cap/\∀ (i j:Nat) d,(rows[i]?.bind (·[j]?))=some d->∃ u,F b (o+i * w+j)=some u/\bj F d u:=by
 cases h with
 | wG _ a cap=>exact .inl ⟨rfl,a,cap,rfl⟩
 | imm _ _ b o cap f hc h0 h1 h2=>exact .inr ⟨b,o,cap,rfl,hc,fun i j d hd=>⟨_,h1 i j d hd,h2 i j d hd⟩⟩
theorem rY (hP:C.P=Tryz.prog) {e:Emb} {g:Sto} {w:World} (hR:Rel C e F g w) (l:List (List UInt8)) (hl:l.length<=1073741824) (hx:bj F (strs l) x) :
  Calls Tryz.prog 209 #[x] w fun en w'=>∃ v',en= .returned v'/\w'.ownsRow w.heap.size 9 1 v' l.length (l.map fun s=>Value.string ⟨s.toArray⟩)/\RowKit.Below w.heap.size w w':=by
 rcases BQ hx with ⟨he,a,cap,rfl⟩ | ⟨b,o,cap,rfl,hc,hcells⟩
 ·have:l=[]:=by simpa using he
  subst this;cases a with
  | none =>
   refine (Tryz.slices_Clone_string_nil 0 cap w).mono ?_;rintro en w' ⟨rfl,rfl⟩
   exact ⟨_,rfl,⟨rfl,.inl ⟨rfl,rfl⟩⟩,RowKit.Below.refl _ _⟩
  | some a =>
   refine (Tryz.slices_Clone_string_zero a cap w).mono ?_;rintro en w' ⟨v',rfl,h1,_,h2⟩
   exact ⟨v',rfl,h1,h2⟩
 ·have:=Tryz.slices_Clone_string b o l.length cap (l.map fun s=>⟨s.toArray⟩) w (by simp) (by omega) (by
   intro j hj;rw [aJ] at hj;obtain ⟨u,h1,h2⟩:=hcells j 0 (.str l[j]) (by simp [aa hj]);have h3:=hR.fz _ _ _ h1;rw [kE h2] at h3;rw [show o+j=o+j * 1+0 by omega,h3];simp [hj])
  rw [aJ];refine this.mono ?_;rintro en w' ⟨v',rfl,h1,_,h2⟩
  refine ⟨v',rfl,?_,h2⟩;rw [ae (by simp),List.map_map] at h1;exact h1
def kf:Go.Shelf.Ren:=⟨fun | 41=>215 | n=>n,fun | 22=>132 | 23=>81 | 4=>4 | n=>n,fun | n=>n⟩
theorem uP:Go.Proofs.SlLaysE0.n41 Tryz.prog kf:={
 mixed:=by kernel_rfl
 f41:=⟨Tryz.f215.name,by decide,Tryz.func215.trans (congrArg some (by kernel_rfl))⟩
 t4:=Tryz.underlying4
 a4:=Tryz.isAgg4
 z4:=Tryz.sizeOf4
 v4:=Tryz.zeroValue4
 t22:=Tryz.underlying132
 a22:=Tryz.isAgg132
 z22:=Tryz.sizeOf132
 v22:=Tryz.zeroValue132}
theorem BE:(Tryz.prog.info? 81).map (fun i=>(i.zero,i.size,i.bytes))=some (some (Value.agg #[Value.int IntKind.i64 0,Value.int IntKind.i64 0,Value.string {data:=#[]}]),3,32):=by kernel_rfl
open Go.RowKit Go.Shelf in
theorem Ch (a:Addr) (c:Nat) (w:World):Calls Tryz.prog 215 #[.slice (some a) 0 c] w fun e w'=>∃ v',e= .returned v'/\w'.ownsRow w.heap.size 81 3 v' 0 []/\Below w.heap.size w w':=by
 have L:=uP;obtain ⟨i0,hi,hz0,hz1,hz2⟩:=info_parts BE;have mixed:=L.mixed;have t4:=L.t4;have a4:=L.a4;have z4:=L.z4;have v4:=L.v4;have t22:=L.t22;have a22:=L.a22;have z22:=L.z22;have v22:=L.v22;have q22:∀ (w:World) (a:Option Addr) (n c n' c':Nat),(binOp .eql (kf.t 22) (.slice a n c) (.slice none n' c')).run Tryz.prog w= .ok (.bool a.isNone) w:=fun w a n c n' c'=>Lib.run_eql_slice_nil w _ _ a n c n' c' L.t22
 have u22:∀ w,Sem.run Tryz.prog (underlying (kf.t 22)) w= .ok (TypeDesc.slice (kf.t 23)) w:=run_underlying t22;obtain ⟨_,_,FG⟩:=L.f41
 go_enter FG,SlBodyN.n41_ntmps kf
 replace hi:Tryz.prog.info? (kf.t 23)=some i0:=hi;generalize hz:(Value.agg #[Value.int IntKind.i64 0,Value.int IntKind.i64 0,Value.string {data:=#[]}])=z at hz0;have hzs:z.cells.size=3:=by rw [<- hz];rfl
 have hsz:0 < 3:=by decide
 have z23:∀ w,(Go.sizeOf (kf.t 23)).run Tryz.prog w= .ok 3 w:=Tryz.sizeOf81
 go_wp2_with (at_builtin;refine wpList_append_own _ rfl _ _ (kf.t 22) rfl w.heap.size (kf.t 23) i0 z 3 32 t22 hi hz0 hz1 hz2 hzs hsz _ _ _ rfl (World.ownsRow_made w #[] 0 (al _) (Nat.zero_le _) (by simp)) a 0 c [] rfl ?qc1 ?qc2 ?qc3 ?qc4 ?qc5 ?qc6 ?_)
 case qc1=>rfl
 case qc2 =>
  intro j u hj;simp at hj
 case qc3=>intro u hu;cases hu
 case qc4=>simp
 case qc5=>simp
 case qc6=>simp
 intro v' w1 hown hgrow hnil
 go_wp2
 go_ret
 have hown':w1.ownsRow w.heap.size (kf.t 23) 3 v' 0 []:=by simpa using hown
 have hown:w1.ownsRow w.heap.size 81 3 v' 0 []:=hown';exact ⟨v',rfl,hown,((Below.refl _ w).alloc (al _) _).grown hgrow (by simp) (by intro k hk;simp [Value.ownBlock] at hk;omega)⟩
theorem ru {α:Type} {n:Nat}:∀ (rows:List (List α)),(∀ row∈rows,row.length=n)->∀ i j:Nat,j < n->(rows.flatten)[i * n+j]?=rows[i]?.bind (·[j]?)
 | [],_,i,j,_=>by simp
 | row::l,h,i,j,hj=>by
  have h1:row.length=n:=h row (by simp);cases i with
  | zero=>rw [List.flatten_cons,bU (by omega)];simp
  | succ i =>
   rw [List.flatten_cons,cx (by rw [h1,Nat.succ_mul];omega),h1,show (i+1) * n+j - n=i * n+j by rw [Nat.succ_mul];omega,ru l (fun r hr=>h r (by simp [hr])) i j hj];simp
section
variable {C:Ctx} (hP:C.P=Tryz.prog) (hG:∀ w,C.G w->Gl w)
include hP
theorem GZ (s:List UInt8) (c:UInt8):Fn C 259 [.d (.str s),.d (.int .u8 c.toNat)] [] (.d (.int .i64 (sC c s))) []:=by
 refine Fn.kept (os:=[]) ⟨_,_,hP▸Tryz.func259,by kernel_rfl,rfl⟩ fun e F w xs hR ha=>?_
 rcases ha with _ | ⟨h1,_ | ⟨h2,_ | _⟩⟩
 rw [kE h1,wY h2,hP];refine (Tryz.strings_IndexByte _ _ w).mono ?_;rintro en w' ⟨rfl,rfl⟩
 refine ⟨_,rfl,?_,RowKit.Below.refl _ _⟩;have e1:Lib.indexByte s ((c.toNat:Int).toNat.toUInt8)=sC c s:=by rw [yN];simp
 show bj F _ _;rw [show (Lib.indexByte (ByteArray.mk s.toArray).data.toList ((c.toNat:Int).toNat.toUInt8))=Lib.indexByte s ((c.toNat:Int).toNat.toUInt8) from rfl,e1];exact .int _ _
include hG
theorem s67 (n:Int) (h0 : -9223372036854775808<=n) (h1:n<=9223372036854775807):Fn C 67 [.d (.int .i64 n)] [] (.d (.str (Lib.itoa n))) []:=by
 refine Fn.kept (os:=[]) ⟨_,_,hP▸Tryz.func67,by kernel_rfl,rfl⟩ fun e F w xs hR ha=>?_
 rcases ha with _ | ⟨h1',_ | _⟩
 rw [wY h1',hP];refine (Tryz.strconv_Itoa n h0 h1 w (hG w hR.np).tab).mono ?_;rintro en w' ⟨rfl,k,os,rfl⟩
 exact ⟨_,rfl,mC _,⟨rfl,rfl,rfl,by show w.heap.size<=(w.heap++os).size;rw [Array.size_append];omega,fun j hj=>Array.getElem?_append_left hj⟩⟩
theorem G0 (t:List UInt8) (ht:t.length<=281474976710656):∃ n,Fn C 257 [.d (.str t)] [] (.tup [.d (.int .i64 n),.d (.bool (dD t))]) []/\(dD t=true->n=jt t):=by
 obtain ⟨h1,h2⟩:=CW t;refine ⟨_,Fn.kept (os:=[]) ⟨_,_,hP▸Tryz.func257,by kernel_rfl,rfl⟩ fun e F w xs hR ha=>?_,h2⟩;rcases ha with _ | ⟨h3,_ | _⟩
 rw [kE h3,hP];refine (uB ⟨t.toArray⟩ (by simpa [ByteArray.size] using ht) w (hG w hR.np)).mono ?_;rintro en w' ⟨rfl,hb⟩
 refine ⟨_,rfl,⟨[.int .i64 (mJ ⟨t.toArray⟩).1,.bool (dD t)],by rw [h1],.cons (bj.int _ _) (.cons (bj.bool _) .nil)⟩,hb⟩
omit hG
theorem G5 (l:List (List UInt8)) (hl:l.length<=1073741824):Fn C 209 [.d (strs l)] [] (.d (strs l)) []:=by
 refine Fn.fresh (os:=[]) 9 ⟨_,_,hP▸Tryz.func209,by kernel_rfl,rfl⟩ (by simp) fun e F w xs hR ha=>?_
 rcases ha with _ | ⟨h1,_ | _⟩
 rw [hP,aJ];refine (rY hP hR l hl h1).mono ?_;rintro en w' ⟨v',rfl,h2,h3⟩
 refine ⟨v',_,rfl,h2,?_,h3⟩;intro i j d hd;by_cases hi:i < l.length
 ·simp only [bf,aa hi,aS,bQ] at hd;cases j with
  | zero =>
   obtain rfl:D.str l[i]=d:=by simpa using hd
   refine ⟨_,?_,mC l[i]⟩;simp [aa hi]
  | succ j=>simp at hd
 ·simp [bF (Nat.le_of_not_lt hi)] at hd
theorem Fu (l:List (List UInt8)) (hl:l.length<=1073741824):Fn C 209 [.d (strs l)] [] (.arr 0 0 l.length) [some (.da 1 (bd l))]:=by
 refine ⟨⟨_,_,hP▸Tryz.func209,by kernel_rfl,rfl⟩,fun e F w xs hR he ha=>?_⟩;rcases ha with _ | ⟨h1,_ | _⟩
 rw [hP];refine (rY hP hR l hl h1).mono ?_;rintro en w' ⟨x,rfl,⟨_,hv⟩,h3⟩
 have hng:=hR.ng;have hsz:=h3.size;have e0:∀ i,e i=none:=fun i=>he i (Nat.zero_le i)
 obtain ⟨W',q1,q2,q3,q4,q5,q6,a,cap,rfl,q7,q8⟩:∃ W':Win,w.heap.size<=W'.b/\W'.base=0/\W'.wd=1/\W'.n=l.length/\(∀ k,k < W'.cap->(w'.cell? ⟨W'.b,k,none⟩).isSome=true/\w'.frozen? ⟨W'.b,k,none⟩=false) /\
   (∀ i (h:i < l.length),i < W'.cap/\w'.cell? ⟨W'.b,i,none⟩=some (.string ⟨l[i].toArray⟩))/\∃ a cap,x= .slice a l.length cap/\l.length<=cap/\(cap=0\/(a=some ⟨W'.b,0,none⟩/\cap<=W'.cap)):=by
  rcases hv with ⟨rfl,hn⟩ | ⟨g,cap,cur,rfl,hb,hh,hcap,_,hcs,htk⟩
  ·exact ⟨⟨w.heap.size,0,0,1,l.length⟩,al _,rfl,rfl,rfl,fun k hk=>absurd hk (Nat.not_lt_zero k),fun i h=>absurd h (by omega),none,0,by rw [hn],by omega,.inl rfl⟩
  ·refine ⟨⟨g,0,cap,1,l.length⟩,hb,rfl,rfl,rfl,?_,?_,_,cap,rfl,hcap,.inr ⟨rfl,al _⟩⟩
   ·intro k hk;have hk:k < cap:=hk;refine ⟨?_,?_⟩
    ·simp only [World.cell?,hh];simp [show k < cur.size by omega]
    ·simp only [World.frozen?,hh];simp
   ·intro i hi;refine ⟨show i < cap by omega,?_⟩;have hj:(l.map fun s=>Value.string ⟨s.toArray⟩)[i]?=some (.string ⟨l[i].toArray⟩):=by simp [aa hi]
    rw [<- htk,List.getElem?_take,aj (by omega)] at hj;simp only [World.cell?,hh];simpa using hj
 have eg:∀ i x,(fun (i:Nat)=>([some (O.da 1 (bd l))][i]?).join) i=some x->i=0/\x= .da 1 (bd l):=by
  intro i x h;cases i with
  | zero=>exact ⟨rfl,by simpa using h.symm⟩
  | succ i=>simp at h
 have hrow:∀ r k c,(O.da 1 (bd l)).cell r k=some c->k=0/\∃ h:r < l.length,c= .d (.str l[r]):=by
  intro r k c h;simp only [O.cell,bd,bf] at h;by_cases hr:r < l.length
  ·rw [aa hr] at h;cases k with
   | zero=>exact ⟨rfl,hr,by simpa using h.symm⟩
   | succ k=>simp at h
  ·rw [bF (Nat.le_of_not_lt hr)] at h;simp at h
 have hR':=hR.put (e':=fun i=>if i=0 then some W' else e i) (g':=fun (i:Nat)=>([some (O.da 1 (bd l))][i]?).join) (S:=fun _ _=>False) (S':=fun _ _=>False) (j:=0) (x':= .da 1 (bd l)) (W':=W') (b9.iu h3) (fun _ _ _ h=>h) rfl rfl
  (fun i W h=>by rw [e0 i] at h;cases h) (fun i x hi hg=>absurd (eg i x hg).1 hi) (fun _ _ h=>h.elim) (fun _ _ _ h=>h.elim) (by omega)
  (fun r k c hc=>by
   obtain ⟨rfl,hr,rfl⟩:=hrow r k c hc;have:=(q6 r hr).1;rw [q3];omega)
  (fun r k c hc _=>by
   obtain ⟨rfl,hr,rfl⟩:=hrow r k c hc;rw [q2,q3,show 0+r * 1+0=r by omega];exact ⟨_,(q6 r hr).2,mC _⟩)
  (fun k hk=>by rw [q2,aW];exact q5 k hk)
  (fun v rows hx=>by
   cases hx;exact ⟨q3.symm,by rw [q4];simp [bd],by simp [bd]⟩)
  (fun _ _ h=>by cases h) (fun _ _ h=>by cases h) (fun i x W hi hg=>absurd (eg i x hg).1 hi)
  (fun b o u hu h=>by
   rcases h with ⟨_,h,_⟩ | h
   ·have:=hR.n5 hu;omega
   ·exact h)
  rfl (fun _ _ h=>h.elim) (Hid.none rfl fun r j dp wd rows hc=>by obtain ⟨_,_,hc⟩:=hrow r j _ hc;cases hc) (fun _ _ h=>h.elim) (fun _ _ h=>h.elim)
 refine ⟨_,_,_,rfl,⟨W',a,cap,rfl,rfl,by omega,q7,?_⟩,hR',fun i W h=>absurd h (Nat.not_lt_zero i),fX _ _ _,b9.iu h3,?_,fun b o u hu=> .inl ⟨u,hu⟩⟩
 ·simp only [q2,q3,Nat.zero_mul,Nat.mul_one,aW];exact q8
 ·rintro b o ⟨i,x,W,hg,hW,ho⟩
  obtain ⟨rfl,rfl⟩:=eg i x hg;rcases ho with ⟨_,ho,_⟩ | ho
  ·obtain rfl:W'=W:=by simpa using hW
   exact .inr (by omega)
  ·rw [er] at ho;exact ho.elim
theorem G3 (rows:List (List D)) (off n:Nat) (hl:off+n<=rows.length) (hn:n<=1073741824):Fn C 215 [.arr 0 off n] [.da 3 rows] (.d (.imm 3 ((rows.drop off).take n))) [some (.da 3 rows)]:=by
 by_cases hw:∀ row∈rows,row.length=3
 ·refine Fn.fresh (os:=[.da 3 rows]) 81 ⟨_,_,hP▸Tryz.func215,by kernel_rfl,rfl⟩ (fun row hr=>hw row (br (cw hr))) fun e F w xs hR ha=>?_
  rcases ha with _ | ⟨⟨W,a,cap,hW,rfl,hlen,hcap,hc⟩,_ | _⟩
  have hg:(fun (i:Nat)=>[O.da 3 rows][i]?) 0=some (.da 3 rows):=rfl;obtain ⟨hwd,hwn,_⟩:=hR.wd 0 _ W hg hW 3 rows rfl;have hln:((rows.drop off).take n).length=n:=by rw [bh,bD];omega
  rw [hP,hln];have zero:n=0->∀ v' w',w'.ownsRow w.heap.size 81 3 v' 0 []->RowKit.Below w.heap.size w w'->∃ x news,Ending.returned v'= .returned x/\w'.ownsRow w.heap.size 81 3 x n news /\
    (∀ (i j:Nat) d,(((rows.drop off).take n)[i]?.bind (·[j]?))=some d->∃ u,news[i * 3+j]?=some u/\bj F d u)/\RowKit.Below w.heap.size w w':=by
   rintro rfl v' w' h1 h2
   exact ⟨v',[],rfl,h1,fun i j d hd=>by simp at hd,h2⟩
  by_cases hcap0:cap=0
  ·have hn0:n=0:=by omega
   cases a with
   | none =>
    refine (AnyE.slices_Clone_nil uP n cap w).mono ?_;rintro en w' ⟨rfl,rfl⟩
    exact zero hn0 _ _ ⟨rfl,.inl ⟨rfl,rfl⟩⟩ (RowKit.Below.refl _ _)
   | some a =>
    rw [hn0];refine (Ch a cap w).mono ?_;rintro en w' ⟨v',rfl,h1,h2⟩
    have:=zero hn0 v' w' h1 h2;rw [hn0] at this;exact this
  ·obtain ⟨rfl,hcap2⟩:=hc.resolve_left hcap0;have hcells:∀ (i j:Nat) d,(((rows.drop off).take n)[i]?.bind (·[j]?))=some d->∃ u,w.cell? ⟨W.b,W.base+off * W.wd+(i * 3+j),none⟩=some u/\bj F d u:=by
    intro i j d hd;have hi:i < n:=by
     rcases Nat.lt_or_ge i n with h | h
     ·exact h
     ·rw [bF (by omega)] at hd;cases hd
    rw [List.getElem?_take,aj hi,dF] at hd;obtain ⟨u,h1,h2⟩:=hR.cells 0 _ W hg hW (off+i) j (.d d) (by simp only [O.cell,hd];rfl) (.inl rfl);refine ⟨u,?_,h2⟩;rw [<- h1,<- hwd];congr 2;rw [bK];omega
   have hlen3:∀ row∈(rows.drop off).take n,row.length=3:=fun row hr=>hw row (br (cw hr))
   generalize hrs:(rows.drop off).take n=rs at hcells hlen3 hln ⊢;have hfl:rs.flatten.length=n * 3:=by
    rw [<- hln];clear hcells hrs hln;induction rs with
    | nil=>rfl
    | cons a l ih=>rw [List.flatten_cons,aH,ih (fun r hr=>hlen3 r (by simp [hr])),hlen3 a (by simp),aT,Nat.succ_mul];omega
   have hall:∀ k d,rs.flatten[k]?=some d->∃ u,w.cell? ⟨W.b,W.base+off * W.wd+k,none⟩=some u/\bj F d u:=by
    intro k d hd;have hk:=ru rs hlen3 (k / 3) (k % 3) (Nat.mod_lt _ (by decide));rw [show k / 3 * 3+k % 3=k by omega] at hk;have:=hcells (k / 3) (k % 3) d (hk▸hd)
    rwa [show k / 3 * 3+k % 3=k by omega] at this
   obtain ⟨news,hnl,hnews⟩:∃ news:List Value,news.length=rs.flatten.length/\∀ k d,rs.flatten[k]?=some d->∃ u,news[k]?=some u/\w.cell? ⟨W.b,W.base+off * W.wd+k,none⟩=some u/\bj F d u:=by
    refine ⟨(List.range rs.flatten.length).map fun k=>(w.cell? ⟨W.b,W.base+off * W.wd+k,none⟩).getD undef,by simp,fun k d hd=>?_⟩;obtain ⟨u,h1,h2⟩:=hall k d hd;have hk:k < rs.flatten.length:=(af.1 hd).1;refine ⟨u,?_,h1,h2⟩;rw [bf,List.getElem?_range hk];simp [h1]
   have hnc:∀ (j:Nat) u,news[j]?=some u->w.cell? ⟨W.b,W.base+off * W.wd+j,none⟩=some u/\u.oneCell'=true:=by
    intro j u hu;have hj:j < rs.flatten.length:=hnl▸(af.1 hu).1;obtain ⟨u',h1,h2,h3⟩:=hnews j _ (aa hj);rw [h1] at hu;cases hu;exact ⟨h2,h3.one⟩
   obtain ⟨i0,hi,hz0,hz1,hz2⟩:=info_parts BE;refine (AnyE.slices_Clone uP i0 _ 3 32 hi hz0 hz1 hz2 rfl (by decide) Tryz.sizeOf81 W.b (W.base+off * W.wd) n cap news w (by rw [hnl,hfl]) (by simp only [maxLen];omega) (by omega) (fun j u hu=>(hnc j u hu).1) (fun u hu=>by
    obtain ⟨j,hj⟩:=List.mem_iff_getElem?.1 hu;exact (hnc j u hj).2)).mono ?_
   rintro en w' ⟨v',rfl,h1,_,h2⟩
   refine ⟨v',news,rfl,h1,fun i j d hd=>?_,h2⟩;have hj:j < 3:=by
    cases hri:rs[i]? with
    | none=>rw [hri] at hd;cases hd
    | some row =>
     rw [hri] at hd;have:=(af.1 (show row[j]?=some d from hd)).1;rw [hlen3 row (aP hri)] at this;exact this
   have:=ru rs hlen3 i j hj;obtain ⟨u,g1,_,g3⟩:=hnews (i * 3+j) d (this.trans hd);exact ⟨u,g1,g3⟩
 ·refine ⟨⟨_,_,hP▸Tryz.func215,by kernel_rfl,rfl⟩,fun e F w xs hR _ ha=>?_⟩;rcases ha with _ | ⟨⟨W,a,cap,hW,rfl,hlen,hcap,hc⟩,_ | _⟩
  obtain ⟨hwd,hwn,h3⟩:=hR.wd 0 _ W (show (fun (i:Nat)=>[O.da 3 rows][i]?) 0=some (.da 3 rows) from rfl) hW 3 rows rfl;exact absurd h3 hw
end
end Go.Proofs.YtggoiofammbchaaGreatDoor.Loc
