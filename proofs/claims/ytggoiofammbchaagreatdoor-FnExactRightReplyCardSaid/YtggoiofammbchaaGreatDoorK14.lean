/- Part 14 of a chain that ends in the statement named in GOCLAIM.json; no condition. -/
import Derived.Test.YtggoiofammbchaaGreatDoorK13
set_option maxRecDepth 100000
set_option maxHeartbeats 2000000
set_option linter.all false
namespace Go.Proofs.YtggoiofammbchaaGreatDoor.Loc
open Go
variable {a k:Int} {d p:Nat} {kids:List Int} {l:List Tok} {name t:List UInt8} {ns:List Nd} {s:PI}
def ArL (C:Ctx) (l:List Tok) (d:Nat) (r:cV) (kd pl:Int) (name:List UInt8) (ks:List Int) (s:PI):Prop:=b4 C 2 [(2,none)] (SQ l d r) (Cfg.eF EY.l 0 [(0,.ptr 0 0 0),(2,.d (.int .i64 0)),(3,.ptr 2 0 0),(7,.arr 3 0 ks.length)] [(0,s.aY l 4),(2,.st [.d (.int .i64 kd),.d (.int .i64 pl),.d (.str name)]),(3,.da 1 (ks.map fun k=>[.int .i64 k])),(4,aB s.nodes)] 5)
def FnL (C:Ctx) (l:List Tok) (r:cV) (name:List UInt8) (names:List (List UInt8)) (s:PI):Prop:=b4 C 2 [(2,none)] (SQ l 0 r) (Cfg.eF c84.l 0 [(0,.ptr 0 0 0),(2,.d (.int .i64 0)),(3,.d (.str name)),(4,.arr 2 0 names.length)] [(0,s.aY l 3),(2,.da 1 (names.map fun t=>[.str t])),(3,aB s.nodes)] 4)
def SC (C:Ctx) (l:List Tok) (c:jg) (r:cV):Prop:=match c with
 | .expr d p ns=>FnE C 175 [.ptr 0 0 0] [(s0 p d ns).aY l 1,aB ns] (SQ l d r)
 | .op d k p ns=>match k with
  | 1=>FnE C 230 [.ptr 0 0 0] [(s0 p d ns).aY l 1,aB ns] (SQ l d r)
  | 2=>FnE C 255 [.ptr 0 0 0] [(s0 p d ns).aY l 1,aB ns] (SQ l d r)
  | 3=>FnE C 272 [.ptr 0 0 0] [(s0 p d ns).aY l 1,aB ns] (SQ l d r)
  | 4=>FnE C 281 [.ptr 0 0 0] [(s0 p d ns).aY l 1,aB ns] (SQ l d r)
  | 5=>FnE C 288 [.ptr 0 0 0] [(s0 p d ns).aY l 1,aB ns] (SQ l d r)
  | _=>True
 | .opL d k a p ns=>match k with
  | 0=>∀ d',d=d'+1->OpL C l c175.l d' r a (s0 p d ns)
  | 1=>OpL C l Ai.l d r a (s0 p d ns)
  | 2=>OpL C l xi.l d r a (s0 p d ns)
  | 3=>OpL C l xh.l d r a (s0 p d ns)
  | 4=>OpL C l xg.l d r a (s0 p d ns)
  | _=>True
 | .un d p ns=>FnE C 288 [.ptr 0 0 0] [(s0 p d ns).aY l 1,aB ns] (SQ l d r)
 | .jJ d p ns=>FnE C 295 [.ptr 0 0 0] [(s0 p d ns).aY l 1,aB ns] (SQ l d r)
 | .args d name first kids p ns=>first=kids.isEmpty->∀ kd pl,ArL C l d r kd pl name kids (s0 p d ns)
 | .block d p ns=>FnE C 120 [.ptr 0 0 0] [(s0 p d ns).aY l 1,aB ns] (SQ l d r)
 | .stmts d kids p ns=>KdL C l d r kids (s0 p d ns)
 | .stmt d p ns=>FnE C 85 [.ptr 0 0 0] [(s0 p d ns).aY l 1,aB ns] (SQ l d r)
 | .cd name names p ns=>FnL C l r name names (s0 p 0 ns)
 | .top kids p ns=>True
theorem uni {P:PI->cV->Prop} {F:Nat->List Nd->Option cV} (he:∀ e s,T l d (.error e) s->P s (.error e)) (hok:∀ p ns r,p<=l.length->ns.length<=200->F p ns=some r->P (s0 p d ns) r)
  {ρ:St} {r:cV} (q:T l d ρ s) (h:onS ρ F=some r):P s r:=by
 match ρ,q,h with
 | .error e,q,h=>cases h;exact he e s q
 | .ok (p,ns),q,h =>
  obtain ⟨rfl,h1,h2⟩:=q;exact hok p ns r h1 h2 h
theorem fL (hk:k≠0):isS l p k t=true↔dc l p=k/\cF l p=t:=by
 unfold isS dc cF;cases l[p]? with
 | none=>simp;intro h;exact absurd h.symm hk
 | some x=>simp
section
variable {C:Ctx} (hP:C.P=Tryz.prog)
include hP
section
variable {l:List Tok} (hl:dr l) {n:Nat} (ih:∀ c r,dK l c->mm l n c=some r->SC C l c r)
include hl ih
theorem G2 {r:cV} (hc:dK l (.op d 1 p ns)) (h:mm l (n+1) (.op d 1 p ns)=some r):SC C l (.op d 1 p ns) r:=by
 obtain ⟨h1,h2,h3,h4⟩:=hc;simp only [mm] at h;rw [ab (by decide)] at h;refine eE hP Ai ⟨?_⟩;obtain ⟨r2,g2,h⟩:=ed (ρ:= .ok (p,ns)) (F:=fun p ns=>mm l n (.op d 2 p ns)) h;obtain ⟨v,os',k,x,s',rfl,rfl,q',v'⟩:=ih (.op d 2 p ns) r2 ⟨h1,h2,h3,by omega⟩ g2;refine gC [0,1] k ⟨?_⟩;exact uni (P:=fun s r=>OpL C l Ai.l d r x s) (fun e s q=>DN hP hl q x) (fun p ns r h1 h2 h=>ih (.opL d 1 x p ns) r ⟨h1,h2,h3,by decide⟩ h) q' (h x v')
theorem Ft {r:cV} (hc:dK l (.opL d 1 a p ns)) (h:mm l (n+1) (.opL d 1 a p ns)=some r):SC C l (.opL d 1 a p ns) r:=by
 obtain ⟨h1,h2,h3,h4⟩:=hc;simp only [mm] at h;have hX:=cm hl (t:=[38,38]) (by decide);show OpL C l Ai.l d r a (s0 p d ns);refine gL ⟨?_⟩;by_cases hs:isS l p 5 [38,38]=true
 ·have hs':=(fL (by decide)).1 hs;rw [aj ⟨hs'.1,by rw [hs'.2];decide⟩] at h;refine gC [0,2] (y83 hP hl 5 hX (by decide) hs) ⟨gY ⟨?_⟩⟩;obtain ⟨r2,g2,h⟩:=ed (ρ:= .ok (p+1,ns)) (F:=fun p ns=>mm l n (.op d 2 p ns)) h;obtain ⟨v,os',k,x,s',rfl,rfl,q',v'⟩:=ih (.op d 2 (p+1) ns) r2 ⟨bg hs,h2,h3,by omega⟩ g2;refine gC [0,2] k ⟨?_⟩;obtain ⟨r3,g3,h⟩:=ed (F:=fun p ns=>cv l p ns ⟨8,0,[],[],[a,x]⟩) (h x v');obtain ⟨y,s2,k2,q2,v2⟩:=u86 hP hl q' ⟨8,0,[],[],[a,x]⟩ (by simp) (by simp) (nd:= .nil) (kd:=bJ [a,x]) (.inr ⟨rfl,rfl⟩) (.inl rfl) g3;refine gC [0,3] k2 ⟨?_⟩;exact uni (P:=fun s r=>OpL C l Ai.l d r y s) (fun e s q=>DN hP hl q y) (fun p ns r h1 h2 h=>ih (.opL d 1 y p ns) r ⟨h1,h2,h3,by decide⟩ h) q2 (h y v2)
 ·rw [ab (fun hh=>hs ((fL (by decide)).2 ⟨hh.1,by simpa [nh,uJ] using hh.2⟩))] at h;cases h;refine gC [0,2] (n83 hP hl 5 hX (by decide) (bx hs)) ⟨gX ⟨?_⟩⟩;refine ah.aD (os':=[some (PI.aY _ (s0 p d ns) 2),none,some (aB (PI.nodes (s0 p d ns)))]) [0,1,2] trivial rfl rfl ⟨rfl,rfl,trivial⟩ ?_;(conv=>whnf);exact ⟨_,s0 p d ns,rfl,rfl,⟨rfl,h1,h2⟩,fun y p ns hr=>by cases hr;rfl⟩
theorem GW {r:cV} (hc:dK l (.op d 4 p ns)) (h:mm l (n+1) (.op d 4 p ns)=some r):SC C l (.op d 4 p ns) r:=by
 obtain ⟨h1,h2,h3,h4⟩:=hc;simp only [mm] at h;rw [ab (by decide)] at h;refine eE hP xg ⟨?_⟩;obtain ⟨r2,g2,h⟩:=ed (ρ:= .ok (p,ns)) (F:=fun p ns=>mm l n (.op d 5 p ns)) h;obtain ⟨v,os',k,x,s',rfl,rfl,q',v'⟩:=ih (.op d 5 p ns) r2 ⟨h1,h2,h3,by omega⟩ g2;refine gC [0,1] k ⟨?_⟩;exact uni (P:=fun s r=>OpL C l xg.l d r x s) (fun e s q=>DK hP hl q x) (fun p ns r h1 h2 h=>ih (.opL d 4 x p ns) r ⟨h1,h2,h3,by decide⟩ h) q' (h x v')
theorem Fp {r:cV} (hc:dK l (.opL d 4 a p ns)) (h:mm l (n+1) (.opL d 4 a p ns)=some r):SC C l (.opL d 4 a p ns) r:=by
 obtain ⟨h1,h2,h3,h4⟩:=hc;simp only [mm] at h;show OpL C l xg.l d r a (s0 p d ns);have end1:r= .ok (a,p,ns)->b4 C 2 [(2,none)] (SQ l d r) (Cfg.dy xg.l 1 [(3,.d (.int .i64 a))] [(0,(s0 p d ns).aY l 2),(2,aB ns)] 3):=by
  rintro rfl
  refine gT ⟨?_⟩;refine ah.aD (os':=[some (PI.aY _ (s0 p d ns) 2),none,some (aB (PI.nodes (s0 p d ns)))]) [0,1,2] trivial rfl rfl ⟨rfl,rfl,trivial⟩ ?_;(conv=>whnf);exact ⟨_,s0 p d ns,rfl,rfl,⟨rfl,h1,h2⟩,fun y p ns hr=>by cases hr;rfl⟩
 have body:∀ x,l[p]?=some x->(bnd (mm l n (.op d 5 (p+1) ns)) fun (b,p',ns)=>bnd (cv l p' ns ⟨7,0,x.text,[],[a,b]⟩) fun (c,p',ns)=>mm l n (.opL d 4 c p' ns))=some r->b4 C 2 [(2,none)] (SQ l d r) (Cfg.dy xg.l 0 [(0,.ptr 0 0 0),(2,.d (.int .i64 0)),(3,.d (.int .i64 a))] [(0,(s0 p d ns).aY l 2),(2,aB ns)] 3):=by
  intro x0 hx h;have hlt:=(af.1 hx).1;refine gT ⟨gC [0,2] (zz hP hl hx) ⟨?_⟩⟩;rw [aC (n:=(s0 p d ns).pos) (by have:=hl.len;show p < _;omega)];obtain ⟨r2,g2,h⟩:=ed (ρ:= .ok (p+1,ns)) (F:=fun p ns=>mm l n (.op d 5 p ns)) h;obtain ⟨v,os',k,x,s',rfl,rfl,q',v'⟩:=ih (.op d 5 (p+1) ns) r2 ⟨hlt,h2,h3,by omega⟩ g2;refine gC [0,2] k ⟨?_⟩;obtain ⟨r3,g3,h⟩:=ed (F:=fun p ns=>cv l p ns ⟨7,0,x0.text,[],[a,x]⟩) (h x v');obtain ⟨y,s2,k2,q2,v2⟩:=u86 hP hl q' ⟨7,0,x0.text,[],[a,x]⟩ (by simp) (by simp) (nd:= .nil) (kd:=bJ [a,x]) (.inr ⟨rfl,rfl⟩) (.inl rfl) g3;refine gC [0,3] k2 ⟨?_⟩;exact uni (P:=fun s r=>OpL C l xg.l d r y s) (fun e s q=>DK hP hl q y) (fun p ns r h1 h2 h=>ih (.opL d 4 y p ns) r ⟨h1,h2,h3,by decide⟩ h) q2 (h y v2)
 have taken:∀ t,isS l p 5 t=true->t∈nh 4->∃ x,l[p]?=some x/\(bnd (mm l n (.op d 5 (p+1) ns)) fun (b,p',ns)=>bnd (cv l p' ns ⟨7,0,x.text,[],[a,b]⟩) fun (c,p',ns)=>mm l n (.opL d 4 c p' ns))=some r:=by
  intro t hs ht;have hs':=(fL (by decide)).1 hs;have hx:=aa (bg hs);refine ⟨_,hx,?_⟩;rw [aj ⟨hs'.1,by rw [hs'.2];exact ht⟩] at h;rw [show cF l p=(l[p]'(bg hs)).text by simp [cF,hx]] at h;exact h
 refine gL ⟨gY ⟨?_⟩⟩;have hk0:=sQ hP hl (d:=d) p ns 5 (t:=[42]) (cm hl (by decide)) (by decide);cases hs0:isS l p 5 [42] with
 | true =>
  rw [hs0] at hk0;refine gC [0,2] hk0 ⟨?_⟩;obtain ⟨x,hx,hb⟩:=taken _ hs0 (by decide);refine gY ⟨?_⟩;exact body x hx hb
 | false =>
  rw [hs0] at hk0;refine gC [0,2] hk0 ⟨gX ⟨?_⟩⟩;have hk1:=sQ hP hl (d:=d) p ns 5 (t:=[47]) (cm hl (by decide)) (by decide);cases hs1:isS l p 5 [47] with
  | true =>
   rw [hs1] at hk1;refine gC [0,2] hk1 ⟨?_⟩;obtain ⟨x,hx,hb⟩:=taken _ hs1 (by decide);refine gY ⟨?_⟩;exact body x hx hb
  | false =>
   rw [hs1] at hk1;refine gC [0,2] hk1 ⟨gX ⟨?_⟩⟩;have hk2:=sQ hP hl (d:=d) p ns 5 (t:=[37]) (cm hl (by decide)) (by decide);cases hs2:isS l p 5 [37] with
   | true =>
    rw [hs2] at hk2;refine gC [0,2] hk2 ⟨?_⟩;obtain ⟨x,hx,hb⟩:=taken _ hs2 (by decide);refine gY ⟨?_⟩;exact body x hx hb
   | false =>
    rw [hs2] at hk2;refine gC [0,2] hk2 ⟨gX ⟨?_⟩⟩;have hr:r= .ok (a,p,ns):=by
     rw [ab (fun hh=>by
      have hm:=hh.2;simp only [nh,uJ] at hm;simp at hm;rcases hm with hm | hm | hm
      ·rw [(fL (by decide)).2 ⟨hh.1,hm⟩] at hs0;cases hs0
      ·rw [(fL (by decide)).2 ⟨hh.1,hm⟩] at hs1;cases hs1
      ·rw [(fL (by decide)).2 ⟨hh.1,hm⟩] at hs2;cases hs2
      )] at h
     cases h;rfl
    exact end1 hr
theorem GX {r:cV} (hc:dK l (.op d 3 p ns)) (h:mm l (n+1) (.op d 3 p ns)=some r):SC C l (.op d 3 p ns) r:=by
 obtain ⟨h1,h2,h3,h4⟩:=hc;simp only [mm] at h;rw [ab (by decide)] at h;refine eE hP xh ⟨?_⟩;obtain ⟨r2,g2,h⟩:=ed (ρ:= .ok (p,ns)) (F:=fun p ns=>mm l n (.op d 4 p ns)) h;obtain ⟨v,os',k,x,s',rfl,rfl,q',v'⟩:=ih (.op d 4 p ns) r2 ⟨h1,h2,h3,by omega⟩ g2;refine gC [0,1] k ⟨?_⟩;exact uni (P:=fun s r=>OpL C l xh.l d r x s) (fun e s q=>DL hP hl q x) (fun p ns r h1 h2 h=>ih (.opL d 3 x p ns) r ⟨h1,h2,h3,by decide⟩ h) q' (h x v')
theorem Fq {r:cV} (hc:dK l (.opL d 3 a p ns)) (h:mm l (n+1) (.opL d 3 a p ns)=some r):SC C l (.opL d 3 a p ns) r:=by
 obtain ⟨h1,h2,h3,h4⟩:=hc;simp only [mm] at h;show OpL C l xh.l d r a (s0 p d ns);have end1:r= .ok (a,p,ns)->b4 C 2 [(2,none)] (SQ l d r) (Cfg.dy xh.l 1 [(3,.d (.int .i64 a))] [(0,(s0 p d ns).aY l 2),(2,aB ns)] 3):=by
  rintro rfl
  refine gT ⟨?_⟩;refine ah.aD (os':=[some (PI.aY _ (s0 p d ns) 2),none,some (aB (PI.nodes (s0 p d ns)))]) [0,1,2] trivial rfl rfl ⟨rfl,rfl,trivial⟩ ?_;(conv=>whnf);exact ⟨_,s0 p d ns,rfl,rfl,⟨rfl,h1,h2⟩,fun y p ns hr=>by cases hr;rfl⟩
 have body:∀ x,l[p]?=some x->(bnd (mm l n (.op d 4 (p+1) ns)) fun (b,p',ns)=>bnd (cv l p' ns ⟨7,0,x.text,[],[a,b]⟩) fun (c,p',ns)=>mm l n (.opL d 3 c p' ns))=some r->b4 C 2 [(2,none)] (SQ l d r) (Cfg.dy xh.l 0 [(0,.ptr 0 0 0),(2,.d (.int .i64 0)),(3,.d (.int .i64 a))] [(0,(s0 p d ns).aY l 2),(2,aB ns)] 3):=by
  intro x0 hx h;have hlt:=(af.1 hx).1;refine gT ⟨gC [0,2] (zz hP hl hx) ⟨?_⟩⟩;rw [aC (n:=(s0 p d ns).pos) (by have:=hl.len;show p < _;omega)];obtain ⟨r2,g2,h⟩:=ed (ρ:= .ok (p+1,ns)) (F:=fun p ns=>mm l n (.op d 4 p ns)) h;obtain ⟨v,os',k,x,s',rfl,rfl,q',v'⟩:=ih (.op d 4 (p+1) ns) r2 ⟨hlt,h2,h3,by omega⟩ g2;refine gC [0,2] k ⟨?_⟩;obtain ⟨r3,g3,h⟩:=ed (F:=fun p ns=>cv l p ns ⟨7,0,x0.text,[],[a,x]⟩) (h x v');obtain ⟨y,s2,k2,q2,v2⟩:=u86 hP hl q' ⟨7,0,x0.text,[],[a,x]⟩ (by simp) (by simp) (nd:= .nil) (kd:=bJ [a,x]) (.inr ⟨rfl,rfl⟩) (.inl rfl) g3;refine gC [0,3] k2 ⟨?_⟩;exact uni (P:=fun s r=>OpL C l xh.l d r y s) (fun e s q=>DL hP hl q y) (fun p ns r h1 h2 h=>ih (.opL d 3 y p ns) r ⟨h1,h2,h3,by decide⟩ h) q2 (h y v2)
 have taken:∀ t,isS l p 5 t=true->t∈nh 3->∃ x,l[p]?=some x/\(bnd (mm l n (.op d 4 (p+1) ns)) fun (b,p',ns)=>bnd (cv l p' ns ⟨7,0,x.text,[],[a,b]⟩) fun (c,p',ns)=>mm l n (.opL d 3 c p' ns))=some r:=by
  intro t hs ht;have hs':=(fL (by decide)).1 hs;have hx:=aa (bg hs);refine ⟨_,hx,?_⟩;rw [aj ⟨hs'.1,by rw [hs'.2];exact ht⟩] at h;rw [show cF l p=(l[p]'(bg hs)).text by simp [cF,hx]] at h;exact h
 refine gL ⟨gY ⟨?_⟩⟩;have hk0:=sQ hP hl (d:=d) p ns 5 (t:=[43]) (cm hl (by decide)) (by decide);cases hs0:isS l p 5 [43] with
 | true =>
  rw [hs0] at hk0;refine gC [0,2] hk0 ⟨?_⟩;obtain ⟨x,hx,hb⟩:=taken _ hs0 (by decide);refine gY ⟨?_⟩;exact body x hx hb
 | false =>
  rw [hs0] at hk0;refine gC [0,2] hk0 ⟨gX ⟨?_⟩⟩;have hk1:=sQ hP hl (d:=d) p ns 5 (t:=[45]) (cm hl (by decide)) (by decide);cases hs1:isS l p 5 [45] with
  | true =>
   rw [hs1] at hk1;refine gC [0,2] hk1 ⟨?_⟩;obtain ⟨x,hx,hb⟩:=taken _ hs1 (by decide);refine gY ⟨?_⟩;exact body x hx hb
  | false =>
   rw [hs1] at hk1;refine gC [0,2] hk1 ⟨gX ⟨?_⟩⟩;have hr:r= .ok (a,p,ns):=by
    rw [ab (fun hh=>by
     have hm:=hh.2;simp only [nh,uJ] at hm;simp at hm;rcases hm with hm | hm
     ·rw [(fL (by decide)).2 ⟨hh.1,hm⟩] at hs0;cases hs0
     ·rw [(fL (by decide)).2 ⟨hh.1,hm⟩] at hs1;cases hs1
     )] at h
    cases h;rfl
   exact end1 hr
theorem G1 {r:cV} (hc:dK l (.op d 2 p ns)) (h:mm l (n+1) (.op d 2 p ns)=some r):SC C l (.op d 2 p ns) r:=by
 obtain ⟨h1,h2,h3,h4⟩:=hc;simp only [mm] at h;rw [ab (by decide)] at h;refine eE hP xi ⟨?_⟩;obtain ⟨r2,g2,h⟩:=ed (ρ:= .ok (p,ns)) (F:=fun p ns=>mm l n (.op d 3 p ns)) h;obtain ⟨v,os',k,x,s',rfl,rfl,q',v'⟩:=ih (.op d 3 p ns) r2 ⟨h1,h2,h3,by omega⟩ g2;refine gC [0,1] k ⟨?_⟩;exact uni (P:=fun s r=>OpL C l xi.l d r x s) (fun e s q=>DM hP hl q x) (fun p ns r h1 h2 h=>ih (.opL d 2 x p ns) r ⟨h1,h2,h3,by decide⟩ h) q' (h x v')
theorem Fs {r:cV} (hc:dK l (.opL d 2 a p ns)) (h:mm l (n+1) (.opL d 2 a p ns)=some r):SC C l (.opL d 2 a p ns) r:=by
 obtain ⟨h1,h2,h3,h4⟩:=hc;simp only [mm] at h;show OpL C l xi.l d r a (s0 p d ns);have end1:r= .ok (a,p,ns)->b4 C 2 [(2,none)] (SQ l d r) (Cfg.dy xi.l 1 [(3,.d (.int .i64 a))] [(0,(s0 p d ns).aY l 2),(2,aB ns)] 3):=by
  rintro rfl
  refine gT ⟨?_⟩;refine ah.aD (os':=[some (PI.aY _ (s0 p d ns) 2),none,some (aB (PI.nodes (s0 p d ns)))]) [0,1,2] trivial rfl rfl ⟨rfl,rfl,trivial⟩ ?_;(conv=>whnf);exact ⟨_,s0 p d ns,rfl,rfl,⟨rfl,h1,h2⟩,fun y p ns hr=>by cases hr;rfl⟩
 have body:∀ x,l[p]?=some x->(bnd (mm l n (.op d 3 (p+1) ns)) fun (b,p',ns)=>bnd (cv l p' ns ⟨7,0,x.text,[],[a,b]⟩) fun (c,p',ns)=>mm l n (.opL d 2 c p' ns))=some r->b4 C 2 [(2,none)] (SQ l d r) (Cfg.dy xi.l 0 [(0,.ptr 0 0 0),(2,.d (.int .i64 0)),(3,.d (.int .i64 a))] [(0,(s0 p d ns).aY l 2),(2,aB ns)] 3):=by
  intro x0 hx h;have hlt:=(af.1 hx).1;refine gT ⟨gC [0,2] (zz hP hl hx) ⟨?_⟩⟩;rw [aC (n:=(s0 p d ns).pos) (by have:=hl.len;show p < _;omega)];obtain ⟨r2,g2,h⟩:=ed (ρ:= .ok (p+1,ns)) (F:=fun p ns=>mm l n (.op d 3 p ns)) h;obtain ⟨v,os',k,x,s',rfl,rfl,q',v'⟩:=ih (.op d 3 (p+1) ns) r2 ⟨hlt,h2,h3,by omega⟩ g2;refine gC [0,2] k ⟨?_⟩;obtain ⟨r3,g3,h⟩:=ed (F:=fun p ns=>cv l p ns ⟨7,0,x0.text,[],[a,x]⟩) (h x v');obtain ⟨y,s2,k2,q2,v2⟩:=u86 hP hl q' ⟨7,0,x0.text,[],[a,x]⟩ (by simp) (by simp) (nd:= .nil) (kd:=bJ [a,x]) (.inr ⟨rfl,rfl⟩) (.inl rfl) g3;refine gC [0,3] k2 ⟨?_⟩;exact uni (P:=fun s r=>OpL C l xi.l d r y s) (fun e s q=>DM hP hl q y) (fun p ns r h1 h2 h=>ih (.opL d 2 y p ns) r ⟨h1,h2,h3,by decide⟩ h) q2 (h y v2)
 have taken:∀ t,isS l p 5 t=true->t∈nh 2->∃ x,l[p]?=some x/\(bnd (mm l n (.op d 3 (p+1) ns)) fun (b,p',ns)=>bnd (cv l p' ns ⟨7,0,x.text,[],[a,b]⟩) fun (c,p',ns)=>mm l n (.opL d 2 c p' ns))=some r:=by
  intro t hs ht;have hs':=(fL (by decide)).1 hs;have hx:=aa (bg hs);refine ⟨_,hx,?_⟩;rw [aj ⟨hs'.1,by rw [hs'.2];exact ht⟩] at h;rw [show cF l p=(l[p]'(bg hs)).text by simp [cF,hx]] at h;exact h
 refine gL ⟨gY ⟨?_⟩⟩;have hk0:=sQ hP hl (d:=d) p ns 5 (t:=[60]) (cm hl (by decide)) (by decide);cases hs0:isS l p 5 [60] with
 | true =>
  rw [hs0] at hk0;refine gC [0,2] hk0 ⟨?_⟩;obtain ⟨x,hx,hb⟩:=taken _ hs0 (by decide);refine gY ⟨?_⟩;exact body x hx hb
 | false =>
  rw [hs0] at hk0;refine gC [0,2] hk0 ⟨gX ⟨?_⟩⟩;have hk1:=sQ hP hl (d:=d) p ns 5 (t:=[61,61]) (cm hl (by decide)) (by decide);cases hs1:isS l p 5 [61,61] with
  | true =>
   rw [hs1] at hk1;refine gC [0,2] hk1 ⟨?_⟩;obtain ⟨x,hx,hb⟩:=taken _ hs1 (by decide);refine gY ⟨?_⟩;exact body x hx hb
  | false =>
   rw [hs1] at hk1;refine gC [0,2] hk1 ⟨gX ⟨?_⟩⟩;have hr:r= .ok (a,p,ns):=by
    rw [ab (fun hh=>by
     have hm:=hh.2;simp only [nh,uJ] at hm;simp at hm;rcases hm with hm | hm
     ·rw [(fL (by decide)).2 ⟨hh.1,hm⟩] at hs0;cases hs0
     ·rw [(fL (by decide)).2 ⟨hh.1,hm⟩] at hs1;cases hs1
     )] at h
    cases h;rfl
   exact end1 hr
end
end
section
variable {C:Ctx} (hP:C.P=Tryz.prog)
include hP
section
variable {l:List Tok} (hl:dr l) {n:Nat}
include hl
theorem G6 (ihs:∀ m,m<=n->∀ c r,dK l c->mm l m c=some r->SC C l c r) {r:cV} (hc:dK l (.expr d p ns)) (h:mm l (n+1) (.expr d p ns)=some r):SC C l (.expr d p ns) r:=by
 obtain ⟨h1,h2,h3⟩:=hc;simp only [mm] at h;refine eE hP c175 ⟨?_⟩;by_cases hd:d=20
 ·rw [aj hd] at h;cases h;subst hd;refine gC [0,1] (n121 hP hl (p:=p) (ns:=ns)) ⟨gY ⟨?_⟩⟩;refine ah.aD (os':=[some (PI.aY _ ({sF l p 21 ns 9 with opn:=20}) 2),none,some (aB (PI.nodes ({sF l p 21 ns 9 with opn:=20})))]) [0,1,2] trivial rfl rfl ⟨rfl,rfl,trivial⟩ ?_;(conv=>whnf);exact ⟨_,{sF l p 21 ns 9 with opn:=20},rfl,rfl,⟨rfl,rfl,by show (9:Int)≠0;decide,h2,h1,rfl⟩,vlE _⟩
 ·rw [ab hd] at h;refine gC [0,1] (DT hP hl (p:=p) (d:=d) (ns:=ns) (by omega)) ⟨gX ⟨?_⟩⟩;cases n with
  | zero=>simp [mm] at h
  | succ m =>
   simp only [mm] at h;rw [ab (by decide)] at h;have ih:=ihs m (by omega);obtain ⟨r2,g2,h⟩:=ed (ρ:= .ok (p,ns)) (F:=fun p ns=>mm l m (.op (d+1) 1 p ns)) h;obtain ⟨v,os',k,x,s',rfl,rfl,q',v'⟩:=ih (.op (d+1) 1 p ns) r2 ⟨h1,h2,by omega,by decide⟩ g2;refine gC [0,1] k ⟨?_⟩;exact uni (P:=fun s r=>OpL C l c175.l d r x s) (fun e s q=>DP hP hl q (by omega) x) (fun p ns r h1 h2 h=>ih (.opL (d+1) 0 x p ns) r ⟨h1,h2,by omega,by decide⟩ h d rfl) q' (h x v')
variable (ih:∀ c r,dK l c->mm l n c=some r->SC C l c r)
include ih
theorem Fv {r:cV} (hc:dK l (.opL d 0 a p ns)) (h:mm l (n+1) (.opL d 0 a p ns)=some r):SC C l (.opL d 0 a p ns) r:=by
 obtain ⟨h1,h2,h3,h4⟩:=hc;rintro d' rfl
 simp only [mm] at h;have hX:=cm hl (t:=[124,124]) (by decide);refine gL ⟨?_⟩;by_cases hs:isS l p 5 [124,124]=true
 ·have hs':=(fL (by decide)).1 hs;rw [aj ⟨hs'.1,by rw [hs'.2];decide⟩] at h;refine gC [0,2] (y83 hP hl (d:=d'+1) (ns:=ns) 5 hX (by decide) hs) ⟨gY ⟨?_⟩⟩;obtain ⟨r2,g2,h⟩:=ed (ρ:= .ok (p+1,ns)) (F:=fun p ns=>mm l n (.op (d'+1) 1 p ns)) h;obtain ⟨v,os',k,x,s',rfl,rfl,q',v'⟩:=ih (.op (d'+1) 1 (p+1) ns) r2 ⟨bg hs,h2,h3,by omega⟩ g2;refine gC [0,2] k ⟨?_⟩;obtain ⟨r3,g3,h⟩:=ed (F:=fun p ns=>cv l p ns ⟨9,0,[],[],[a,x]⟩) (h x v');obtain ⟨y,s2,k2,q2,v2⟩:=u86 hP hl q' ⟨9,0,[],[],[a,x]⟩ (by simp) (by simp) (nd:= .nil) (kd:=bJ [a,x]) (.inr ⟨rfl,rfl⟩) (.inl rfl) g3;refine gC [0,3] k2 ⟨?_⟩;exact uni (P:=fun s r=>OpL C l c175.l d' r y s) (fun e s q=>DP hP hl q (by omega) y) (fun p ns r h1 h2 h=>ih (.opL (d'+1) 0 y p ns) r ⟨h1,h2,h3,by decide⟩ h d' rfl) q2 (h y v2)
 ·rw [ab (fun hh=>hs ((fL (by decide)).2 ⟨hh.1,by simpa [nh,uJ] using hh.2⟩))] at h;cases h;refine gC [0,2] (n83 hP hl (d:=d'+1) (ns:=ns) 5 hX (by decide) (bx hs)) ⟨gX ⟨?_⟩⟩;rw [show (s0 p (d'+1) ns).opn - 1=(d':Int) by show ((d'+1:Nat):Int) - 1=d';omega,wrap_i64 (by omega)];refine ah.aD (os':=[some (PI.aY _ (s0 p d' ns) 2),none,some (aB (PI.nodes (s0 p d' ns)))]) [0,1,2] trivial rfl rfl ⟨rfl,rfl,trivial⟩ ?_;(conv=>whnf);exact ⟨_,s0 p d' ns,rfl,rfl,⟨rfl,h1,h2⟩,fun y p ns hr=>by cases hr;rfl⟩
theorem GV {r:cV} (hc:dK l (.un d p ns)) (h:mm l (n+1) (.un d p ns)=some r):SC C l (.un d p ns) r:=by
 obtain ⟨h1,h2,h3⟩:=hc;simp only [mm] at h;have body:(isS l p 5 [33]=true\/isS l p 5 [45]=true)->b4 C 2 [(2,none)] (SQ l d r) (Cfg.dy Gz.l 0 [(0,.ptr 0 0 0)] [(0,(s0 p d ns).aY l 1),(1,aB ns)] 2):=by
  intro hs;rw [aj hs] at h;have hlt:p < l.length:=hs.elim bg bg;have hx:=aa hlt;rw [show cF l p=(l[p]'hlt).text by simp [cF,hx]] at h;refine gT ⟨gC [0,1] (zz hP hl (d:=d) (ns:=ns) hx) ⟨?_⟩⟩;rw [aC (n:=(s0 p d ns).pos) (by have:=hl.len;show p < _;omega)];by_cases hd:d=20
  ·rw [aj hd] at h;cases h;subst hd;refine gC [0,1] (n121 hP hl (p:=p+1) (ns:=ns)) ⟨gY ⟨?_⟩⟩;refine ah.aD (os':=[some (PI.aY _ ({sF l (p+1) 21 ns 9 with opn:=20}) 2),none,some (aB (PI.nodes ({sF l (p+1) 21 ns 9 with opn:=20})))]) [0,1,2] trivial rfl rfl ⟨rfl,rfl,trivial⟩ ?_;(conv=>whnf);exact ⟨_,{sF l (p+1) 21 ns 9 with opn:=20},rfl,rfl,⟨rfl,rfl,by show (9:Int)≠0;decide,h2,hlt,rfl⟩,vlE _⟩
  ·rw [ab hd] at h;refine gC [0,1] (DT hP hl (p:=p+1) (d:=d) (ns:=ns) (by omega)) ⟨gX ⟨?_⟩⟩;obtain ⟨r2,g2,h⟩:=ed (ρ:= .ok (p+1,ns)) (F:=fun p ns=>mm l n (.un (d+1) p ns)) h;obtain ⟨v,os',k,x,s',rfl,rfl,q',v'⟩:=ih (.un (d+1) (p+1) ns) r2 ⟨hlt,h2,by omega⟩ g2;refine gC [0,1] k ⟨?_⟩;have ho:=q'.opn;rw [wrap_i64 (by omega)];have q'':T l d (st r2) {s' with opn:=s'.opn - 1}:=by
    match st r2,q' with
    | .ok (p,ns),q' =>
     obtain ⟨rfl,h1,h2⟩:=q';exact ⟨by unfold s0;simp,h1,h2⟩
    | .error e,q'=>exact ⟨q'.1,q'.2.1,q'.2.2.1,q'.2.2.2.1,q'.2.2.2.2.1,by show s'.opn - 1=d;omega⟩
   obtain ⟨y,s2,k2,q2,v2⟩:=u86 hP hl q'' ⟨6,0,(l[p]'hlt).text,[],[x]⟩ (by simp) (by simp) (nd:= .nil) (kd:=bJ [x]) (.inr ⟨rfl,rfl⟩) (.inl rfl) (h x v');refine gC [0,2] k2 ⟨?_⟩;refine ah.aD (os':=[some (PI.aY _ s2 2),none,some (aB (PI.nodes s2))]) [0,1,3] trivial rfl rfl ⟨rfl,rfl,trivial⟩ ?_;(conv=>whnf);exact ⟨_,s2,rfl,rfl,q2,v2⟩
 refine eE hP Gz ⟨gY ⟨?_⟩⟩;have hk0:=sQ hP hl (d:=d) p ns 5 (t:=[33]) (cm hl (by decide)) (by decide);cases hs0:isS l p 5 [33] with
 | true =>
  rw [hs0] at hk0;refine gC [0,1] hk0 ⟨gY ⟨?_⟩⟩;exact body (.inl hs0)
 | false =>
  rw [hs0] at hk0;refine gC [0,1] hk0 ⟨gX ⟨?_⟩⟩;have hk1:=sQ hP hl (d:=d) p ns 5 (t:=[45]) (cm hl (by decide)) (by decide);cases hs1:isS l p 5 [45] with
  | true =>
   rw [hs1] at hk1;refine gC [0,1] hk1 ⟨gY ⟨?_⟩⟩;exact body (.inr hs1)
  | false =>
   rw [hs1] at hk1;refine gC [0,1] hk1 ⟨gX ⟨?_⟩⟩;rw [ab (by rw [hs0,hs1];simp)] at h;refine gT ⟨?_⟩;obtain ⟨v,os',k,x,s',rfl,rfl,q',v'⟩:=ih (.jJ d p ns) r ⟨h1,h2,h3⟩ h;refine gC [0,1] k ⟨?_⟩;refine ah.aD (os':=[some (PI.aY _ s' 2),none,some (aB (PI.nodes s'))]) [0,1,2] trivial rfl rfl ⟨rfl,rfl,trivial⟩ ?_;(conv=>whnf);exact ⟨_,s',rfl,rfl,q',v'⟩
end
end
section
variable {C:Ctx} (hP:C.P=Tryz.prog)
include hP
section
variable {l:List Tok} (hl:dr l) {n:Nat}
include hl
theorem Gr {e:Int×Int} (q:T l d (.error e) s) (kd pl:Int) (name:List UInt8) (ks:List Int) (hk:ks.length<=301):ArL C l d (.error e) kd pl name ks s:=by
 refine gL ⟨gX ⟨?_⟩ (aI (T.code q))⟩;rw [cW];refine gT ⟨?_⟩;obtain ⟨y,s1,k1,q1,_⟩:=u86 hP hl q ⟨10,0,name,[],ks⟩ (by simp) (by show ks.length<=_;omega) (nd:= .nil) (kd:=bJ ks) (.inr ⟨rfl,rfl⟩) (.inl rfl) (r:= .error e) rfl;refine gC [0,3] k1 ⟨?_⟩;refine ah.aD (os':=[some (PI.aY _ s1 2),none,some (aB (PI.nodes s1))]) [0,1,4] trivial rfl rfl ⟨rfl,rfl,trivial⟩ ?_;(conv=>whnf);exact ⟨_,s1,rfl,rfl,q1,vlE _⟩
variable (ih:∀ c r,dK l c->mm l n c=some r->SC C l c r)
include ih
theorem GU {r:cV} (hc:dK l (.jJ d p ns)) (h:mm l (n+1) (.jJ d p ns)=some r):SC C l (.jJ d p ns) r:=by
 obtain ⟨h1,h2,h3⟩:=hc;simp only [mm] at h;have hlen:=hl.len;refine eE hP EY ⟨gX ⟨?_⟩⟩;have q0:∀ p,p<=l.length->T l d (.ok (p,ns)) (s0 p d ns):=fun p hp=>⟨rfl,hp,h2⟩
 have w1:=dI hl (t:=yr) (by decide);have w2:=dI hl (t:=uh) (by decide);have w3:=dI hl (t:=yu) (by decide);have w4:=cm hl (t:=[40]) (by decide);cases hx:l[p]? with
 | none =>
  have z:∀ k t,isS l p k t=false:=fun k t=>by simp [isS,hx]
  have zk:dc l p=0:=by simp [dc,hx]
  rw [zk,ab (by decide),ab (by decide),ab (by decide),z,z,z,z,ab (by decide),ab (by decide),ab (by decide),ab (by decide)] at h;cases h;refine gC [0,1] (Fg hP hl (d:=d) (ns:=ns) hx) ⟨gX ⟨gX ⟨gC [0,1] (n83 hP hl (p:=p) (d:=d) (ns:=ns) 2 w1 (by decide) (z _ _)) ⟨gX ⟨gC [0,1] (n83 hP hl (p:=p) (d:=d) (ns:=ns) 2 w2 (by decide) (z _ _)) ⟨gX ⟨gC [0,1] (n83 hP hl (p:=p) (d:=d) (ns:=ns) 2 w3 (by decide) (z _ _)) ⟨gX ⟨gC [0,1] (n83 hP hl (p:=p) (d:=d) (ns:=ns) 5 w4 (by decide) (z _ _)) ⟨gX ⟨gX ⟨gC [0,1] (xO hP hl (s0 p d ns) 3) ⟨?_⟩⟩⟩⟩⟩⟩⟩⟩⟩⟩⟩⟩⟩;refine ah.aD (os':=[some (PI.aY _ (sF l p d ns 3) 2),none,some (aB (PI.nodes (sF l p d ns 3)))]) [0,1,3] trivial rfl rfl ⟨rfl,rfl,trivial⟩ ?_;(conv=>whnf);exact ⟨_,sF l p d ns 3,rfl,rfl,⟨rfl,rfl,by show (3:Int)≠0;decide,h2,h1,rfl⟩,vlE _⟩
 | some x =>
  have hlt:=(af.1 hx).1;have zk:dc l p=x.kind:=by simp [dc,hx]
  have zt:cF l p=x.text:=by simp [cF,hx]
  have zs:∀ k t,k≠x.kind->isS l p k t=false:=fun k t hk=>by simp [isS,hx];intro h;exact absurd h.symm hk
  rw [zk,zt] at h;refine gC [0,1] (zz hP hl (d:=d) (ns:=ns) hx) ⟨?_⟩;by_cases k3:x.kind=3
  ·rw [aj k3] at h;refine gY ⟨?_⟩ (aR k3);rw [aC (n:=(s0 p d ns).pos) (by show p < _;omega)];obtain ⟨v,os,kk,⟨m,rfl,hm⟩,rfl⟩:=FW hP x.text;refine gO kk ⟨?_⟩;rw [hm (hl.num _ (aP hx) k3)];obtain ⟨y,s2,k2,q2,v2⟩:=u86 hP hl (q0 (p+1) hlt) ⟨1,jt x.text,[],[],[]⟩ (by simp) (by simp) (nd:= .nil) (kd:= .nil) (.inr ⟨rfl,rfl⟩) (.inr ⟨rfl,rfl⟩) h;refine gC [0,1] k2 ⟨?_⟩;refine ah.aD (os':=[some (PI.aY _ s2 2),none,some (aB (PI.nodes s2))]) [0,1,3] trivial rfl rfl ⟨rfl,rfl,trivial⟩ ?_;(conv=>whnf);exact ⟨_,s2,rfl,rfl,q2,v2⟩
  rw [ab k3] at h;refine gX ⟨?_⟩ (aI k3);by_cases k4:x.kind=4
  ·rw [aj k4] at h;refine gY ⟨?_⟩ (aR k4);rw [aC (n:=(s0 p d ns).pos) (by show p < _;omega)];obtain ⟨y,s2,k2,q2,v2⟩:=u86 hP hl (q0 (p+1) hlt) ⟨2,0,x.text,[],[]⟩ (by simp) (by simp) (nd:= .nil) (kd:= .nil) (.inr ⟨rfl,rfl⟩) (.inr ⟨rfl,rfl⟩) h;refine gC [0,1] k2 ⟨?_⟩;refine ah.aD (os':=[some (PI.aY _ s2 2),none,some (aB (PI.nodes s2))]) [0,1,3] trivial rfl rfl ⟨rfl,rfl,trivial⟩ ?_;(conv=>whnf);exact ⟨_,s2,rfl,rfl,q2,v2⟩
  rw [ab k4] at h;refine gX ⟨?_⟩ (aI k4);by_cases k1:x.kind=1
  ·rw [aj k1] at h;refine gC [0,1] (n83 hP hl (p:=p) (d:=d) (ns:=ns) 2 w1 (by decide) (zs _ _ (by rw [k1];decide))) ⟨gX ⟨?_⟩⟩;refine gC [0,1] (n83 hP hl (p:=p) (d:=d) (ns:=ns) 2 w2 (by decide) (zs _ _ (by rw [k1];decide))) ⟨gX ⟨?_⟩⟩;refine gC [0,1] (n83 hP hl (p:=p) (d:=d) (ns:=ns) 2 w3 (by decide) (zs _ _ (by rw [k1];decide))) ⟨gX ⟨?_⟩⟩;refine gC [0,1] (n83 hP hl (p:=p) (d:=d) (ns:=ns) 5 w4 (by decide) (zs _ _ (by rw [k1];decide))) ⟨gX ⟨gY ⟨?_⟩ (aR k1)⟩⟩;rw [aC (n:=(s0 p d ns).pos) (by show p < _;omega)];cases hs:isS l (p+1) 5 [40] with
   | true =>
    rw [aj hs] at h;refine gC [0,1] (y83 hP hl (p:=p+1) (d:=d) (ns:=ns) 5 w4 (by decide) hs) ⟨gX ⟨?_⟩⟩;exact ih (.args d x.text true [] (p+2) ns) r ⟨bg hs,h2,h3,by simp⟩ h rfl x.kind x.place
   | false =>
    rw [ab (by rw [hs];decide)] at h;refine gC [0,1] (n83 hP hl (p:=p+1) (d:=d) (ns:=ns) 5 w4 (by decide) hs) ⟨gY ⟨?_⟩⟩;obtain ⟨y,s2,k2,q2,v2⟩:=u86 hP hl (q0 (p+1) hlt) ⟨5,0,x.text,[],[]⟩ (by simp) (by simp) (nd:= .nil) (kd:= .nil) (.inr ⟨rfl,rfl⟩) (.inr ⟨rfl,rfl⟩) h;refine gC [0,1] k2 ⟨?_⟩;refine ah.aD (os':=[some (PI.aY _ s2 2),none,some (aB (PI.nodes s2))]) [0,1,3] trivial rfl rfl ⟨rfl,rfl,trivial⟩ ?_;(conv=>whnf);exact ⟨_,s2,rfl,rfl,q2,v2⟩
  rw [ab k1] at h;by_cases hs1:isS l p 2 yr=true
  ·rw [aj hs1] at h;refine gC [0,1] (y83 hP hl (p:=p) (d:=d) (ns:=ns) 2 w1 (by decide) hs1) ⟨gY ⟨?_⟩⟩;obtain ⟨y,s2,k2,q2,v2⟩:=u86 hP hl (q0 (p+1) hlt) ⟨3,1,[],[],[]⟩ (by simp) (by simp) (nd:= .nil) (kd:= .nil) (.inr ⟨rfl,rfl⟩) (.inr ⟨rfl,rfl⟩) h;refine gC [0,1] k2 ⟨?_⟩;refine ah.aD (os':=[some (PI.aY _ s2 2),none,some (aB (PI.nodes s2))]) [0,1,3] trivial rfl rfl ⟨rfl,rfl,trivial⟩ ?_;(conv=>whnf);exact ⟨_,s2,rfl,rfl,q2,v2⟩
  rw [ab hs1] at h;refine gC [0,1] (n83 hP hl (p:=p) (d:=d) (ns:=ns) 2 w1 (by decide) (bx hs1)) ⟨gX ⟨?_⟩⟩;by_cases hs2:isS l p 2 uh=true
  ·rw [aj hs2] at h;refine gC [0,1] (y83 hP hl (p:=p) (d:=d) (ns:=ns) 2 w2 (by decide) hs2) ⟨gY ⟨?_⟩⟩;obtain ⟨y,s2,k2,q2,v2⟩:=u86 hP hl (q0 (p+1) hlt) ⟨3,0,[],[],[]⟩ (by simp) (by simp) (nd:= .nil) (kd:= .nil) (.inr ⟨rfl,rfl⟩) (.inr ⟨rfl,rfl⟩) h;refine gC [0,1] k2 ⟨?_⟩;refine ah.aD (os':=[some (PI.aY _ s2 2),none,some (aB (PI.nodes s2))]) [0,1,3] trivial rfl rfl ⟨rfl,rfl,trivial⟩ ?_;(conv=>whnf);exact ⟨_,s2,rfl,rfl,q2,v2⟩
  rw [ab hs2] at h;refine gC [0,1] (n83 hP hl (p:=p) (d:=d) (ns:=ns) 2 w2 (by decide) (bx hs2)) ⟨gX ⟨?_⟩⟩;by_cases hs3:isS l p 2 yu=true
  ·rw [aj hs3] at h;refine gC [0,1] (y83 hP hl (p:=p) (d:=d) (ns:=ns) 2 w3 (by decide) hs3) ⟨gY ⟨?_⟩⟩;obtain ⟨y,s2,k2,q2,v2⟩:=u86 hP hl (q0 (p+1) hlt) ⟨4,0,[],[],[]⟩ (by simp) (by simp) (nd:= .nil) (kd:= .nil) (.inr ⟨rfl,rfl⟩) (.inr ⟨rfl,rfl⟩) h;refine gC [0,1] k2 ⟨?_⟩;refine ah.aD (os':=[some (PI.aY _ s2 2),none,some (aB (PI.nodes s2))]) [0,1,3] trivial rfl rfl ⟨rfl,rfl,trivial⟩ ?_;(conv=>whnf);exact ⟨_,s2,rfl,rfl,q2,v2⟩
  rw [ab hs3] at h;refine gC [0,1] (n83 hP hl (p:=p) (d:=d) (ns:=ns) 2 w3 (by decide) (bx hs3)) ⟨gX ⟨?_⟩⟩;by_cases hs4:isS l p 5 [40]=true
  ·rw [aj hs4] at h;refine gC [0,1] (y83 hP hl (p:=p) (d:=d) (ns:=ns) 5 w4 (by decide) hs4) ⟨gY ⟨?_⟩⟩;obtain ⟨r2,g2,h⟩:=ed (ρ:= .ok (p+1,ns)) (F:=fun p ns=>mm l n (.expr d p ns)) h;obtain ⟨v,os',k,y,s',rfl,rfl,q',v'⟩:=ih (.expr d (p+1) ns) r2 ⟨hlt,h2,h3⟩ g2;refine gC [0,1] k ⟨?_⟩;have h:=iX (K:=fun p ns=>some (.ok (y,p,ns))) (h y v');obtain ⟨s1,k1,q1⟩:=kM hP hl q' 5 [41] (cm hl (by decide)) (by decide);refine gC [0,3] k1 ⟨?_⟩;refine ah.aD (os':=[some (PI.aY _ s1 2),none,some (aB (PI.nodes s1))]) [0,1,3] trivial rfl rfl ⟨rfl,rfl,trivial⟩ ?_;(conv=>whnf);refine ⟨_,s1,rfl,rfl,?_⟩
   match ndS l 5 [41] (st r2),q1,h with
   | .error e,q1,h=>cases h;exact ⟨q1,vlE _⟩
   | .ok (p,ns),q1,h=>cases h;exact ⟨q1,fun y p ns hr=>by cases hr;rfl⟩
  rw [ab hs4] at h;cases h;refine gC [0,1] (n83 hP hl (p:=p) (d:=d) (ns:=ns) 5 w4 (by decide) (bx hs4)) ⟨gX ⟨gX ⟨gC [0,1] (xO hP hl (s0 p d ns) 3) ⟨?_⟩⟩ (aI k1)⟩⟩;refine ah.aD (os':=[some (PI.aY _ (sF l p d ns 3) 2),none,some (aB (PI.nodes (sF l p d ns 3)))]) [0,1,3] trivial rfl rfl ⟨rfl,rfl,trivial⟩ ?_;(conv=>whnf);exact ⟨_,sF l p d ns 3,rfl,rfl,⟨rfl,rfl,by show (3:Int)≠0;decide,h2,h1,rfl⟩,vlE _⟩
theorem Fo {first:Bool} {r:cV} (hc:dK l (.args d name first kids p ns)) (h:mm l (n+1) (.args d name first kids p ns)=some r):SC C l (.args d name first kids p ns) r:=by
 obtain ⟨h1,h2,h3,h0⟩:=hc;have hkl:kids.length<=300:=by have:=hl.len;omega
 intro hf kd pl;simp only [mm] at h;have w1:=cm hl (t:=[41]) (by decide);have w2:=cm hl (t:=[44]) (by decide);refine gL ⟨gY ⟨?_⟩⟩;cases hs:isS l p 5 [41] with
 | true =>
  rw [aj hs] at h;refine gC [0,4] (y83 hP hl (p:=p) (d:=d) (ns:=ns) 5 w1 (by decide) hs) ⟨gX ⟨?_⟩⟩;rw [cW];refine gT ⟨?_⟩;obtain ⟨y,s2,k2,q2,v2⟩:=u86 hP hl (show T l d (.ok (p+1,ns)) (s0 (p+1) d ns) from ⟨rfl,bg hs,h2⟩) ⟨10,0,name,[],kids⟩ (by simp) (by show kids.length<=_;omega) (nd:= .nil) (kd:=bJ kids) (.inr ⟨rfl,rfl⟩) (.inl rfl) h;refine gC [0,3] k2 ⟨?_⟩;refine ah.aD (os':=[some (PI.aY _ s2 2),none,some (aB (PI.nodes s2))]) [0,1,4] trivial rfl rfl ⟨rfl,rfl,trivial⟩ ?_;(conv=>whnf);exact ⟨_,s2,rfl,rfl,q2,v2⟩
 | false =>
  rw [ab (by rw [hs];decide)] at h;refine gC [0,4] (n83 hP hl (p:=p) (d:=d) (ns:=ns) 5 w1 (by decide) hs) ⟨gY ⟨?_⟩⟩;have arg:∀ (ρ:St) (s:PI),T l d ρ s->(∀ q ns',ρ= .ok (q,ns')->p<=q)->onS ρ (fun q ns=>bnd (mm l n (.expr d q ns)) fun (a,p,ns)=>mm l n (.args d name false (kids++[a]) p ns))=some r ->
    b4 C 2 [(2,none)] (SQ l d r) (Cfg.dy EY.l 0 [(0,.ptr 0 0 0),(2,.d (.int .i64 0)),(3,.ptr 2 0 0),(7,.arr 3 0 kids.length)] [(0,s.aY l 4),(2,.st [.d (.int .i64 kd),.d (.int .i64 pl),.d (.str name)]),(3,.da 1 (kids.map fun k=>[.int .i64 k])),(4,aB s.nodes)] 5):=by
   intro ρ s q hpq h;refine gT ⟨?_⟩;obtain ⟨r2,g2,h⟩:=ed (F:=fun p ns=>mm l n (.expr d p ns)) h;obtain ⟨v,os',k,x,s',rfl,rfl,q',v'⟩:=uni (P:=fun s r=>FnE C 175 [.ptr 0 0 0] [s.aY l 1,aB s.nodes] (SQ l d r)) (fun e s q=>Gv hP hl q (by omega)) (fun p ns r h1 h2 h=>ih (.expr d p ns) r ⟨h1,h2,h3⟩ h) q g2;refine gC [0,4] k ⟨?_⟩;rw [cW];refine gN (by simp [Sh.len];omega) ⟨?_⟩;have h:=h x v';have key:ArL C l d r kd pl name (kids++[x]) s':=by
    match r2,g2,q',v',h with
    | .error e,g2,q',v',h=>cases h;exact Gr hP hl q' kd pl name _ (by simp;omega)
    | .ok (a,q2,ns2),g2,q',v',h =>
     obtain ⟨rfl,h4,h5⟩:=q';refine ih (.args d name false (kids++[x]) q2 ns2) r ⟨h4,h5,h3,?_⟩ h (by simp) kd pl
     match ρ,g2,hpq,q with
     | .error e,g2,hpq,q=>cases g2
     | .ok (q1,ns1),g2,hpq,q =>
      have hadv:=jN l n (.expr d q1 ns1) ⟨q.2.1,q.2.2,h3⟩;rw [show mm l n (.expr d q1 ns1)=some (.ok (a,q2,ns2)) from g2] at hadv;have h6:=hadv.1;have h7:=hpq q1 ns1 rfl;simp only [lo] at h6;simp;omega
   exact ah.to key (by simp [Sh.len]) (by simp [aB,PI.aY,Sh.len,s0])
  cases kids with
  | nil =>
   rw [hf] at h;refine gX ⟨?_⟩;exact arg (.ok (p,ns)) (s0 p d ns) ⟨rfl,h1,h2⟩ (fun q ns' hq=>by cases hq;exact al _) h
  | cons k0 ks =>
   rw [hf] at h;refine gY ⟨?_⟩ (by simp);have h:=iX (ρ:= .ok (p,ns)) (K:=fun q ns=>bnd (mm l n (.expr d q ns)) fun (a,p,ns)=>mm l n (.args d name false (k0::ks++[a]) p ns)) h;obtain ⟨s1,k1,q1⟩:=kM hP hl (show T l d (.ok (p,ns)) (s0 p d ns) from ⟨rfl,h1,h2⟩) 5 [44] w2 (by decide);refine gC [0,4] k1 ⟨?_⟩;refine arg _ s1 q1 (fun q ns' hq=>?_) h;unfold ndS at hq;dsimp only at hq;split at hq
   ·cases hq;omega
   ·cases hq
end
end
theorem DG {ρ:St} {x:Int} {r2:cV} (h:onS ρ (fun p ns=>some (.ok (x,p,ns)))=some r2):st r2=ρ/\vl r2 x:=by
 match ρ,h with
 | .error e,h=>cases h;exact ⟨rfl,fun y p ns h=>by cases h⟩
 | .ok (p,ns),h=>cases h;exact ⟨rfl,fun y p ns h=>by cases h;rfl⟩
theorem ry {t':List UInt8} (h:isS l p k t=true) (hne:t≠t'):¬ isS l p k t'=true:=by
 unfold isS at *;cases hx:l[p]? with
 | none=>simp
 | some x =>
  rw [hx] at h;simp only [ag,ak] at h ⊢;intro h';exact hne (h.2.symm.trans h'.2)
section
variable {C:Ctx} (hP:C.P=Tryz.prog)
include hP
section
variable {l:List Tok} (hl:dr l) {n:Nat}
include hl
variable (ih:∀ c r,dK l c->mm l n c=some r->SC C l c r)
include ih
theorem xA {ρ:St} {r:cV} (hd:d<=20) (q:T l d ρ s) (g:onS ρ (fun p ns=>mm l n (.expr d p ns))=some r):FnE C 175 [.ptr 0 0 0] [s.aY l 1,aB s.nodes] (SQ l d r) :=
 uni (P:=fun s r=>FnE C 175 [.ptr 0 0 0] [s.aY l 1,aB s.nodes] (SQ l d r)) (fun e s q=>Gv hP hl q (by omega)) (fun p ns r h1 h2 h=>ih (.expr d p ns) r ⟨h1,h2,hd⟩ h) q g
theorem zg {ρ:St} {r:cV} (hd:d<=20) (q:T l d ρ s) (g:onS ρ (fun p ns=>mm l n (.block d p ns))=some r):FnE C 120 [.ptr 0 0 0] [s.aY l 1,aB s.nodes] (SQ l d r) :=
 uni (P:=fun s r=>FnE C 120 [.ptr 0 0 0] [s.aY l 1,aB s.nodes] (SQ l d r)) (fun e s q=>Gw hP hl q) (fun p ns r h1 h2 h=>ih (.block d p ns) r ⟨h1,h2,hd⟩ h) q g
theorem G7 {r:cV} (hc:dK l (.block d p ns)) (h:mm l (n+1) (.block d p ns)=some r):SC C l (.block d p ns) r:=by
 obtain ⟨h1,h2,h3⟩:=hc;simp only [mm] at h;refine eE hP E7 ⟨?_⟩;have q0:T l d (.ok (p,ns)) (s0 p d ns):=⟨rfl,h1,h2⟩
 have h:=iX (ρ:= .ok (p,ns)) (K:=fun p ns=>mm l n (.stmts d [] p ns)) h;obtain ⟨s1,k1,q1⟩:=kM hP hl q0 5 [123] (cm hl (by decide)) (by decide);refine gC [0,1] k1 ⟨?_⟩;exact uni (P:=fun s r=>KdL C l d r [] s) (fun e s q=>BP hP hl q [] (by simp)) (fun p ns r h1 h2 h=>ih (.stmts d [] p ns) r ⟨h1,h2,h3,by simp⟩ h) q1 h
theorem Fw {r:cV} (hc:dK l (.stmts d kids p ns)) (h:mm l (n+1) (.stmts d kids p ns)=some r):SC C l (.stmts d kids p ns) r:=by
 obtain ⟨h1,h2,h3,h0⟩:=hc;have hkl:kids.length<=300:=by have:=hl.len;omega
 simp only [mm] at h;have w1:=cm hl (t:=[125]) (by decide);refine gL ⟨gY ⟨?_⟩⟩;cases hs:isS l p 5 [125] with
 | true =>
  rw [aj hs] at h;refine gC [0,3] (y83 hP hl (p:=p) (d:=d) (ns:=ns) 5 w1 (by decide) hs) ⟨gX ⟨?_⟩⟩;rw [cW];refine gT ⟨?_⟩;obtain ⟨y,s2,k2,q2,v2⟩:=u86 hP hl (show T l d (.ok (p+1,ns)) (s0 (p+1) d ns) from ⟨rfl,bg hs,h2⟩) ⟨18,0,[],[],kids⟩ (by simp) (by show kids.length<=_;omega) (nd:= .nil) (kd:=bJ kids) (.inr ⟨rfl,rfl⟩) (.inl rfl) h;refine gC [0,2] k2 ⟨?_⟩;refine ah.aD (os':=[some (PI.aY _ s2 2),none,some (aB (PI.nodes s2))]) [0,1,3] trivial rfl rfl ⟨rfl,rfl,trivial⟩ ?_;(conv=>whnf);exact ⟨_,s2,rfl,rfl,q2,v2⟩
 | false =>
  rw [ab (by rw [hs];decide)] at h;refine gC [0,3] (n83 hP hl (p:=p) (d:=d) (ns:=ns) 5 w1 (by decide) hs) ⟨gY ⟨?_⟩⟩;obtain ⟨r2,g2,h⟩:=ed (ρ:= .ok (p,ns)) (F:=fun p ns=>mm l n (.stmt d p ns)) h;obtain ⟨v,os',k,x,s',rfl,rfl,q',v'⟩:=ih (.stmt d p ns) r2 ⟨h1,h2,h3⟩ g2;refine gC [0,3] k ⟨?_⟩;rw [cW];refine gN (by simp [Sh.len];omega) ⟨?_⟩;have h:=h x v';have key:KdL C l d r (kids++[x]) s':=by
   match r2,g2,q',v',h with
   | .error e,g2,q',v',h=>cases h;exact BP hP hl q' _ (by simp;omega)
   | .ok (a,q2,ns2),g2,q',v',h =>
    obtain ⟨rfl,h4,h5⟩:=q';refine ih (.stmts d (kids++[x]) q2 ns2) r ⟨h4,h5,h3,?_⟩ h;have hadv:=jN l n (.stmt d p ns) ⟨h1,h2,h3⟩;rw [show mm l n (.stmt d p ns)=some (.ok (a,q2,ns2)) from g2] at hadv;have h6:=hadv.1;simp only [lo] at h6;simp;omega
  exact ah.to key (by simp [Sh.len]) (by simp [aB,PI.aY,Sh.len,s0])
theorem GQ {r:cV} (h1:p<=l.length) (h2:ns.length<=200) (h3:d<=20) (h :
   (if isS l p 2 AB=true then bnd (cU l (p+1) 1) fun (t,p)=>bnd (a8 l p [61]) fun q=>bnd (mm l n (.expr d q ns)) fun (a,p,ns)=>bnd (a8 l p [59]) fun q=>cv l q ns ⟨11,0,t,[],[a]⟩
   else if isS l p 2 nH=true then bnd (mm l n (.expr d (p+1) ns)) fun (a,p,ns)=>bnd (a8 l p [59]) fun q=>cv l q ns ⟨15,0,[],[],[a]⟩
   else if isS l p 2 qH=true then bnd (mm l n (.expr d (p+1) ns)) fun (a,p,ns)=>bnd (a8 l p [59]) fun q=>cv l q ns ⟨16,0,[],[],[a]⟩
   else if isS l p 2 qG=true then bnd (bnd (a8 l (p+1) [40]) fun p=>bnd (mm l n (.expr d p ns)) fun (a,p,ns)=>bnd (a8 l p [41]) fun p=>some (.ok (a,p,ns))) fun (a,p,ns)=>bnd (mm l n (.block d p ns)) fun (b,p,ns)=>cv l p ns ⟨14,0,[],[],[a,b]⟩
   else if isS l p 2 tIf=true then bnd (bnd (a8 l (p+1) [40]) fun p=>bnd (mm l n (.expr d p ns)) fun (a,p,ns)=>bnd (a8 l p [41]) fun p=>some (.ok (a,p,ns))) fun (a,p,ns)=>bnd (mm l n (.block d p ns)) fun (b,p,ns) =>
    if isS l p 2 kr=true then bnd (mm l n (.block d (p+1) ns)) fun (c,p,ns)=>cv l p ns ⟨13,0,[],[],[a,b,c]⟩ else cv l p ns ⟨13,0,[],[],[a,b]⟩
   else if isS l p 2 AA=true then bnd (mm l n (.block d (p+1) ns)) fun (a,p,ns)=>bnd (if isS l p 2 lK=true then some (.ok (p+1)) else some (.error (3,cY l p))) fun p =>
    bnd (a8 l p [40]) fun p=>bnd (cU l p 1) fun (t,p)=>bnd (a8 l p [41]) fun p=>bnd (mm l n (.block d p ns)) fun (b,p,ns)=>cv l p ns ⟨17,0,t,[],[a,b]⟩
   else if isS l p 5 [123]=true then mm l n (.block d p ns)
   else if dc l p=1/\isS l (p+1) 5 [61]=true then bnd (mm l n (.expr d (p+2) ns)) fun (a,p',ns)=>bnd (a8 l p' [59]) fun q=>cv l q ns ⟨12,0,cF l p,[],[a]⟩
   else bnd (mm l n (.expr d p ns)) fun (a,p,ns)=>bnd (a8 l p [59]) fun q=>cv l q ns ⟨19,0,[],[],[a]⟩)=some r):FnE C 122 [.ptr 0 0 0] [(s0 p d ns).aY l 1,aB ns] (SQ l d r):=by
 refine eE hP E6 ⟨?_⟩;by_cases htLet:isS l p 2 AB=true
 ·replace h:=(aj htLet).symm.trans h;have q0:T l d (.ok (p+1,ns)) (s0 (p+1) d ns):=⟨rfl,bg htLet,h2⟩
  refine gC [0,1] (y83 hP hl (p:=p) (d:=d) (ns:=ns) 2 (dI hl (by decide)) (by decide) htLet) ⟨gY ⟨?_⟩⟩;obtain ⟨t1,s1,k1,q1,w1⟩:=Cm hP hl q0;replace h:=stepT (ρ:= .ok (p+1,ns)) (K:=fun (y:List UInt8×Nat) ns=>bnd (a8 l y.2 [61]) fun q=>bnd (mm l n (.expr d q ns)) fun (a,p,ns)=>bnd (a8 l p [59]) fun q=>cv l q ns ⟨11,0,y.1,[],[a]⟩) h w1;refine gC [0,1] k1 ⟨?_⟩;replace h:=iX (K:=fun q ns=>bnd (mm l n (.expr d q ns)) fun (a,p,ns)=>bnd (a8 l p [59]) fun q=>cv l q ns ⟨11,0,t1,[],[a]⟩) h;obtain ⟨s2,k2,q2⟩:=kM hP hl q1 5 [61] (cm hl (by decide)) (by decide);refine gC [0,1] k2 ⟨?_⟩;obtain ⟨r3,g3,h⟩:=ed (F:=fun p ns=>mm l n (.expr d p ns)) h;obtain ⟨v3,os3,k3,x3,s3,rfl,rfl,q3,w3⟩:=xA hP hl ih h3 q2 g3;refine gC [0,1] k3 ⟨?_⟩;replace h:=h x3 w3;replace h:=iX (K:=fun q ns=>cv l q ns ⟨11,0,t1,[],[x3]⟩) h;obtain ⟨s4,k4,q4⟩:=kM hP hl q3 5 [59] (cm hl (by decide)) (by decide);refine gC [0,2] k4 ⟨?_⟩;obtain ⟨y5,s5,k5,q5,w5⟩:=u86 hP hl q4 ⟨11,0,t1,[],[x3]⟩ (by simp) (by simp) (nd:= .nil) (kd:=bJ [x3]) (.inr ⟨rfl,rfl⟩) (.inl rfl) h;refine gC [0,2] k5 ⟨?_⟩;refine ah.aD (os':=[some (PI.aY _ s5 2),none,some (aB (PI.nodes s5))]) [0,1,3] trivial rfl rfl ⟨rfl,rfl,trivial⟩ ?_;(conv=>whnf);exact ⟨_,s5,rfl,rfl,q5,w5⟩
 refine gC [0,1] (n83 hP hl (p:=p) (d:=d) (ns:=ns) 2 (dI hl (by decide)) (by decide) (bx htLet)) ⟨gX ⟨?_⟩⟩;by_cases htIf:isS l p 2 tIf=true
 ·replace h:=(ab htLet).symm.trans h;replace h:=(ab (ry htIf (by decide))).symm.trans h;replace h:=(ab (ry htIf (by decide))).symm.trans h;replace h:=(ab (ry htIf (by decide))).symm.trans h;replace h:=(aj htIf).symm.trans h;have q0:T l d (.ok (p+1,ns)) (s0 (p+1) d ns):=⟨rfl,bg htIf,h2⟩
  refine gC [0,1] (y83 hP hl (p:=p) (d:=d) (ns:=ns) 2 (dI hl (by decide)) (by decide) htIf) ⟨gY ⟨?_⟩⟩;obtain ⟨r1,g1,h⟩:=ed (ρ:= .ok (p+1,ns)) (F:=fun p ns=>bnd (a8 l p [40]) fun p=>bnd (mm l n (.expr d p ns)) fun (a,p,ns)=>bnd (a8 l p [41]) fun p=>some (.ok (a,p,ns))) h;replace g1:=iX (K:=fun p ns=>bnd (mm l n (.expr d p ns)) fun (a,p,ns)=>bnd (a8 l p [41]) fun p=>some (.ok (a,p,ns))) g1;obtain ⟨s2,k2,q2⟩:=kM hP hl q0 5 [40] (cm hl (by decide)) (by decide);refine gC [0,1] k2 ⟨?_⟩;obtain ⟨r3,g3,g1⟩:=ed (F:=fun p ns=>mm l n (.expr d p ns)) g1;obtain ⟨v3,os3,k3,x3,s3,rfl,rfl,q3,w3⟩:=xA hP hl ih h3 q2 g3;refine gC [0,1] k3 ⟨?_⟩;replace g1:=g1 x3 w3;replace g1:=iX (K:=fun p ns=>some (.ok (x3,p,ns))) g1;obtain ⟨s4,k4,q4⟩:=kM hP hl q3 5 [41] (cm hl (by decide)) (by decide);refine gC [0,2] k4 ⟨?_⟩;obtain ⟨e1,w1⟩:=DG g1;replace h:=h x3 w1;rw [e1] at h;obtain ⟨r5,g5,h⟩:=ed (F:=fun p ns=>mm l n (.block d p ns)) h;obtain ⟨v5,os5,k5,x5,s5,rfl,rfl,q5,w5⟩:=zg hP hl ih h3 q4 g5;refine gC [0,2] k5 ⟨?_⟩;replace h:=h x5 w5;replace h:onS (st r5) (fun p ns=>if isS l p 2 kr=true then bnd (mm l n (.block d (p+1) ns)) fun (c,p,ns)=>cv l p ns ⟨13,0,[],[],[x3,x5,c]⟩ else cv l p ns ⟨13,0,[],[],[x3,x5]⟩)=some r:=h;generalize hρ:st r5=ρ at h q5
  match ρ,q5,h with
  | .error e,q5,h =>
   cases h;refine gC [0,3] (e83 hP hl (T.code q5) (t:=kr) (by decide)) ⟨gX ⟨?_⟩⟩;have h:onS (.error e) (fun p ns=>cv l p ns ⟨13,0,[],[],[x3,x5]⟩)=some (.error e):=rfl;obtain ⟨y6,s6,k6,q6,w6⟩:=u86 hP hl q5 ⟨13,0,[],[],[x3,x5]⟩ (by simp) (by simp) (nd:= .nil) (kd:=bJ [x3,x5]) (.inr ⟨rfl,rfl⟩) (.inl rfl) h;refine gC [0,3] k6 ⟨?_⟩;refine ah.aD (os':=[some (PI.aY _ s6 2),none,some (aB (PI.nodes s6))]) [0,1,4] trivial rfl rfl ⟨rfl,rfl,trivial⟩ ?_;(conv=>whnf);exact ⟨_,s6,rfl,rfl,q6,w6⟩
  | .ok (p2,ns2),q5,h =>
   obtain ⟨rfl,h4,h5⟩:=q5;replace h:(fun p ns=>if isS l p 2 kr=true then bnd (mm l n (.block d (p+1) ns)) fun (c,p,ns)=>cv l p ns ⟨13,0,[],[],[x3,x5,c]⟩ else cv l p ns ⟨13,0,[],[],[x3,x5]⟩) p2 ns2=some r:=h;by_cases hse:isS l p2 2 kr=true
   ·replace h:=(aj hse).symm.trans h;have q0:T l d (.ok (p2+1,ns2)) (s0 (p2+1) d ns2):=⟨rfl,bg hse,h5⟩
    refine gC [0,3] (y83 hP hl (p:=p2) (d:=d) (ns:=ns2) 2 (dI hl (by decide)) (by decide) hse) ⟨gY ⟨?_⟩⟩;obtain ⟨r7,g7,h⟩:=ed (ρ:= .ok (p2+1,ns2)) (F:=fun p ns=>mm l n (.block d p ns)) h;obtain ⟨v7,os7,k7,x7,s7,rfl,rfl,q7,w7⟩:=zg hP hl ih h3 q0 g7;refine gC [0,3] k7 ⟨?_⟩;replace h:=h x7 w7;obtain ⟨y8,s8,k8,q8,w8⟩:=u86 hP hl q7 ⟨13,0,[],[],[x3,x5,x7]⟩ (by simp) (by simp) (nd:= .nil) (kd:=bJ [x3,x5,x7]) (.inr ⟨rfl,rfl⟩) (.inl rfl) h;refine gC [0,4] k8 ⟨?_⟩;refine ah.aD (os':=[some (PI.aY _ s8 2),none,some (aB (PI.nodes s8))]) [0,1,5] trivial rfl rfl ⟨rfl,rfl,trivial⟩ ?_;(conv=>whnf);exact ⟨_,s8,rfl,rfl,q8,w8⟩
   ·replace h:=(ab hse).symm.trans h;have q0:T l d (.ok (p2,ns2)) (s0 p2 d ns2):=⟨rfl,h4,h5⟩
    refine gC [0,3] (n83 hP hl (p:=p2) (d:=d) (ns:=ns2) 2 (dI hl (by decide)) (by decide) (bx hse)) ⟨gX ⟨?_⟩⟩;obtain ⟨y9,s9,k9,q9,w9⟩:=u86 hP hl q0 ⟨13,0,[],[],[x3,x5]⟩ (by simp) (by simp) (nd:= .nil) (kd:=bJ [x3,x5]) (.inr ⟨rfl,rfl⟩) (.inl rfl) h;refine gC [0,3] k9 ⟨?_⟩;refine ah.aD (os':=[some (PI.aY _ s9 2),none,some (aB (PI.nodes s9))]) [0,1,4] trivial rfl rfl ⟨rfl,rfl,trivial⟩ ?_;(conv=>whnf);exact ⟨_,s9,rfl,rfl,q9,w9⟩
 refine gC [0,1] (n83 hP hl (p:=p) (d:=d) (ns:=ns) 2 (dI hl (by decide)) (by decide) (bx htIf)) ⟨gX ⟨?_⟩⟩;by_cases htWhile:isS l p 2 qG=true
 ·replace h:=(ab htLet).symm.trans h;replace h:=(ab (ry htWhile (by decide))).symm.trans h;replace h:=(ab (ry htWhile (by decide))).symm.trans h;replace h:=(aj htWhile).symm.trans h;have q0:T l d (.ok (p+1,ns)) (s0 (p+1) d ns):=⟨rfl,bg htWhile,h2⟩
  refine gC [0,1] (y83 hP hl (p:=p) (d:=d) (ns:=ns) 2 (dI hl (by decide)) (by decide) htWhile) ⟨gY ⟨?_⟩⟩;obtain ⟨r1,g1,h⟩:=ed (ρ:= .ok (p+1,ns)) (F:=fun p ns=>bnd (a8 l p [40]) fun p=>bnd (mm l n (.expr d p ns)) fun (a,p,ns)=>bnd (a8 l p [41]) fun p=>some (.ok (a,p,ns))) h;replace g1:=iX (K:=fun p ns=>bnd (mm l n (.expr d p ns)) fun (a,p,ns)=>bnd (a8 l p [41]) fun p=>some (.ok (a,p,ns))) g1;obtain ⟨s2,k2,q2⟩:=kM hP hl q0 5 [40] (cm hl (by decide)) (by decide);refine gC [0,1] k2 ⟨?_⟩;obtain ⟨r3,g3,g1⟩:=ed (F:=fun p ns=>mm l n (.expr d p ns)) g1;obtain ⟨v3,os3,k3,x3,s3,rfl,rfl,q3,w3⟩:=xA hP hl ih h3 q2 g3;refine gC [0,1] k3 ⟨?_⟩;replace g1:=g1 x3 w3;replace g1:=iX (K:=fun p ns=>some (.ok (x3,p,ns))) g1;obtain ⟨s4,k4,q4⟩:=kM hP hl q3 5 [41] (cm hl (by decide)) (by decide);refine gC [0,2] k4 ⟨?_⟩;obtain ⟨e1,w1⟩:=DG g1;replace h:=h x3 w1;rw [e1] at h;obtain ⟨r5,g5,h⟩:=ed (F:=fun p ns=>mm l n (.block d p ns)) h;obtain ⟨v5,os5,k5,x5,s5,rfl,rfl,q5,w5⟩:=zg hP hl ih h3 q4 g5;refine gC [0,2] k5 ⟨?_⟩;replace h:=h x5 w5;obtain ⟨y6,s6,k6,q6,w6⟩:=u86 hP hl q5 ⟨14,0,[],[],[x3,x5]⟩ (by simp) (by simp) (nd:= .nil) (kd:=bJ [x3,x5]) (.inr ⟨rfl,rfl⟩) (.inl rfl) h;refine gC [0,3] k6 ⟨?_⟩;refine ah.aD (os':=[some (PI.aY _ s6 2),none,some (aB (PI.nodes s6))]) [0,1,4] trivial rfl rfl ⟨rfl,rfl,trivial⟩ ?_;(conv=>whnf);exact ⟨_,s6,rfl,rfl,q6,w6⟩
 refine gC [0,1] (n83 hP hl (p:=p) (d:=d) (ns:=ns) 2 (dI hl (by decide)) (by decide) (bx htWhile)) ⟨gX ⟨?_⟩⟩;by_cases htReturn:isS l p 2 nH=true
 ·replace h:=(ab htLet).symm.trans h;replace h:=(aj htReturn).symm.trans h;have q0:T l d (.ok (p+1,ns)) (s0 (p+1) d ns):=⟨rfl,bg htReturn,h2⟩
  refine gC [0,1] (y83 hP hl (p:=p) (d:=d) (ns:=ns) 2 (dI hl (by decide)) (by decide) htReturn) ⟨gY ⟨?_⟩⟩;obtain ⟨r1,g1,h⟩:=ed (ρ:= .ok (p+1,ns)) (F:=fun p ns=>mm l n (.expr d p ns)) h;obtain ⟨v1,os1,k1,x1,s1,rfl,rfl,q1,w1⟩:=xA hP hl ih h3 q0 g1;refine gC [0,1] k1 ⟨?_⟩;replace h:=h x1 w1;replace h:=iX (K:=fun q ns=>cv l q ns ⟨15,0,[],[],[x1]⟩) h;obtain ⟨s2,k2,q2⟩:=kM hP hl q1 5 [59] (cm hl (by decide)) (by decide);refine gC [0,2] k2 ⟨?_⟩;obtain ⟨y3,s3,k3,q3,w3⟩:=u86 hP hl q2 ⟨15,0,[],[],[x1]⟩ (by simp) (by simp) (nd:= .nil) (kd:=bJ [x1]) (.inr ⟨rfl,rfl⟩) (.inl rfl) h;refine gC [0,2] k3 ⟨?_⟩;refine ah.aD (os':=[some (PI.aY _ s3 2),none,some (aB (PI.nodes s3))]) [0,1,3] trivial rfl rfl ⟨rfl,rfl,trivial⟩ ?_;(conv=>whnf);exact ⟨_,s3,rfl,rfl,q3,w3⟩
 refine gC [0,1] (n83 hP hl (p:=p) (d:=d) (ns:=ns) 2 (dI hl (by decide)) (by decide) (bx htReturn)) ⟨gX ⟨?_⟩⟩;by_cases htThrow:isS l p 2 qH=true
 ·replace h:=(ab htLet).symm.trans h;replace h:=(ab htReturn).symm.trans h;replace h:=(aj htThrow).symm.trans h;have q0:T l d (.ok (p+1,ns)) (s0 (p+1) d ns):=⟨rfl,bg htThrow,h2⟩
  refine gC [0,1] (y83 hP hl (p:=p) (d:=d) (ns:=ns) 2 (dI hl (by decide)) (by decide) htThrow) ⟨gY ⟨?_⟩⟩;obtain ⟨r1,g1,h⟩:=ed (ρ:= .ok (p+1,ns)) (F:=fun p ns=>mm l n (.expr d p ns)) h;obtain ⟨v1,os1,k1,x1,s1,rfl,rfl,q1,w1⟩:=xA hP hl ih h3 q0 g1;refine gC [0,1] k1 ⟨?_⟩;replace h:=h x1 w1;replace h:=iX (K:=fun q ns=>cv l q ns ⟨16,0,[],[],[x1]⟩) h;obtain ⟨s2,k2,q2⟩:=kM hP hl q1 5 [59] (cm hl (by decide)) (by decide);refine gC [0,2] k2 ⟨?_⟩;obtain ⟨y3,s3,k3,q3,w3⟩:=u86 hP hl q2 ⟨16,0,[],[],[x1]⟩ (by simp) (by simp) (nd:= .nil) (kd:=bJ [x1]) (.inr ⟨rfl,rfl⟩) (.inl rfl) h;refine gC [0,2] k3 ⟨?_⟩;refine ah.aD (os':=[some (PI.aY _ s3 2),none,some (aB (PI.nodes s3))]) [0,1,3] trivial rfl rfl ⟨rfl,rfl,trivial⟩ ?_;(conv=>whnf);exact ⟨_,s3,rfl,rfl,q3,w3⟩
 refine gC [0,1] (n83 hP hl (p:=p) (d:=d) (ns:=ns) 2 (dI hl (by decide)) (by decide) (bx htThrow)) ⟨gX ⟨?_⟩⟩;by_cases htTry:isS l p 2 AA=true
 ·replace h:=(ab htLet).symm.trans h;replace h:=(ab htReturn).symm.trans h;replace h:=(ab htThrow).symm.trans h;replace h:=(ab htWhile).symm.trans h;replace h:=(ab htIf).symm.trans h;replace h:=(aj htTry).symm.trans h;have q0:T l d (.ok (p+1,ns)) (s0 (p+1) d ns):=⟨rfl,bg htTry,h2⟩
  refine gC [0,1] (y83 hP hl (p:=p) (d:=d) (ns:=ns) 2 (dI hl (by decide)) (by decide) htTry) ⟨gY ⟨?_⟩⟩;obtain ⟨r1,g1,h⟩:=ed (ρ:= .ok (p+1,ns)) (F:=fun p ns=>mm l n (.block d p ns)) h;obtain ⟨v1,os1,k1,x1,s1,rfl,rfl,q1,w1⟩:=zg hP hl ih h3 q0 g1;refine gC [0,1] k1 ⟨?_⟩;replace h:=h x1 w1;replace h:=Fk (K:=fun p ns=>bnd (a8 l p [40]) fun p=>bnd (cU l p 1) fun (t,p)=>bnd (a8 l p [41]) fun p=>bnd (mm l n (.block d p ns)) fun (b,p,ns)=>cv l p ns ⟨17,0,t,[],[x1,b]⟩) h;obtain ⟨s2,k2,q2⟩:=kM hP hl q1 2 lK (dI hl (by decide)) (by decide);refine gC [0,2] k2 ⟨?_⟩;replace h:=iX (K:=fun p ns=>bnd (cU l p 1) fun (t,p)=>bnd (a8 l p [41]) fun p=>bnd (mm l n (.block d p ns)) fun (b,p,ns)=>cv l p ns ⟨17,0,t,[],[x1,b]⟩) h;obtain ⟨s3,k3,q3⟩:=kM hP hl q2 5 [40] (cm hl (by decide)) (by decide);refine gC [0,2] k3 ⟨?_⟩;have tail:∀ (t:List UInt8) (ρ:St) (s:PI),T l d ρ s->onS ρ (fun p ns=>bnd (a8 l p [41]) fun p=>bnd (mm l n (.block d p ns)) fun (b,p,ns)=>cv l p ns ⟨17,0,t,[],[x1,b]⟩)=some r->b4 C 2 [(2,none)] (SQ l d r) (Cfg.dy E6.l 0 [(0,.ptr 0 0 0),(12,.d (.int .i64 x1)),(13,.d (.str t))] [(0,s.aY l 2),(2,aB s.nodes)] 3):=by
   intro t ρ s q h;refine gT ⟨?_⟩;replace h:=iX (K:=fun p ns=>bnd (mm l n (.block d p ns)) fun (b,p,ns)=>cv l p ns ⟨17,0,t,[],[x1,b]⟩) h;obtain ⟨s4,k4,q4⟩:=kM hP hl q 5 [41] (cm hl (by decide)) (by decide);refine gC [0,2] k4 ⟨?_⟩;obtain ⟨r5,g5,h⟩:=ed (F:=fun p ns=>mm l n (.block d p ns)) h;obtain ⟨v5,os5,k5,x5,s5,rfl,rfl,q5,w5⟩:=zg hP hl ih h3 q4 g5;refine gC [0,2] k5 ⟨?_⟩;replace h:=h x5 w5;obtain ⟨y6,s6,k6,q6,w6⟩:=u86 hP hl q5 ⟨17,0,t,[],[x1,x5]⟩ (by simp) (by simp) (nd:= .nil) (kd:=bJ [x1,x5]) (.inr ⟨rfl,rfl⟩) (.inl rfl) h;refine gC [0,3] k6 ⟨?_⟩;refine ah.aD (os':=[some (PI.aY _ s6 2),none,some (aB (PI.nodes s6))]) [0,1,4] trivial rfl rfl ⟨rfl,rfl,trivial⟩ ?_;(conv=>whnf);exact ⟨_,s6,rfl,rfl,q6,w6⟩
  generalize ndS l 5 [40] (ndS l 2 lK (st r1))=ρ at h q3
  match ρ,q3,h with
  | .error e,q3,h =>
   refine gX ⟨?_⟩ (aI (T.code q3));exact tail [] (.error e) _ q3 (by cases h;rfl)
  | .ok (p2,ns2),q3,h =>
   have hz:=q3.1;refine gY ⟨?_⟩ (aR (by rw [hz];rfl));obtain ⟨t7,s7,k7,q7,w7⟩:=Cm hP hl q3;replace h:=stepT (K:=fun (y:List UInt8×Nat) ns=>bnd (a8 l y.2 [41]) fun p=>bnd (mm l n (.block d p ns)) fun (b,p,ns)=>cv l p ns ⟨17,0,y.1,[],[x1,b]⟩) h w7;refine gC [0,2] k7 ⟨?_⟩;exact tail t7 _ _ q7 h
 refine gC [0,1] (n83 hP hl (p:=p) (d:=d) (ns:=ns) 2 (dI hl (by decide)) (by decide) (bx htTry)) ⟨gX ⟨?_⟩⟩;have hk7:=sQ hP hl (d:=d) p ns 5 (t:=[123]) (cm hl (by decide)) (by decide);have q0:T l d (.ok (p,ns)) (s0 p d ns):=⟨rfl,h1,h2⟩
 replace h:=(ab htLet).symm.trans h;replace h:=(ab htReturn).symm.trans h;replace h:=(ab htThrow).symm.trans h;replace h:=(ab htWhile).symm.trans h;replace h:=(ab htIf).symm.trans h;replace h:=(ab htTry).symm.trans h;by_cases hs7:isS l p 5 [123]=true
 ·replace h:=(aj hs7).symm.trans h;rw [hs7] at hk7;refine gC [0,1] hk7 ⟨gY ⟨?_⟩⟩;obtain ⟨v,os,k,x,s',rfl,rfl,q',w'⟩:=zg hP hl ih (ρ:= .ok (p,ns)) h3 q0 h;refine gC [0,1] k ⟨?_⟩;refine ah.aD (os':=[some (PI.aY _ s' 2),none,some (aB (PI.nodes s'))]) [0,1,2] trivial rfl rfl ⟨rfl,rfl,trivial⟩ ?_;(conv=>whnf);exact ⟨_,s',rfl,rfl,q',w'⟩
 replace h:=(ab hs7).symm.trans h;rw [bx hs7] at hk7;refine gC [0,1] hk7 ⟨gX ⟨gX ⟨?_⟩⟩⟩;have dflt:¬ (dc l p=1/\isS l (p+1) 5 [61]=true)->b4 C 2 [(2,none)] (SQ l d r) (Cfg.dy E6.l 1 [(0,.ptr 0 0 0)] [(0,(s0 p d ns).aY l 1),(1,aB ns)] 2):=by
  intro hk;replace h:=(ab hk).symm.trans h;refine gT ⟨?_⟩;obtain ⟨r1,g1,h⟩:=ed (ρ:= .ok (p,ns)) (F:=fun p ns=>mm l n (.expr d p ns)) h;obtain ⟨v1,os1,k1,x1,s1,rfl,rfl,q1,w1⟩:=xA hP hl ih h3 q0 g1;refine gC [0,1] k1 ⟨?_⟩;replace h:=h x1 w1;replace h:=iX (K:=fun q ns=>cv l q ns ⟨19,0,[],[],[x1]⟩) h;obtain ⟨s2,k2,q2⟩:=kM hP hl q1 5 [59] (cm hl (by decide)) (by decide);refine gC [0,2] k2 ⟨?_⟩;obtain ⟨y3,s3,k3,q3,w3⟩:=u86 hP hl q2 ⟨19,0,[],[],[x1]⟩ (by simp) (by simp) (nd:= .nil) (kd:=bJ [x1]) (.inr ⟨rfl,rfl⟩) (.inl rfl) h;refine gC [0,2] k3 ⟨?_⟩;refine ah.aD (os':=[some (PI.aY _ s3 2),none,some (aB (PI.nodes s3))]) [0,1,3] trivial rfl rfl ⟨rfl,rfl,trivial⟩ ?_;(conv=>whnf);exact ⟨_,s3,rfl,rfl,q3,w3⟩
 cases hx:l[p]? with
 | none =>
  refine gC [0,1] (Fg hP hl (d:=d) (ns:=ns) hx) ⟨gX ⟨?_⟩⟩;exact dflt (fun hh=>by have:=hh.1;simp [dc,hx] at this)
 | some x =>
  have hlt:=(af.1 hx).1;refine gC [0,1] (zz hP hl (d:=d) (ns:=ns) hx) ⟨?_⟩;by_cases hk:x.kind=1
  ·have hkp:dc l p=1:=by simp [dc,hx,hk]
   refine gY ⟨?_⟩ (aR hk);rw [aC (n:=(s0 p d ns).pos) (by have:=hl.len;show p < _;omega)];by_cases hq:p+1 < l.length
   ·obtain ⟨y,hy⟩:∃ y,l[p+1]?=some y:=⟨_,aa hq⟩
    refine gY ⟨?_⟩ (aR (by rw [aJ];show ((p:Nat):Int)+1 < _;omega));rw [aC (n:=(s0 p d ns).pos) (by have:=hl.len;show p < _;omega)];refine gD (fH hy) ⟨?_⟩;by_cases hyt:y.text=[61]
    ·refine gY ⟨?_⟩ (aR hyt);rw [aC (n:=(s0 p d ns).pos) (by have:=hl.len;show p < _;omega)];refine gD (fH hy) ⟨?_⟩;by_cases hyk:y.kind=5
     ·have hs8:isS l (p+1) 5 [61]=true:=by simp [isS,hy,hyk,hyt]
      replace h:=(aj ⟨hkp,hs8⟩).symm.trans h;rw [show cF l p=x.text by simp [cF,hx]] at h;refine gY ⟨?_⟩ (aR hyk);rw [show ((s0 p d ns).pos:Int)+2=((p+2:Nat):Int) by show ((p:Nat):Int)+2=_;omega,wrap_i64 (by have:=hl.len;omega)];have q0:T l d (.ok (p+2,ns)) (s0 (p+2) d ns):=⟨rfl,hq,h2⟩
      obtain ⟨r1,g1,h⟩:=ed (ρ:= .ok (p+2,ns)) (F:=fun p ns=>mm l n (.expr d p ns)) h;obtain ⟨v1,os1,k1,x1,s1,rfl,rfl,q1,w1⟩:=xA hP hl ih h3 q0 g1;refine gC [0,1] k1 ⟨?_⟩;replace h:=h x1 w1;replace h:=iX (K:=fun q ns=>cv l q ns ⟨12,0,x.text,[],[x1]⟩) h;obtain ⟨s2,k2,q2⟩:=kM hP hl q1 5 [59] (cm hl (by decide)) (by decide);refine gC [0,3] k2 ⟨?_⟩;obtain ⟨y3,s3,k3,q3,w3⟩:=u86 hP hl q2 ⟨12,0,x.text,[],[x1]⟩ (by simp) (by simp) (nd:= .nil) (kd:=bJ [x1]) (.inr ⟨rfl,rfl⟩) (.inl rfl) h;refine gC [0,3] k3 ⟨?_⟩;refine ah.aD (os':=[some (PI.aY _ s3 2),none,some (aB (PI.nodes s3))]) [0,1,4] trivial rfl rfl ⟨rfl,rfl,trivial⟩ ?_;(conv=>whnf);exact ⟨_,s3,rfl,rfl,q3,w3⟩
     ·refine gX ⟨?_⟩ (aI hyk);exact dflt (fun hh=>by have:=hh.2;simp [isS,hy,hyk] at this)
    ·refine gX ⟨?_⟩ (aI hyt);exact dflt (fun hh=>by have:=hh.2;simp [isS,hy,hyt] at this)
   ·refine gX ⟨?_⟩ (aI (by rw [aJ];show ¬ ((p:Nat):Int)+1 < _;omega));exact dflt (fun hh=>hq (bg hh.2))
  ·refine gX ⟨?_⟩ (aI hk);exact dflt (fun hh=>by have:=hh.1;simp [dc,hx] at this;exact hk this)
end
end
theorem T.up {ρ:St} (h:T l (d+1) ρ s):T l d ρ {s with opn:=s.opn - 1}:=by
 match ρ,h with
 | .ok (p,ns),h =>
  obtain ⟨rfl,h1,h2⟩:=h;exact ⟨by unfold s0;simp,h1,h2⟩
 | .error e,h =>
  have:=h.opn;exact ⟨h.1,h.2.1,h.2.2.1,h.2.2.2.1,h.2.2.2.2.1,by show s.opn - 1=d;omega⟩
section
variable {C:Ctx} (hP:C.P=Tryz.prog)
include hP
section
variable {l:List Tok} (hl:dr l) {n:Nat}
include hl
theorem Ib {e:Int×Int} (q:T l 0 (.error e) s) (name:List UInt8) (names:List (List UInt8)) (hk:names.length<=301):b4 C 2 [(2,none)] (SQ l 0 (.error e)) (Cfg.dy c84.l 1 [(0,.ptr 0 0 0),(3,.d (.str name)),(4,.d (strs names))] [(0,s.aY l 2),(2,aB s.nodes)] 3):=by
 refine gT ⟨?_⟩;obtain ⟨v,os',k,x,s',rfl,rfl,q',v'⟩:=Gw hP hl q;refine gC [0,2] k ⟨?_⟩;obtain ⟨y,s1,k1,q1,_⟩:=u86 hP hl q' ⟨20,0,name,names,[x]⟩ (by show names.length<=_;omega) (by simp) (nd:=strs names) (kd:=bJ [x]) (.inl rfl) (.inl rfl) (r:= .error e) rfl;refine gC [0,3] k1 ⟨?_⟩;refine ah.aD (os':=[some (PI.aY _ s1 2),none,some (aB (PI.nodes s1))]) [0,1,4] trivial rfl rfl ⟨rfl,rfl,trivial⟩ ?_;(conv=>whnf);exact ⟨_,s1,rfl,rfl,q1,vlE _⟩
theorem ER {e:Int×Int} (q:T l 0 (.error e) s) (name:List UInt8) (names:List (List UInt8)) (hk:names.length<=301):FnL C l (.error e) name names s:=by
 have:=Ib hP hl q name names hk;refine gL ⟨gX ⟨?_⟩ (aI (T.code q))⟩;rw [gZ];exact this
variable (ih:∀ c r,dK l c->mm l n c=some r->SC C l c r)
include ih
theorem s85 {r:cV} (hc:dK l (.stmt d p ns)) (h:mm l (n+1) (.stmt d p ns)=some r):SC C l (.stmt d p ns) r:=by
 obtain ⟨h1,h2,h3⟩:=hc;refine eE hP c85 ⟨?_⟩;by_cases hd:d=20
 ·rw [show mm l (n+1) (.stmt d p ns)=some (.error (9,cY l p)) from aj hd] at h;cases h;subst hd;refine gC [0,1] (n121 hP hl (p:=p) (ns:=ns)) ⟨gY ⟨?_⟩⟩;refine ah.aD (os':=[some (PI.aY _ ({sF l p 21 ns 9 with opn:=20}) 2),none,some (aB (PI.nodes ({sF l p 21 ns 9 with opn:=20})))]) [0,1,2] trivial rfl rfl ⟨rfl,rfl,trivial⟩ ?_;(conv=>whnf);exact ⟨_,{sF l p 21 ns 9 with opn:=20},rfl,rfl,⟨rfl,rfl,by show (9:Int)≠0;decide,h2,h1,rfl⟩,vlE _⟩
 ·replace h:=(ab hd).symm.trans h;refine gC [0,1] (DT hP hl (p:=p) (d:=d) (ns:=ns) (by omega)) ⟨gX ⟨?_⟩⟩;obtain ⟨v,os',k,x,s',rfl,rfl,q',v'⟩:=GQ hP hl ih h1 h2 (by omega:d+1<=20) h;refine gC [0,1] k ⟨?_⟩;have ho:=q'.opn;rw [wrap_i64 (by omega)];refine ah.aD (os':=[some (PI.aY _ ({s' with opn:=s'.opn - 1}) 2),none,some (aB (PI.nodes ({s' with opn:=s'.opn - 1})))]) [0,1,2] trivial rfl rfl ⟨rfl,rfl,trivial⟩ ?_;(conv=>whnf);exact ⟨_,{s' with opn:=s'.opn - 1},rfl,rfl,q'.up,v'⟩
theorem GS {names:List (List UInt8)} {r:cV} (hc:dK l (.cd name names p ns)) (h:mm l (n+1) (.cd name names p ns)=some r):SC C l (.cd name names p ns) r:=by
 obtain ⟨h1,h2,h0⟩:=hc;have hkl:names.length<=300:=by have:=hl.len;omega
 simp only [mm] at h;have w1:=cm hl (t:=[41]) (by decide);have w2:=cm hl (t:=[44]) (by decide);refine gL ⟨gY ⟨?_⟩⟩;cases hs:isS l p 5 [41] with
 | true =>
  rw [aj hs] at h;refine gC [0,3] (y83 hP hl (p:=p) (d:=0) (ns:=ns) 5 w1 (by decide) hs) ⟨gX ⟨?_⟩⟩;rw [gZ];refine gT ⟨?_⟩;obtain ⟨r2,g2,h⟩:=ed (ρ:= .ok (p+1,ns)) (F:=fun p ns=>mm l n (.block 0 p ns)) h;obtain ⟨v,os',k,x,s',rfl,rfl,q',v'⟩:=ih (.block 0 (p+1) ns) r2 ⟨bg hs,h2,by decide⟩ g2;refine gC [0,2] k ⟨?_⟩;obtain ⟨y,s2,k2,q2,v2⟩:=u86 hP hl q' ⟨20,0,name,names,[x]⟩ (by show names.length<=_;omega) (by simp) (nd:=strs names) (kd:=bJ [x]) (.inl rfl) (.inl rfl) (h x v');refine gC [0,3] k2 ⟨?_⟩;refine ah.aD (os':=[some (PI.aY _ s2 2),none,some (aB (PI.nodes s2))]) [0,1,4] trivial rfl rfl ⟨rfl,rfl,trivial⟩ ?_;(conv=>whnf);exact ⟨_,s2,rfl,rfl,q2,v2⟩
 | false =>
  rw [ab (by rw [hs];decide)] at h;refine gC [0,3] (n83 hP hl (p:=p) (d:=0) (ns:=ns) 5 w1 (by decide) hs) ⟨gY ⟨?_⟩⟩;have arg:∀ (ρ:St) (s:PI),T l 0 ρ s->(∀ q ns',ρ= .ok (q,ns')->p<=q)->onS ρ (fun q ns=>bnd (cU l q 1) fun y=>mm l n (.cd name (names++[y.1]) y.2 ns))=some r ->
    b4 C 2 [(2,none)] (SQ l 0 r) (Cfg.dy c84.l 0 [(0,.ptr 0 0 0),(2,.d (.int .i64 0)),(3,.d (.str name)),(4,.arr 2 0 names.length)] [(0,s.aY l 3),(2,.da 1 (names.map fun t=>[.str t])),(3,aB s.nodes)] 4):=by
   intro ρ s q hpq h;refine gT ⟨?_⟩
   match ρ,q,hpq,h with
   | .error e,q,hpq,h =>
    refine gX ⟨?_⟩ (aI (T.code q));cases h;exact ER hP hl q name names (by omega)
   | .ok (q1,ns1),q,hpq,h =>
    have hz:=q.1;refine gY ⟨?_⟩ (aR (by rw [hz];rfl));obtain ⟨t,s',k,q',ht⟩:=Cm hP hl q;replace h:=stepT (K:=fun y ns=>mm l n (.cd name (names++[y.1]) y.2 ns)) h ht;refine gC [0,3] k ⟨?_⟩;rw [gZ];refine gN (by simp [Sh.len];omega) ⟨?_⟩;have key:FnL C l r name (names++[t]) s':=by
     unfold nmS at h q';dsimp only at h q';split at h
     ·rename_i hk;rw [aj hk] at q';obtain ⟨rfl,h4,h5⟩:=q';exact ih (.cd name (names++[t]) (q1+1) ns1) r ⟨h4,h5,by have:=hpq q1 ns1 rfl;simp;omega⟩ h
     ·rename_i hk;rw [ab hk] at q';cases h;exact ER hP hl q' name _ (by simp;omega)
    exact ah.to key (by simp [Sh.len]) (by simp [aB,PI.aY,Sh.len,s0])
  cases names with
  | nil =>
   refine gX ⟨?_⟩;exact arg (.ok (p,ns)) (s0 p 0 ns) ⟨rfl,h1,h2⟩ (fun q ns' hq=>by cases hq;exact al _) h
  | cons t0 ts =>
   refine gY ⟨?_⟩ (by simp);have h:=iX (ρ:= .ok (p,ns)) (K:=fun q ns=>bnd (cU l q 1) fun y=>mm l n (.cd name (t0::ts++[y.1]) y.2 ns)) h;obtain ⟨s1,k1,q1⟩:=kM hP hl (show T l 0 (.ok (p,ns)) (s0 p 0 ns) from ⟨rfl,h1,h2⟩) 5 [44] w2 (by decide);refine gC [0,3] k1 ⟨?_⟩;refine arg _ s1 q1 (fun q ns' hq=>?_) h;unfold ndS at hq;dsimp only at hq;split at hq
   ·cases hq;omega
   ·cases hq
theorem w84 {r:cV} (h1:p<=l.length) (h2:ns.length<=200)
  (h:(bnd (cU l p 1) fun (t,p)=>bnd (a8 l p [40]) fun p=>mm l n (.cd t [] p ns))=some r):FnE C 84 [.ptr 0 0 0] [(s0 p 0 ns).aY l 1,aB ns] (SQ l 0 r):=by
 refine eE hP c84 ⟨?_⟩;obtain ⟨t,s1,k1,q1,ht⟩:=Cm hP hl (show T l 0 (.ok (p,ns)) (s0 p 0 ns) from ⟨rfl,h1,h2⟩);replace h:=stepT (ρ:= .ok (p,ns)) (K:=fun y ns=>bnd (a8 l y.2 [40]) fun p=>mm l n (.cd y.1 [] p ns)) h ht;refine gC [0,1] k1 ⟨?_⟩;replace h:=iX (K:=fun p ns=>mm l n (.cd t [] p ns)) h;obtain ⟨s2,k2,q2⟩:=kM hP hl q1 5 [40] (cm hl (by decide)) (by decide);refine gC [0,1] k2 ⟨?_⟩;exact uni (P:=fun s r=>FnL C l r t [] s) (fun e s q=>ER hP hl q t [] (by simp)) (fun p ns r h1 h2 h=>ih (.cd t [] p ns) r ⟨h1,h2,by simp⟩ h) q2 h
end
end
section
variable {C:Ctx} (hP:C.P=Tryz.prog)
include hP
section
variable {l:List Tok} (hl:dr l)
include hl
theorem sc:∀ (n m:Nat),m<=n->∀ (c:jg) (r:cV),dK l c->mm l m c=some r->SC C l c r
 | n,0,_,c,r,hc,h=>by cases c<;>simp [mm] at h
 | 0,m+1,hm,c,r,hc,h=>by omega
 | n+1,m+1,hm,c,r,hc,h=>by
  have ihs:∀ m',m'<=m->∀ c r,dK l c->mm l m' c=some r->SC C l c r:=fun m' hm'=>sc n m' (by omega)
  have ih:=ihs m (al _);cases c with
  | expr d p ns=>exact G6 hP hl ihs hc h
  | op d k p ns =>
   obtain ⟨h1,h2,h3,h4⟩:=hc;have hc:dK l (.op d k p ns):=⟨h1,h2,h3,h4⟩
   match k,h4,hc,h with
   | 0,_,_,_=>trivial
   | 1,_,hc,h=>exact G2 hP hl ih hc h
   | 2,_,hc,h=>exact G1 hP hl ih hc h
   | 3,_,hc,h=>exact GX hP hl ih hc h
   | 4,_,hc,h=>exact GW hP hl ih hc h
   | 5,_,hc,h =>
    simp only [mm] at h;exact ih (.un d p ns) r ⟨h1,h2,h3⟩ h
   | k+6,h4,_,_=>omega
  | opL d k a p ns =>
   obtain ⟨h1,h2,h3,h4⟩:=hc;have hc:dK l (.opL d k a p ns):=⟨h1,h2,h3,h4⟩
   match k,h4,hc,h with
   | 0,_,hc,h=>exact Fv hP hl ih hc h
   | 1,_,hc,h=>exact Ft hP hl ih hc h
   | 2,_,hc,h=>exact Fs hP hl ih hc h
   | 3,_,hc,h=>exact Fq hP hl ih hc h
   | 4,_,hc,h=>exact Fp hP hl ih hc h
   | k+5,h4,_,_=>omega
  | un d p ns=>exact GV hP hl ih hc h
  | jJ d p ns=>exact GU hP hl ih hc h
  | args d name first kids p ns=>exact Fo hP hl ih hc h
  | block d p ns=>exact G7 hP hl ih hc h
  | stmts d kids p ns=>exact Fw hP hl ih hc h
  | stmt d p ns=>exact s85 hP hl ih hc h
  | cd name names p ns=>exact GS hP hl ih hc h
  | top kids p ns=>trivial
def TpL (C:Ctx) (l:List Tok) (r:cV) (ks:List Int) (s:PI):Prop:=b4 C 0 [(2,some (some 2)),(3,none),(4,none)] (fun v os'=>v=kT r/\os'=[]) (Cfg.eF c51.l 0 [(2,.ptr 0 0 0),(3,.d (.int .i64 0)),(4,.d (.int .i64 0)),(8,.ptr 1 0 0),(9,.arr 2 0 ks.length)]
   [(0,.st [.d .nil,.d (.int .i64 0)]),(1,s.aY l 3),(2,.da 1 (ks.map fun k=>[.int .i64 k])),(3,aB s.nodes)] 4)
theorem Gq {ρ:St} (q:T l 0 ρ s) (ks:List Int) (hk:ks.length<=301) {r:cV} (h:onS ρ (fun p ns=>cv l p ns ⟨18,0,[],[],ks⟩)=some r) :
  b4 C 0 [(2,some (some 2)),(3,none),(4,none)] (fun v os'=>v=kT r/\os'=[]) (Cfg.dy c51.l 0 [(2,.ptr 0 0 0),(8,.ptr 1 0 0),(9,.d (bJ ks))] [(0,.st [.d .nil,.d (.int .i64 0)]),(1,s.aY l 2),(2,aB s.nodes)] 3):=by
 refine gT ⟨?_⟩;obtain ⟨y,s1,k1,q1,v1⟩:=u86 hP hl q ⟨18,0,[],[],ks⟩ (by simp) (by show ks.length<=_;omega) (nd:= .nil) (kd:=bJ ks) (.inr ⟨rfl,rfl⟩) (.inl rfl) h;refine gC [1,2] k1 ⟨?_⟩
 match r,q1,v1 with
 | .error e,q1,v1 =>
  refine gY ⟨?_⟩ (by simp [T.code q1]);refine ah.aD (os':=[]) [0] trivial (by rfl) (by rfl) trivial ?_;(conv=>whnf);refine ⟨?_,rfl⟩;rw [q1.1,q1.2.1];rfl
 | .ok (a,p,ns),q1,v1 =>
  obtain ⟨rfl,h1,h2⟩:=q1;rw [v1 a p ns rfl];refine gX ⟨?_⟩;refine ah.aD (os':=[]) [0] trivial (by rfl) (by rfl) trivial ?_;(conv=>whnf);refine ⟨?_,rfl⟩;simp [kT,Ax,ae,s0]
theorem Ic {e:Int×Int} (q:T l 0 (.error e) s) (ks:List Int) (hk:ks.length<=301):TpL C l (.error e) ks s:=by
 have fin:=Gq (C:=C) hP hl q ks hk (r:= .error e) rfl;refine gL ⟨gX ⟨?_⟩ (aI (T.code q))⟩;rw [cW];exact fin
theorem Fm:∀ (n:Nat) (kids:List Int) (p:Nat) (ns:List Nd) (r:cV),dK l (.top kids p ns)->mm l n (.top kids p ns)=some r->TpL C l r kids (s0 p 0 ns)
 | 0,kids,p,ns,r,hc,h=>by simp [mm] at h
 | n+1,kids,p,ns,r,hc,h=>by
  obtain ⟨h1,h2,h0⟩:=hc;have hkl:kids.length<=300:=by have:=hl.len;omega
  have ih:=sc hP hl n n (al _);have again:=Fm n;simp only [mm] at h;refine gL ⟨gY ⟨?_⟩⟩;have next:∀ (r2:cV) (x:Int) (s':PI),T l 0 (st r2) s'->vl r2 x->(∀ a q ns',r2= .ok (a,q,ns')->p+1<=q)->onS (st r2) (fun q ns=>mm l n (.top (kids++[x]) q ns))=some r->TpL C l r (kids++[x]) s':=by
   intro r2 x s' q' v' hq h
   match r2,q',v',hq,h with
   | .error e,q',v',hq,h=>cases h;exact Ic hP hl q' _ (by simp;omega)
   | .ok (a,q2,ns2),q',v',hq,h =>
    obtain ⟨rfl,h4,h5⟩:=q';exact again (kids++[x]) q2 ns2 r ⟨h4,h5,by have:=hq a q2 ns2 rfl;simp;omega⟩ h
  by_cases hp:p < l.length
  ·rw [aj hp] at h;refine gY ⟨?_⟩ (aR (by rw [aJ];show ((p:Nat):Int) < _;omega));cases hs:isS l p 2 oE with
   | true =>
    rw [aj hs] at h;refine gC [1,3] (y83 hP hl (p:=p) (d:=0) (ns:=ns) 2 (dI hl (by decide)) (by decide) hs) ⟨gY ⟨?_⟩⟩;have hx:(bnd (bnd (cU l (p+1) 1) fun (t,p)=>bnd (a8 l p [40]) fun p=>mm l n (.cd t [] p ns)) fun (a,p,ns)=>mm l n (.top (kids++[a]) p ns))=some r:=by
     rw [<- h];cases cU l (p+1) 1 with
     | none=>rfl
     | some a =>
      cases a with
      | error e=>rfl
      | ok a =>
       obtain ⟨t,q⟩:=a;show (bnd (bnd (a8 l q [40]) fun p=>mm l n (.cd t [] p ns)) fun (a,p,ns)=>mm l n (.top (kids++[a]) p ns))=bnd (a8 l q [40]) fun p=>bnd (mm l n (.cd t [] p ns)) fun (a,p,ns)=>mm l n (.top (kids++[a]) p ns)
       cases a8 l q [40] with
       | none=>rfl
       | some a=>cases a<;>rfl
    have hf:dS (RB l (p+1)) (bnd (cU l (p+1) 1) fun (t,p)=>bnd (a8 l p [40]) fun p=>mm l n (.cd t [] p ns)) :=
     (eQ l (p+1) (by decide)).bnd fun ⟨t,tp⟩ ht=>(bV l tp [40]).bnd fun q hq=>(jN l n (.cd t [] q ns) ⟨hq.2,h2,by simp⟩).up (by have:=ht.1;have:=hq.1;dsimp only [lo] at *;omega)
    obtain ⟨r2,g2,h⟩:=ed (ρ:= .ok (p+1,ns)) (F:=fun p ns=>bnd (cU l p 1) fun (t,p)=>bnd (a8 l p [40]) fun p=>mm l n (.cd t [] p ns)) hx;obtain ⟨v,os',k,x,s',rfl,rfl,q',v'⟩:=w84 hP hl ih (bg hs) h2 g2;refine gC [1,3] k ⟨?_⟩;rw [cW];refine gN (by simp [Sh.len];omega) ⟨?_⟩;have key:=next r2 x s' q' v' (fun a q ns' hr=>by
     subst hr;rw [show (bnd (cU l (p+1) 1) fun (t,p)=>bnd (a8 l p [40]) fun p=>mm l n (.cd t [] p ns))=some (.ok (a,q,ns')) from g2] at hf;exact hf.1) (h x v')
    exact ah.to key (by simp [Sh.len]) (by simp [aB,PI.aY,Sh.len,s0])
   | false =>
    rw [ab (by rw [hs];decide)] at h;refine gC [1,3] (n83 hP hl (p:=p) (d:=0) (ns:=ns) 2 (dI hl (by decide)) (by decide) hs) ⟨gX ⟨?_⟩⟩;obtain ⟨r2,g2,h⟩:=ed (ρ:= .ok (p,ns)) (F:=fun p ns=>mm l n (.stmt 0 p ns)) h;obtain ⟨v,os',k,x,s',rfl,rfl,q',v'⟩:=ih (.stmt 0 p ns) r2 ⟨h1,h2,by decide⟩ g2;refine gC [1,3] k ⟨?_⟩;rw [cW];refine gN (by simp [Sh.len];omega) ⟨?_⟩;have hadv:=jN l n (.stmt 0 p ns) ⟨h1,h2,by decide⟩;have key:=next r2 x s' q' v' (fun a q ns' hr=>by
     subst hr;rw [show mm l n (.stmt 0 p ns)=some (.ok (a,q,ns')) from g2] at hadv;exact hadv.1) (h x v')
    exact ah.to key (by simp [Sh.len]) (by simp [aB,PI.aY,Sh.len,s0])
  ·rw [ab hp] at h;refine gX ⟨?_⟩ (aI (by rw [aJ];show ¬ ((p:Nat):Int) < _;omega));rw [cW];exact Gq hP hl (ρ:= .ok (p,ns)) ⟨rfl,h1,h2⟩ kids (by omega) h
theorem t51 {n:Nat} {r:cV} (ht:t.length < 1073741824) (he:oX t= .ok l) (h:mm l n (.top [] 0 [])=some r):Fn C 51 [.d (.str t)] [] (kT r) []:=by
 refine eN hP c51 ⟨?_⟩;have hk:=k82 hP t ht;rw [he] at hk;refine gO hk ⟨gX ⟨?_⟩⟩;exact Fm hP hl n [] 0 [] r ⟨by omega,by simp,by simp⟩ h
end
end
def Ca (m:Nat) (x:Tok):Prop:=x.place<=m/\(x.kind=3->dD x.text=true)/\(x.kind=2->x.text∈words)/\(x.kind=5->¬ x.text∈words)
theorem zo (r:List UInt8):¬ sgn r∈words:=by
 have h2:∀ w∈words,2<=w.length:=by decide
 unfold sgn;split
 ·decide
 split
 ·decide
 split
 ·decide
 split
 ·split
  ·intro h;have:=h2 _ h;simp at this
  ·decide
 ·decide
theorem nW (t:List UInt8):∀ (n i:Nat) (acc:List Tok) (p:Nat) (c:Int),lZ t n i acc= .error (p,c)->c≠0
 | 0,i,acc,p,c,h=>by cases h
 | n+1,i,acc,p,c,h=>by
  unfold lZ at h;split at h
  ·split at h
   ·cases h;decide
   ·split at h
    ·exact nW t n _ _ p c h
    ·cases h;decide
  ·cases h
theorem Cn (t:List UInt8) {i:Nat} (hi:i < t.length) (h:(ez t i).2.2=true):Ca t.length (ez t i).1:=by
 unfold ez at h ⊢;rw [aa hi] at h ⊢;dsimp only at h ⊢;split at h
 ·rename_i h1;rw [aj h1];split at h
  ·rename_i h2;rw [aj h2];exact ⟨by show i<=_;omega,fun h=>absurd h (by show ¬ (2:Int)=3;decide),fun _=>h2,fun h=>absurd h (by show ¬ (2:Int)=5;decide)⟩
  ·rename_i h2;rw [ab h2];exact ⟨by show i<=_;omega,fun h=>absurd h (by show ¬ (1:Int)=3;decide),fun h=>absurd h (by show ¬ (1:Int)=2;decide),fun h=>absurd h (by show ¬ (1:Int)=5;decide)⟩
 ·rename_i h1;rw [ab h1];split at h
  ·rename_i h2;rw [aj h2];refine ⟨by show i<=_;omega,fun _=>?_,fun h=>absurd h (by show ¬ (3:Int)=2;decide),fun h=>absurd h (by show ¬ (3:Int)=5;decide)⟩;simp only [nZ,ag] at h;exact h.1.1
  ·rename_i h2;rw [ab h2];split at h
   ·rename_i h3;rw [aj h3];exact ⟨by show i<=_;omega,fun h=>absurd h (by show ¬ (4:Int)=3;decide),fun h=>absurd h (by show ¬ (4:Int)=2;decide),fun h=>absurd h (by show ¬ (4:Int)=5;decide)⟩
   ·rename_i h3;rw [ab h3];exact ⟨by show i<=_;omega,fun h=>absurd h (by show ¬ (5:Int)=3;decide),fun h=>absurd h (by show ¬ (5:Int)=2;decide),fun _=>zo _⟩
theorem uM (t:List UInt8):∀ (n i:Nat) (acc l:List Tok),acc.length<=300->(∀ x∈acc,Ca t.length x)->lZ t n i acc= .ok l->l.length<=300/\∀ x∈l,Ca t.length x
 | 0,i,acc,l,h1,h2,h=>by cases h;exact ⟨h1,h2⟩
 | n+1,i,acc,l,h1,h2,h=>by
  unfold lZ at h;split at h
  ·rename_i hi;split at h
   ·cases h
   ·rename_i h3;split at h
    ·rename_i h4;refine uM t n _ _ l (by simp;omega) (fun x hx=>?_) h;rcases bL.1 hx with hx | hx
     ·exact h2 x hx
     ·rw [bA.1 hx];exact Cn t hi h4
    ·cases h
  ·cases h;exact ⟨h1,h2⟩
theorem uN (ht:t.length<=1073741824) (h:oX t= .ok l):dr l:=by
 have ⟨h1,h2⟩:=uM t _ _ _ l (by simp) (by simp) h;exact ⟨h1,fun x hx=>bG (h2 x hx).1 ht,fun x hx=>(h2 x hx).2.1,fun x hx=>(h2 x hx).2.2.1,fun x hx=>(h2 x hx).2.2.2⟩
def par (t:List UInt8):cV:=match oX t with
 | .error (p,c)=> .error (c,p)
 | .ok l=>(mm l 4000 (.top [] 0 [])).getD (.error (0,0))
section
variable {C:Ctx} (hP:C.P=Tryz.prog)
include hP
theorem k51 (t:List UInt8) (ht:t.length < 1073741824):Fn C 51 [.d (.str t)] [] (kT (par t)) []:=by
 cases h:oX t with
 | ok l =>
  have hl:=uN (by omega) h;obtain ⟨r,hr⟩:=qC hl.len;rw [par,h];dsimp only;rw [hr];exact t51 hP hl ht h hr
 | error e =>
  rw [par,h];refine eN hP c51 ⟨?_⟩;have hk:=k82 hP t ht;rw [h] at hk;obtain ⟨p,c⟩:=e;refine gO hk ⟨?_⟩;have hc:c≠0:=nW t _ _ _ p c h;refine gY ⟨?_⟩ (by simp [hc]);refine ah.aD (os':=[]) [0] trivial (by rfl) (by rfl) trivial ?_;(conv=>whnf);exact ⟨rfl,rfl⟩
theorem k95 (S:Shelf C) (t:List UInt8) (ht:¬ 600 < t.length):Fn C 95 [.d (.str t)] [] (kT (par t)) []:=by
 have hq:=Ec hP t (by omega) ht;cases h:oX t with
 | ok l =>
  have hl:=uN (by omega) h;obtain ⟨r,hr⟩:=qC hl.len;rw [par,h];dsimp only;rw [hr];exact t95 hP S hl (by omega) (hq.trans h) hr
 | error e =>
  rw [par,h];refine eN hP c95 ⟨?_⟩;have hk:=F6 hP S t (by omega);rw [hq.trans h] at hk;obtain ⟨p,c⟩:=e;refine gO hk ⟨?_⟩;have hc:c≠0:=nW t _ _ _ p c h;refine gY ⟨?_⟩ (by simp [hc]);refine ah.aD (os':=[]) [0] trivial (by rfl) (by rfl) trivial ?_;(conv=>whnf);exact ⟨rfl,rfl⟩
end
end Go.Proofs.YtggoiofammbchaaGreatDoor.Loc
