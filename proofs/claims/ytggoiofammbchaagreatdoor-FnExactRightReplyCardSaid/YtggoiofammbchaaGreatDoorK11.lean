/- Part 11 of a chain that ends in the statement named in GOCLAIM.json; no condition. -/
import Derived.Test.YtggoiofammbchaaGreatDoorK10
set_option maxRecDepth 100000
set_option maxHeartbeats 2000000
set_option linter.all false
namespace Go.Proofs.YtggoiofammbchaaGreatDoor.Loc
open Go
variable {c:UInt8} {i j n:Nat} {l:List (List UInt8)} {t:List UInt8}
section
variable {C:Ctx} (hP:C.P=Tryz.prog)
include hP
def dk (n:Int):Bool:=decide (48<=n/\n<=57)
def isLet (n:Int):Bool:=decide ((97<=n/\n<=122)\/(65<=n/\n<=90)\/n=95)
def kB (n:Int):Bool:=decide (n=32\/n=9\/n=10)
theorem Bv (n:Int):Fn C 114 [.d (.int .u8 n)] [] (.d (.bool (dk n))) []:=by
 refine eN hP Jc ⟨?_⟩
 (repeat' (first | refine gP (fun _=>⟨?_⟩) fun _=>⟨?_⟩ | exact lW ⟨trivial,rfl⟩ | refine lW ⟨trivial,?_⟩))
 all_goals (simp_all [dk]<;>(try rw [Bool.eq_iff_iff])<;>(try simp)<;>omega)
theorem Ew (n:Int):Fn C 170 [.d (.int .u8 n)] [] (.d (.bool (dk n))) []:=by
 refine eN hP I0 ⟨?_⟩
 (repeat' (first | refine gP (fun _=>⟨?_⟩) fun _=>⟨?_⟩ | exact lW ⟨trivial,rfl⟩ | refine lW ⟨trivial,?_⟩))
 all_goals (simp_all [dk]<;>(try rw [Bool.eq_iff_iff])<;>(try simp)<;>omega)
theorem EG (n:Int):Fn C 115 [.d (.int .u8 n)] [] (.d (.bool (isLet n))) []:=by
 refine eN hP Jb ⟨?_⟩
 (repeat' (first | refine gP (fun _=>⟨?_⟩) fun _=>⟨?_⟩ | exact lW ⟨trivial,rfl⟩ | refine lW ⟨trivial,?_⟩))
 all_goals (simp_all [isLet]<;>(try rw [Bool.eq_iff_iff])<;>(try simp)<;>omega)
theorem FX (n:Int):Fn C 169 [.d (.int .u8 n)] [] (.d (.bool (isLet n))) []:=by
 refine eN hP I1 ⟨?_⟩
 (repeat' (first | refine gP (fun _=>⟨?_⟩) fun _=>⟨?_⟩ | exact lW ⟨trivial,rfl⟩ | refine lW ⟨trivial,?_⟩))
 all_goals (simp_all [isLet]<;>(try rw [Bool.eq_iff_iff])<;>(try simp)<;>omega)
theorem FT (n:Int):Fn C 191 [.d (.int .u8 n)] [] (.d (.bool (kB n))) []:=by
 refine eN hP IM ⟨?_⟩
 (repeat' (first | refine gP (fun _=>⟨?_⟩) fun _=>⟨?_⟩ | exact lW ⟨trivial,rfl⟩ | refine lW ⟨trivial,?_⟩))
 all_goals (simp_all [kB]<;>(try rw [Bool.eq_iff_iff])<;>(try simp)<;>omega)
theorem k47 (n a b:Int):Fn C 47 [.d (.int .i64 n),.d (.int .i64 a),.d (.int .i64 b)] [] (.d (.bool (decide (a<=n/\n<=b)))) []:=by
 refine eN hP c47 ⟨?_⟩
 (repeat' (first | refine gP (fun _=>⟨?_⟩) fun _=>⟨?_⟩ | exact lW ⟨trivial,rfl⟩ | refine lW ⟨trivial,?_⟩))
 all_goals (simp_all<;>(try rw [Bool.eq_iff_iff])<;>(try simp)<;>omega)
theorem k44 (n a b:Int):Fn C 44 [.d (.int .i64 n),.d (.int .i64 a),.d (.int .i64 b)] [] (.d (.bool (decide (a<=n/\n<=b)))) []:=by
 refine eN hP c44 ⟨?_⟩
 (repeat' (first | refine gP (fun _=>⟨?_⟩) fun _=>⟨?_⟩ | exact lW ⟨trivial,rfl⟩ | refine lW ⟨trivial,?_⟩))
 all_goals (simp_all<;>(try rw [Bool.eq_iff_iff])<;>(try simp)<;>omega)
theorem Hx (n:Int):Fn C 232 [.d (.int .u8 n)] [] (.d (.bool (isLet n || dk n))) []:=by
 refine eN hP c232 ⟨gO (EG hP n) ⟨gP (fun h=>⟨?_⟩) fun h=>⟨?_⟩⟩⟩
 ·(repeat' (first | refine gP (fun _=>⟨?_⟩) fun _=>⟨?_⟩ | exact lW ⟨trivial,rfl⟩ | refine lW ⟨trivial,?_⟩));simp [h]
 ·refine gO (Bv hP n) ⟨?_⟩
  (repeat' (first | refine gP (fun _=>⟨?_⟩) fun _=>⟨?_⟩ | exact lW ⟨trivial,rfl⟩ | refine lW ⟨trivial,?_⟩));simp [h]
def du (p:Int->Bool):List UInt8->Nat
 | []=>0
 | b::l=>if p b.toNat then du p l+1 else 0
theorem C8 {f:Nat} {p:Int->Bool} (hf:∀ b:Int,Fn C f [.d (.int .u8 b)] [] (.d (.bool (p b))) []) (t:List UInt8) (i:Nat) (hi:i<=t.length) (hl:t.length < 4611686018427387904) :
  Fn C 190 [.d (.str t),.d (.int .i64 i),.fn f []] [] (.d (.int .i64 (i+du p (t.drop i):Nat))) []:=by
 refine eN hP IN ⟨?_⟩;generalize hN:i+du p (t.drop i)=N;refine gW (fun j:Nat=>t.length - j) (fun j=>j<=t.length/\j+du p (t.drop j)=N) (fun j=>[(0,.d (.str t)),(1,.d (.int .i64 j)),(2,.fn f []),(6,.d (.int .i64 0))]) (fun _=>[]) 0 ?_ i ⟨hi,hN⟩;refine fun j ⟨hj,hjN⟩ ih=>⟨?_⟩
 refine ah.split (fun h=>?_) (fun h=>?_)
 ·refine gG ⟨?_⟩;have hlt:j < t.length:=by simpa using h
  refine ah.exB (b:=t[j]) (by simp [hlt]) (by simp) ?_;refine gG ⟨gO (hf _) ⟨gP (fun hp=>⟨?_⟩) fun hp=>⟨?_⟩⟩⟩
  ·rw [aC (by omega)];refine ih (j+1) ⟨hlt,?_⟩ (by omega);rw [<- hjN,av hlt,du,aj hp];omega
  ·(repeat' (first | refine gP (fun _=>⟨?_⟩) fun _=>⟨?_⟩ | exact lW ⟨trivial,rfl⟩ | refine lW ⟨trivial,?_⟩))
   rw [<- hjN,av hlt,du,ab (by simp [hp])];rfl
 ·refine gG ⟨?_⟩;(repeat' (first | refine gP (fun _=>⟨?_⟩) fun _=>⟨?_⟩ | exact lW ⟨trivial,rfl⟩ | refine lW ⟨trivial,?_⟩));have:t.drop j=[]:=b7 (by simpa using h);rw [<- hjN,this];rfl
def strs (l:List (List UInt8)):D:= .imm 1 (l.map fun s=>[.str s])
def idxOf (t:List UInt8):List (List UInt8)->Nat->Int
 | [],_=> -1
 | s::l,k=>if t=s then k else idxOf t l (k+1)
omit hP in
theorem vJ (h:j < l.length):(l.map fun s=>[D.str s])[((j:Int)).toNat]?=some [.str l[j]]:=by simp [h]
theorem k81 (l:List (List UInt8)) (t:List UInt8) (hl:l.length < 4611686018427387904):Fn C 81 [.d (strs l),.d (.str t)] [] (.d (.int .i64 (idxOf t l 0))) []:=by
 refine eN hP c81 ⟨?_⟩;generalize hN:idxOf t l 0=N;refine gW (fun j:Nat=>l.length - j) (fun j=>j<=l.length/\idxOf t (l.drop j) j=N) (fun j=>[(0,.d (.imm 1 (l.map fun s=>[.str s]))),(1,.d (.str t)),(4,.d (.int .i64 0)),(7,.d (.int .i64 (l.map fun s=>[D.str s]).length)),(8,.d (.int .i64 j))]) (fun _=>[]) 0 ?_ 0 ⟨by omega,hN⟩;refine fun j ⟨hj,hjN⟩ ih=>⟨?_⟩
 refine gP (fun h=>⟨?_⟩) fun h=>⟨?_⟩
 ·have hlt:j < l.length:=by simpa using h
  refine gD (vJ hlt) ⟨gP (fun hp=>⟨?_⟩) fun hp=>⟨?_⟩⟩ (by simp)
  ·(repeat' (first | refine gP (fun _=>⟨?_⟩) fun _=>⟨?_⟩ | exact lW ⟨trivial,rfl⟩ | refine lW ⟨trivial,?_⟩))
   rw [<- hjN,av hlt,idxOf,aj (by simpa using hp)]
  ·rw [aC (by omega)];refine ih (j+1) ⟨hlt,?_⟩ (by omega);rw [<- hjN,av hlt,idxOf,ab (by simpa using hp)]
 ·(repeat' (first | refine gP (fun _=>⟨?_⟩) fun _=>⟨?_⟩ | exact lW ⟨trivial,rfl⟩ | refine lW ⟨trivial,?_⟩))
  have:l.drop j=[]:=b7 (by simpa using h);rw [<- hjN,this];rfl
omit hP in
theorem rA (t:List UInt8):∀ (l:List (List UInt8)) (k:Nat),0<=idxOf t l k↔t∈l
 | [],k=>by simp [idxOf]
 | s::l,k=>by
  simp only [idxOf];by_cases h:t=s
  ·simp [h]
  ·simp [h,rA t l (k+1)]
theorem k49 (l:List (List UInt8)) (t:List UInt8) (hl:l.length < 4611686018427387904):Fn C 49 [.d (strs l),.d (.str t)] [] (.d (.bool (decide (t∈l)))) []:=by
 refine eN hP c49 ⟨gO (k81 hP l t hl) ⟨?_⟩⟩
 (repeat' (first | refine gP (fun _=>⟨?_⟩) fun _=>⟨?_⟩ | exact lW ⟨trivial,rfl⟩ | refine lW ⟨trivial,?_⟩))
 simp [rA]
def words:List (List UInt8):=[[108,101,116],[105,102],[101,108,115,101],[119,104,105,108,101],[114,101,116,117,114,110],[116,104,114,111,119],[116,114,121],[99,97,116,99,104],[102,117,110,99,116,105,111,110],[116,114,117,101],[102,97,108,115,101],[110,117,108,108]]
theorem Hp:Fn C 256 [] [] (.d (strs words)) []:=by
 refine eN hP Iu ⟨?_⟩
 (repeat' (first | refine gP (fun _=>⟨?_⟩) fun _=>⟨?_⟩ | exact lW ⟨trivial,rfl⟩ | refine lW ⟨trivial,?_⟩))
theorem Hy:Fn C 229 [] [] (.d (strs words)) []:=by
 refine eN hP c229 ⟨?_⟩
 (repeat' (first | refine gP (fun _=>⟨?_⟩) fun _=>⟨?_⟩ | exact lW ⟨trivial,rfl⟩ | refine lW ⟨trivial,?_⟩))
theorem FJ (t:List UInt8):Fn C 233 [.d (.str t)] [] (.d (.bool (decide (t∈words)))) []:=by
 refine eN hP c233 ⟨gO (Hp hP) ⟨gO (k49 hP words t (by decide)) ⟨?_⟩⟩⟩
 (repeat' (first | refine gP (fun _=>⟨?_⟩) fun _=>⟨?_⟩ | exact lW ⟨trivial,rfl⟩ | refine lW ⟨trivial,?_⟩))
omit hP in
theorem wq (hlt:j < l.length) (h:¬ l[j]=t):decide (t∈l.drop j)=decide (t∈l.drop (j+1)):=by
 rw [av hlt];congr 1;rw [aQ];simp only [eq_iff_iff];exact ⟨fun h'=>h'.resolve_left (fun e=>h e.symm),.inr⟩
omit hP in
theorem px (h:t∈words):t.length<=8:=by
 have:∀ t∈words,t.length<=8:=by decide
 exact this t h
theorem HJ (t:List UInt8):Fn C 171 [.d (.str t)] [] (.d (.bool (decide (t∈words)))) []:=by
 refine eN hP c171 ⟨gP (fun h=>⟨?_⟩) fun h=>⟨?_⟩⟩
 ·(repeat' (first | refine gP (fun _=>⟨?_⟩) fun _=>⟨?_⟩ | exact lW ⟨trivial,rfl⟩ | refine lW ⟨trivial,?_⟩))
  have:¬ t∈words:=fun hh=>by have:=px hh;simp at h;omega
  simp [this]
 refine gO (Hy hP) ⟨gW (fun j:Nat=>words.length - j) (fun j=>j<=words.length/\(decide (t∈words)=decide (t∈words.drop j))) (fun j=>[(0,.d (.str t)),(2,.ff),(3,.d (strs words)),(4,.d (.int .i64 j))]) (fun _=>[]) 0 ?_ 0 ⟨by decide,rfl⟩⟩;refine fun j ⟨hj,hjN⟩ ih=>⟨?_⟩
 refine gP (fun h=>⟨?_⟩) fun h=>⟨?_⟩
 ·have hlt:j < words.length:=by
   have:((words.map fun s=>[D.str s]).length:Int)=words.length:=by simp
   have h':(j:Int) < ((words.map fun s=>[D.str s]).length:Int):=by simpa using h
   omega
  refine gD (vJ hlt) ⟨gP (fun hp=>⟨?_⟩) fun hp=>⟨?_⟩⟩ (by simp)
  ·(repeat' (first | refine gP (fun _=>⟨?_⟩) fun _=>⟨?_⟩ | exact lW ⟨trivial,rfl⟩ | refine lW ⟨trivial,?_⟩))
   rw [hjN,av hlt];have:words[j]=t:=by simpa using hp
   simp [this]
  ·rw [aC (by have:words.length=12:=(by decide);omega)];refine ih (j+1) ⟨hlt,?_⟩ (by omega);rw [hjN,wq hlt (by simpa using hp)]
 ·(repeat' (first | refine gP (fun _=>⟨?_⟩) fun _=>⟨?_⟩ | exact lW ⟨trivial,rfl⟩ | refine lW ⟨trivial,?_⟩))
  have:¬ j < words.length:=by
   have:((words.map fun s=>[D.str s]).length:Int)=words.length:=by simp
   have h':((words.map fun s=>[D.str s]).length:Int)<=(j:Int):=by simpa using h
   omega
  rw [hjN,b7 (by omega)];simp
def kV (t:List UInt8):Bool:=decide (1<=t.length/\t.length<=40)&&!dk (t.headD 0).toNat&&t.all fun b=>isLet b.toNat || dk b.toNat
omit hP in
theorem xo {p:UInt8->Bool} (hlt:j < t.length):(t.drop j).all p=(p t[j]&&(t.drop (j+1)).all p):=by
 rw [av hlt,List.all_cons]
theorem k80 (t:List UInt8) (hl:t.length < 4611686018427387904):Fn C 80 [.d (.str t)] [] (.d (.bool (kV t))) []:=by
 refine eN hP c80 ⟨gO (k47 hP _ _ _) ⟨gP (fun h=>⟨?_⟩) fun h=>⟨?_⟩⟩⟩
 ·(repeat' (first | refine gP (fun _=>⟨?_⟩) fun _=>⟨?_⟩ | exact lW ⟨trivial,rfl⟩ | refine lW ⟨trivial,?_⟩))
  have:¬ (1<=t.length/\t.length<=40):=by
   simp only [ey,dC] at h;omega
  simp [kV,this]
 have hb:1<=t.length/\t.length<=40:=by
  simp only [Bool.not_eq_false',ak] at h;omega
 obtain ⟨c,t',rfl⟩:∃ c t',t=c::t':=by
  cases t with
  | nil=>simp at hb
  | cons c t'=>exact ⟨c,t',rfl⟩
 refine ah.exB (b:=c) rfl (by decide) ?_;refine gG ⟨gO (Bv hP _) ⟨gP (fun h1=>⟨?_⟩) fun h1=>⟨?_⟩⟩⟩
 ·(repeat' (first | refine gP (fun _=>⟨?_⟩) fun _=>⟨?_⟩ | exact lW ⟨trivial,rfl⟩ | refine lW ⟨trivial,?_⟩))
  simp [kV,h1]
 generalize ht:c::t'=t at *;have hN:kV t=t.all fun b=>isLet b.toNat || dk b.toNat:=by
  simp only [kV];rw [aR hb,<- ht];simp [h1]
 refine gW (fun j:Nat=>t.length - j) (fun j=>j<=t.length/\kV t=(t.drop j).all fun b=>isLet b.toNat || dk b.toNat) (fun j=>[(0,.d (.str t)),(2,.ff),(14,.d (.int .i64 t.length)),(15,.d (.int .i64 j))]) (fun _=>[]) 0 ?_ 0 ⟨by omega,hN⟩;refine fun j ⟨hj,hjN⟩ ih=>⟨?_⟩
 refine gP (fun h=>⟨?_⟩) fun h=>⟨?_⟩
 ·have hlt:j < t.length:=by simpa using h
  refine ah.exB (b:=t[j]) (by simp [hlt]) (by simp) ?_;refine gG ⟨gO (EG hP _) ⟨?_⟩⟩;have hnext:(isLet t[j].toNat || dk t[j].toNat)=true->b4 C 0 [(2,none)] (fun v1 os1=>v1=V.d (D.bool (kV t))/\os1=[]) _:=fun hp=>ih (j+1) ⟨hlt,by rw [hjN,xo hlt,hp,Bool.true_and]⟩ (by omega)
  refine gP (fun h2=>⟨?_⟩) fun h2=>⟨?_⟩
  ·refine ah.exB (b:=t[j]) (by simp [hlt]) (by simp) ?_;refine gG ⟨gO (Bv hP _) ⟨gP (fun h3=>⟨?_⟩) fun h3=>⟨?_⟩⟩⟩
   ·(repeat' (first | refine gP (fun _=>⟨?_⟩) fun _=>⟨?_⟩ | exact lW ⟨trivial,rfl⟩ | refine lW ⟨trivial,?_⟩))
    rw [hjN,xo hlt];simp at h2 h3;simp [h2,h3]
   ·rw [aC (by omega)];simp at h3;exact hnext (by simp [h3])
  ·rw [aC (by omega)];simp at h2;exact hnext (by simp [h2])
 ·(repeat' (first | refine gP (fun _=>⟨?_⟩) fun _=>⟨?_⟩ | exact lW ⟨trivial,rfl⟩ | refine lW ⟨trivial,?_⟩))
  rw [hjN,b7 (by simpa using h)];rfl
end
def jl (s p:List UInt8):Bool:=decide (p.length<=s.length)&&decide (s.take p.length=p)
def sC (c:UInt8) (s:List UInt8):Int:=match s.findIdx? (· == c) with | some i=>i | none=> -1
def oI:List UInt8:=[43,45,42,47,37,60,61,33,40,41,123,125,44,59]
def sgn (r:List UInt8):List UInt8 :=
 if jl r [61,61] then [61,61] else if jl r [38,38] then [38,38] else if jl r [124,124] then [124,124] else match r with
 | c::_=>if c∈oI then [c] else []
 | []=>[]
def iD (l:List UInt8):List (List D):=l.map fun b=>[D.int .u8 b.toNat]
theorem fV (acc:List UInt8):List.take acc.length (List.drop 0 (iD acc))=iD acc:=by
 rw [aq,ae (by simp [iD])]
theorem sW (acc:List UInt8):il (iD acc)=some acc:=pz acc
theorem kp (hn:n < 256) (h:(c.toNat:Int)=n):c=UInt8.ofNat n:=by
 apply UInt8.toNat_inj.1;rw [UInt8.toNat_ofNat'];omega
def gr (r:List UInt8):Bool:=decide (1<=r.length/\r.length<=18)&&(r.all fun b=>dk b.toNat)&&(decide (r.head?≠some 48) || decide (r.length=1))
def oC (r:List UInt8):Nat:=r.foldl (fun a c=>a * 10+(c.toNat - 48)) 0
def dD:List UInt8->Bool
 | 45::r=>gr r&&decide (r.head?≠some 48)
 | r=>gr r
def jt:List UInt8->Int
 | 45::r=> -(oC r:Int)
 | r=>oC r
theorem zB:∀ t:List UInt8,dD t=true->t.length<=19
 | [],h=>by simp
 | c::r,h=>by
  unfold dD at h;split at h
  ·rename_i e;simp only [List.cons.injEq] at e;obtain ⟨rfl,rfl⟩:=e;simp only [ag,gr,ak] at h;simp only [aT];omega
  ·simp only [ag,gr,ak] at h;omega
structure Shelf (C:Ctx):Prop where
 indexByte:∀ (s:List UInt8) (c:UInt8),Fn C 259 [.d (.str s),.d (.int .u8 c.toNat)] [] (.d (.int .i64 (sC c s))) []
 number:∀ t:List UInt8,t.length<=281474976710656->∃ n,Fn C 257 [.d (.str t)] [] (.tup [.d (.int .i64 n),.d (.bool (dD t))]) []/\(dD t=true->n=jt t)
section
variable {C:Ctx} (hP:C.P=Tryz.prog)
include hP
theorem Hi (s p:List UInt8):Fn C 275 [.d (.str s),.d (.str p)] [] (.d (.bool (jl s p))) []:=by
 refine eN hP Il ⟨gP (fun h=>⟨?_⟩) fun h=>⟨?_⟩⟩
 ·refine gN ⟨by omega,by simpa using h⟩ ⟨?_⟩
  (repeat' (first | refine gP (fun _=>⟨?_⟩) fun _=>⟨?_⟩ | exact lW ⟨trivial,rfl⟩ | refine lW ⟨trivial,?_⟩))
  have h':p.length<=s.length:=by simpa using h
  simp only [jl,h',decide_true,Bool.true_and];congr 2
 ·(repeat' (first | refine gP (fun _=>⟨?_⟩) fun _=>⟨?_⟩ | exact lW ⟨trivial,rfl⟩ | refine lW ⟨trivial,?_⟩))
  have h':¬ p.length<=s.length:=by simpa using h
  simp [jl,h']
theorem Eh (s p:List UInt8):Fn C 258 [.d (.str s),.d (.str p)] [] (.d (.bool (jl s p))) []:=by
 refine eN hP Is ⟨gO (Hi hP s p) ⟨?_⟩⟩
 (repeat' (first | refine gP (fun _=>⟨?_⟩) fun _=>⟨?_⟩ | exact lW ⟨trivial,rfl⟩ | refine lW ⟨trivial,?_⟩))
omit hP in
theorem wJ (c:UInt8) (s:List UInt8):sC c s < 0↔¬ c∈s:=by
 unfold sC;split
 ·rename_i i h;have:=(List.findIdx?_eq_some_iff_getElem.1 h)
  obtain ⟨h1,h2,_⟩:=this;constructor
  ·intro;omega
  ·intro h3;exact absurd (by rw [<- (beq_iff_eq.1 h2)];exact aZ h1) h3
 ·rename_i h;rw [List.findIdx?_eq_none_iff] at h;constructor
  ·intro _ hc;have:=h c hc;simp at this
  ·intro;omega
theorem Ht (S:Shelf C) (t:List UInt8) (i:Nat) (hi:i < t.length) (hl:t.length < 4611686018427387904):Fn C 237 [.d (.str t),.d (.int .i64 i)] [] (.d (.str (sgn (t.drop i)))) []:=by
 refine eN hP Iz ⟨?_⟩;have hsub:∀ hi',fb t.length (some (i:Int)) none:=fun _=>⟨by omega,by omega⟩
 have e:sub t (some (i:Int)) none=t.drop i:=rfl;obtain ⟨c,r,hcr⟩:∃ c r,t.drop i=c::r:=by
  cases hd:t.drop i with
  | nil=>rw [List.drop_eq_nil_iff] at hd;omega
  | cons c r=>exact ⟨c,r,rfl⟩
 have hc:t[(i:Int).toNat]?=some c:=by
  have:=congrArg List.head? hcr;simpa using this
 refine gL ⟨gP (fun _=>⟨gD rfl ⟨gN ⟨by omega,by omega⟩ ⟨gO (Eh hP _ _) ⟨?_⟩⟩⟩ (by decide)⟩) fun h=>absurd h (by decide)⟩;rw [e];refine gP (fun h1=>⟨?_⟩) fun h1=>⟨?_⟩
 ·(repeat' (first | refine gP (fun _=>⟨?_⟩) fun _=>⟨?_⟩ | exact lW ⟨trivial,rfl⟩ | refine lW ⟨trivial,?_⟩));simp [sgn,h1]
 refine gL ⟨gP (fun _=>⟨?_⟩) fun h=>absurd h (by decide)⟩;refine ah.exD (row:=[.str [38,38]]) rfl (by decide) rfl ?_;refine gG ⟨gN ⟨by omega,by omega⟩ ⟨gO (Eh hP _ _) ⟨?_⟩⟩⟩;rw [e];refine gP (fun h2=>⟨?_⟩) fun h2=>⟨?_⟩
 ·(repeat' (first | refine gP (fun _=>⟨?_⟩) fun _=>⟨?_⟩ | exact lW ⟨trivial,rfl⟩ | refine lW ⟨trivial,?_⟩));simp [sgn,h1,h2]
 refine gL ⟨gP (fun _=>⟨?_⟩) fun h=>absurd h (by decide)⟩;refine ah.exD (row:=[.str [124,124]]) rfl (by decide) rfl ?_;refine gG ⟨gN ⟨by omega,by omega⟩ ⟨gO (Eh hP _ _) ⟨?_⟩⟩⟩;rw [e];refine gP (fun h3=>⟨?_⟩) fun h3=>⟨?_⟩
 ·(repeat' (first | refine gP (fun _=>⟨?_⟩) fun _=>⟨?_⟩ | exact lW ⟨trivial,rfl⟩ | refine lW ⟨trivial,?_⟩));simp [sgn,h1,h2,h3]
 refine gL ⟨gP (fun h=>absurd h (by decide)) fun _=>⟨?_⟩⟩;refine ah.exB (b:=c) hc (by omega) ?_;refine gG ⟨gO (S.indexByte oI c) ⟨gP (fun h4=>⟨?_⟩) fun h4=>⟨?_⟩⟩⟩
 ·(repeat' (first | refine gP (fun _=>⟨?_⟩) fun _=>⟨?_⟩ | exact lW ⟨trivial,rfl⟩ | refine lW ⟨trivial,?_⟩))
  rw [hcr] at h1 h2 h3;have h4:sC c oI < 0:=by simpa using h4
  rw [wJ] at h4;simp only [sgn,h1,h2,h3,hcr,bB,aV,h4]
 ·have h4:¬ sC c oI < 0:=by simpa using h4
  rw [wJ,Decidable.not_not] at h4;rw [aC (by omega)];refine gN ⟨by omega,by omega,by omega⟩ ⟨?_⟩
  (repeat' (first | refine gP (fun _=>⟨?_⟩) fun _=>⟨?_⟩ | exact lW ⟨trivial,rfl⟩ | refine lW ⟨trivial,?_⟩))
  rw [hcr] at h1 h2 h3;have:sub t (some (i:Int)) (some ((i+1:Nat):Int))=[c]:=by
   show List.drop i (List.take (i+1) t)=[c];rw [List.drop_take,hcr];simp
  simp only [sgn,h1,h2,h3,hcr,bB,aV,h4,bo,this]
def quo:List UInt8->Option (List UInt8×Nat)
 | []=>none
 | c::r=>if c=39 then some ([],1) else if c=92 then match r with
  | []=>none
  | d::r=>if d=39\/d=92 then (quo r).map fun p=>(d::p.1,p.2+2) else none
  else if c.toNat < 32\/126 < c.toNat then none else (quo r).map fun p=>(c::p.1,p.2+1)
omit hP in
theorem uv (r:List UInt8):quo (39::r)=some ([],1):=by cases r<;>simp [quo]
omit hP in
theorem qg (r:List UInt8) (h1:¬ c=39) (h2:¬ c=92) (h:c.toNat < 32\/126 < c.toNat):quo (c::r)=none:=by
 cases r<;>simp only [quo,h1,h2,h,aV,bo]
omit hP in
theorem ur (r:List UInt8) (h1:¬ c=39) (h2:¬ c=92) (h:¬ (c.toNat < 32\/126 < c.toNat)):quo (c::r)=(quo r).map fun p=>(c::p.1,p.2+1):=by
 cases r<;>simp only [quo,h1,h2,h,aV,bo]
def quoted (t:List UInt8) (i:Nat):List UInt8×Nat×Bool:=match quo (t.drop (i+1)) with
 | some (x,n)=>(x,i+1+n,decide (x.length<=60))
 | none=>([],0,false)
theorem Hu (t:List UInt8) (i:Nat) (hi:t[i]?=some 39) (hl:t.length < 1073741824) :
  Fn C 236 [.d (.str t),.d (.int .i64 i)] [] (.tup [.d (.str (quoted t i).1),.d (.int .i64 (quoted t i).2.1),.d (.bool (quoted t i).2.2)]) []:=by
 have hlt:i < t.length:=(af.1 hi).1;refine eN hP c236 ⟨?_⟩;refine gP (fun h=>absurd h (by simp;omega)) fun _=>⟨?_⟩
 refine ah.exB (b:=39) (by simpa using hi) (by omega) ?_;refine gG ⟨gP (fun h=>absurd h (by decide)) fun _=>⟨?_⟩⟩;rw [aC (by omega)];generalize hN:quoted t i=N;refine ah.loop (fun x:List UInt8×Nat=>t.length - x.2) (fun x=>i+1<=x.2/\x.1.length<=x.2/\N=(match quo (t.drop x.2) with | some (y,n)=>(x.1++y,x.2+n,decide ((x.1++y).length<=60)) | none=>([],0,false))) (fun x=>[(0,.d (.str t)),(4,.d (.str [])),(5,.d (.int .i64 0)),(6,.ff),(7,.arr 0 0 x.1.length),(8,.d (.int .i64 x.2))]) (fun x=>[(0,.da 1 (iD x.1))]) 1 ?_ ([],i+1) ⟨by simp,by simp,by rw [<- hN];rfl⟩;intro ⟨acc,j⟩ ⟨hij,haj,hjN⟩ ih;dsimp only at hij haj hjN ih ⊢;have next:∀ (d:UInt8) (n:Nat) (r:List UInt8),j+n<=t.length->1<=n->t.drop (j+n)=r->(N=match (quo r).map fun p=>(d::p.1,p.2+n) with | some (y,n)=>(acc++y,j+n,decide ((acc++y).length<=60)) | none=>([],0,false)) ->
   (i+1<=j+n/\(acc++[d]).length<=j+n/\N=(match quo (t.drop (j+n)) with | some (y,n')=>(acc++[d]++y,j+n+n',decide ((acc++[d]++y).length<=60)) | none=>([],0,false))):=by
  intro d n r h1 h2 h3 h4;refine ⟨by omega,by simp;omega,?_⟩;rw [h4,h3];cases quo r with
  | none=>rfl
  | some p =>
   simp only [aS,e8,List.singleton_append];refine Prod.ext rfl (Prod.ext ?_ rfl);dsimp only;omega
 refine gG ⟨gP (fun h=>⟨?_⟩) fun h=>⟨?_⟩⟩
 ·have hlt:j < t.length:=by simpa using h
  rw [av hlt] at hjN;generalize hc:t[j]=c at hjN;have hcj:t[(j:Int).toNat]?=some c:=by simp [hlt,hc]
  refine ah.exB (b:=c) hcj (by omega) ?_;refine gG ⟨gP (fun h1=>⟨?_⟩) fun h1=>⟨?_⟩⟩
  ·have h1:c=39:=kp (n:=39) (by decide) (by simpa using h1);rw [fV,sW];refine gN (by simp) ⟨?_⟩
   (repeat' (first | refine gP (fun _=>⟨?_⟩) fun _=>⟨?_⟩ | exact lW ⟨trivial,rfl⟩ | refine lW ⟨trivial,?_⟩))
   rw [aC (by omega)];rw [h1,uv] at hjN;dsimp only at hjN;subst hjN;simp;omega
  ·have h1:¬ c=39:=by
    rintro rfl
    simp at h1
   refine gP (fun h2=>⟨?_⟩) fun h2=>⟨?_⟩
   ·have h2:c=92:=kp (n:=92) (by decide) (by simpa using h2);rw [aC (by omega)];subst h2;refine gP (fun h3=>⟨?_⟩) fun h3=>⟨?_⟩
    ·(repeat' (first | refine gP (fun _=>⟨?_⟩) fun _=>⟨?_⟩ | exact lW ⟨trivial,rfl⟩ | refine lW ⟨trivial,?_⟩))
     have:t.drop (j+1)=[]:=b7 (by have:=ai h3;omega);rw [this,show quo [92]=none by simp [quo]] at hjN;subst hjN;rfl
    ·have hlt2:j+1 < t.length:=by have:=ao h3;omega
     rw [av hlt2] at hjN;generalize hd:t[j+1]=d at hjN;have hdj:t[((j+1:Nat):Int).toNat]?=some d:=by rw [bt,aa hlt2,hd]
     have hgo:(d=39\/d=92)->_:=fun hd'=>next d 2 (t.drop (j+2)) (by omega) (by omega) rfl (by rw [hjN];simp [quo,hd'])
     refine ah.exB (b:=d) hdj (by omega) ?_;refine gG ⟨gP (fun h4=>⟨?_⟩) fun h4=>⟨?_⟩⟩
     ·refine ah.exB (b:=d) hdj (by omega) ?_;refine gG ⟨gP (fun h5=>⟨?_⟩) fun h5=>⟨?_⟩⟩
      ·(repeat' (first | refine gP (fun _=>⟨?_⟩) fun _=>⟨?_⟩ | exact lW ⟨trivial,rfl⟩ | refine lW ⟨trivial,?_⟩))
       have:¬ (d=39\/d=92):=by
        rintro (rfl | rfl)
        ·simp at h4
        ·simp at h5
       rw [show quo (92::d::t.drop (j+1+1))=none by simp [quo,this]] at hjN;subst hjN;rfl
      ·have h5:d=92:=kp (n:=92) (by decide) (by simpa using h5);refine ah.exB (b:=d) hdj (by omega) ?_;refine gG ⟨?_⟩;refine gN (by simp [Sh.len];omega) ⟨?_⟩;rw [fV,aC (by omega)];refine (ih (acc++[d],j+2) (hgo (.inr h5)) (by dsimp only;omega)).to (by simp [Sh.len];omega) (by simp [iD])
     ·have h4:d=39:=kp (n:=39) (by decide) (by simpa using h4);refine ah.exB (b:=d) hdj (by omega) ?_;refine gG ⟨?_⟩;refine gN (by simp [Sh.len];omega) ⟨?_⟩;rw [fV,aC (by omega)];refine (ih (acc++[d],j+2) (hgo (.inl h4)) (by dsimp only;omega)).to (by simp [Sh.len];omega) (by simp [iD])
   ·have h2:¬ c=92:=by
     rintro rfl
     simp at h2
    refine gP (fun h3=>⟨?_⟩) fun h3=>⟨?_⟩
    ·(repeat' (first | refine gP (fun _=>⟨?_⟩) fun _=>⟨?_⟩ | exact lW ⟨trivial,rfl⟩ | refine lW ⟨trivial,?_⟩))
     have:c.toNat < 32\/126 < c.toNat:=by have:=ai h3;omega
     rw [qg _ h1 h2 this] at hjN;subst hjN;rfl
    ·refine gP (fun h4=>⟨?_⟩) fun h4=>⟨?_⟩
     ·(repeat' (first | refine gP (fun _=>⟨?_⟩) fun _=>⟨?_⟩ | exact lW ⟨trivial,rfl⟩ | refine lW ⟨trivial,?_⟩))
      have:c.toNat < 32\/126 < c.toNat:=by have:=ai h4;omega
      rw [qg _ h1 h2 this] at hjN;subst hjN;rfl
     ·have:¬ (c.toNat < 32\/126 < c.toNat):=by have:=ao h3;have:=ao h4;omega
      refine gN (by simp [Sh.len];omega) ⟨?_⟩;rw [fV,aC (by omega)];refine (ih (acc++[c],j+1) (next c 1 (t.drop (j+1)) (by omega) (by omega) rfl (by rw [hjN,ur _ h1 h2 this])) (by dsimp only;omega)).to (by simp [Sh.len]) (by simp [iD])
 ·(repeat' (first | refine gP (fun _=>⟨?_⟩) fun _=>⟨?_⟩ | exact lW ⟨trivial,rfl⟩ | refine lW ⟨trivial,?_⟩))
  have:t.drop j=[]:=b7 (by have:=ao h;omega);rw [this,show quo []=none by rfl] at hjN;subst hjN;rfl
def j4 (t:List UInt8):Bool:=kV t&&decide (t.length<=20)&&!decide (t∈words)
theorem Hw (t:List UInt8) (hl:t.length < 1073741824):Fn C 234 [.d (.str t)] [] (.d (.bool (j4 t))) []:=by
 refine eN hP c234 ⟨gO (k80 hP t (by omega)) ⟨gP (fun h1=>⟨?_⟩) fun h1=>⟨?_⟩⟩⟩
 ·refine gP (fun h2=>⟨?_⟩) fun h2=>⟨?_⟩
  ·refine gO (FJ hP t) ⟨?_⟩
   (repeat' (first | refine gP (fun _=>⟨?_⟩) fun _=>⟨?_⟩ | exact lW ⟨trivial,rfl⟩ | refine lW ⟨trivial,?_⟩))
   have:t.length<=20:=by have:=ai h2;omega
   simp [j4,h1,this]
  ·(repeat' (first | refine gP (fun _=>⟨?_⟩) fun _=>⟨?_⟩ | exact lW ⟨trivial,rfl⟩ | refine lW ⟨trivial,?_⟩))
   have:¬ t.length<=20:=by have:=ao h2;omega
   simp [j4,this]
 ·(repeat' (first | refine gP (fun _=>⟨?_⟩) fun _=>⟨?_⟩ | exact lW ⟨trivial,rfl⟩ | refine lW ⟨trivial,?_⟩))
  simp [j4,h1]
def nZ (t:List UInt8):Bool:=dD t&&decide (jt t<=2147483647)&&decide (0<=jt t)
theorem Hv (S:Shelf C) (t:List UInt8) (ht:t.length<=281474976710656):Fn C 235 [.d (.str t)] [] (.d (.bool (nZ t))) []:=by
 obtain ⟨n,hn,hv⟩:=S.number t ht;refine eN hP IA ⟨gO hn ⟨gP (fun h1=>⟨?_⟩) fun h1=>⟨?_⟩⟩⟩
 ·refine gO (k47 hP _ _ _) ⟨?_⟩
  (repeat' (first | refine gP (fun _=>⟨?_⟩) fun _=>⟨?_⟩ | exact lW ⟨trivial,rfl⟩ | refine lW ⟨trivial,?_⟩))
  rw [hv h1];congr 2;rw [Bool.eq_iff_iff];simp [nZ,h1];omega
 ·(repeat' (first | refine gP (fun _=>⟨?_⟩) fun _=>⟨?_⟩ | exact lW ⟨trivial,rfl⟩ | refine lW ⟨trivial,?_⟩))
  simp [nZ,h1]
structure Tok where
 kind:Int
 place:Nat
 text:List UInt8
def Tok.enc (x:Tok):List D:=[.int .i64 x.kind,.int .i64 x.place,.str x.text]
def eL (t:List UInt8) (i j:Nat):List UInt8:=(t.take j).drop i
def bS (t:List UInt8) (i:Nat):Nat:=i+du (fun n=>isLet n || dk n) (t.drop i)
def dn (t:List UInt8) (i:Nat):Nat:=i+du dk (t.drop i)
def ez (t:List UInt8) (i:Nat):Tok×Nat×Bool:=match t[i]? with
 | none=>(⟨0,0,[]⟩,0,false)
 | some c =>
  if isLet c.toNat then (if eL t i (bS t i)∈words then (⟨2,i,eL t i (bS t i)⟩,bS t i,true) else (⟨1,i,eL t i (bS t i)⟩,bS t i,j4 (eL t i (bS t i))))
  else if dk c.toNat then (⟨3,i,eL t i (dn t i)⟩,dn t i,nZ (eL t i (dn t i)))
  else if c=39 then (⟨4,i,(quoted t i).1⟩,(quoted t i).2.1,(quoted t i).2.2)
  else (⟨5,i,sgn (t.drop i)⟩,i+(sgn (t.drop i)).length,decide (sgn (t.drop i)≠[]))
omit hP in
theorem mr (p:Int->Bool):∀ l:List UInt8,du p l<=l.length
 | []=>al _
 | b::l=>by
  simp only [du];split
  ·have:=mr p l;simp only [aT];omega
  ·omega
omit hP in
theorem kL (t:List UInt8) (hi:i<=t.length):i<=bS t i/\bS t i<=t.length:=by
 have:=mr (fun n=>isLet n || dk n) (t.drop i);rw [bD] at this;unfold bS;omega
omit hP in
theorem pb (t:List UInt8) (hi:i<=t.length):i<=dn t i/\dn t i<=t.length:=by
 have:=mr dk (t.drop i);rw [bD] at this;unfold dn;omega
omit hP in
theorem yy (r:List UInt8):(sgn r).length<=2:=by
 unfold sgn;split
 ·decide
 ·split
  ·decide
  ·split
   ·decide
   ·split
    ·split<;>simp
    ·simp
theorem HF (S:Shelf C) (t:List UInt8) (i:Nat) (hi:i < t.length) (hl:t.length < 1073741824) :
  Fn C 192 [.d (.str t),.d (.int .i64 i)] [] (.tup [.agg ((ez t i).1.enc.map .d),.d (.int .i64 (ez t i).2.1),.d (.bool (ez t i).2.2)]) []:=by
 refine eN hP IL ⟨?_⟩;generalize hc:t[i]=c;have hci:t[i]?=some c:=by rw [aa hi,hc]
 refine ah.exB (b:=c) hci (by omega) ?_;refine gG ⟨gO (EG hP _) ⟨gP (fun h1=>⟨?_⟩) fun h1=>⟨?_⟩⟩⟩
 ·refine gO (C8 hP (p:=fun n=>isLet n || dk n) (fun b=>Hx hP b) t i (by omega) (by omega)) ⟨?_⟩;have hle:=kL t (i:=i) (by omega);refine gN (show fb t.length (some (i:Int)) (some (bS t i:Int)) from ⟨by omega,by omega,by omega⟩) ⟨gO (FJ hP _) ⟨gP (fun h2=>⟨?_⟩) fun h2=>⟨?_⟩⟩⟩
  ·(repeat' (first | refine gP (fun _=>⟨?_⟩) fun _=>⟨?_⟩ | exact lW ⟨trivial,rfl⟩ | refine lW ⟨trivial,?_⟩))
   have h2:eL t i (bS t i)∈words:=ai h2;rw [show ez t i=(⟨2,i,eL t i (bS t i)⟩,bS t i,true) by simp only [ez,hci,h1,h2,bo]];rfl
  ·have hlen:(eL t i (bS t i)).length < 1073741824:=by simp only [eL,bD,bh];omega
   refine gO (Hw hP _ hlen) ⟨?_⟩
   (repeat' (first | refine gP (fun _=>⟨?_⟩) fun _=>⟨?_⟩ | exact lW ⟨trivial,rfl⟩ | refine lW ⟨trivial,?_⟩))
   have h2:¬ eL t i (bS t i)∈words:=ao h2;rw [show ez t i=(⟨1,i,eL t i (bS t i)⟩,bS t i,j4 (eL t i (bS t i))) by simp only [ez,hci,h1,h2,bo,aV]];rfl
 ·refine gO (Bv hP _) ⟨gP (fun h2=>⟨?_⟩) fun h2=>⟨?_⟩⟩
  ·refine gO (C8 hP (p:=dk) (fun b=>Bv hP b) t i (by omega) (by omega)) ⟨?_⟩;have hle:=pb t (i:=i) (by omega);refine gN (show fb t.length (some (i:Int)) (some (dn t i:Int)) from ⟨by omega,by omega,by omega⟩) ⟨gN (show fb t.length (some (i:Int)) (some (dn t i:Int)) from ⟨by omega,by omega,by omega⟩) ⟨?_⟩⟩;have hdl:(eL t i (dn t i)).length<=281474976710656:=by simp only [eL,bD,bh];omega
   refine gO (Hv hP S _ hdl) ⟨?_⟩
   (repeat' (first | refine gP (fun _=>⟨?_⟩) fun _=>⟨?_⟩ | exact lW ⟨trivial,rfl⟩ | refine lW ⟨trivial,?_⟩))
   rw [show ez t i=(⟨3,i,eL t i (dn t i)⟩,dn t i,nZ (eL t i (dn t i))) by simp only [ez,hci,h1,h2,bo,aV,bB]];rfl
  ·refine gP (fun h3=>⟨?_⟩) fun h3=>⟨?_⟩
   ·have h3:c=39:=kp (n:=39) (by decide) (by simpa using h3);subst h3;refine gO (Hu hP t i hci hl) ⟨?_⟩
    (repeat' (first | refine gP (fun _=>⟨?_⟩) fun _=>⟨?_⟩ | exact lW ⟨trivial,rfl⟩ | refine lW ⟨trivial,?_⟩))
    rw [show ez t i=(⟨4,i,(quoted t i).1⟩,(quoted t i).2.1,(quoted t i).2.2) by simp only [ez,hci,h1,h2,bo,aV,bB]];rfl
   ·have h3:¬ c=39:=by
     rintro rfl
     simp at h3
    refine gO (Ht hP S t i hi (by omega)) ⟨?_⟩
    (repeat' (first | refine gP (fun _=>⟨?_⟩) fun _=>⟨?_⟩ | exact lW ⟨trivial,rfl⟩ | refine lW ⟨trivial,?_⟩))
    rw [show ez t i=(⟨5,i,sgn (t.drop i)⟩,i+(sgn (t.drop i)).length,decide (sgn (t.drop i)≠[])) by simp only [ez,hci,h1,h2,h3,aV,bB]];have h4:(sgn (t.drop i)).length<=2:=yy _;rw [wrap_i64 (by omega)];simp [Tok.enc]
def skip (t:List UInt8) (i:Nat):Nat:=i+du kB (t.drop i)
def lZ (t:List UInt8):Nat->Nat->List Tok->Except (Nat×Int) (List Tok)
 | 0,_,acc=> .ok acc
 | n+1,i,acc=>if i < t.length then (if acc.length=300 then .error (i,6) else if (ez t i).2.2=true then lZ t n (skip t (ez t i).2.1) (acc++[(ez t i).1]) else .error (i,3)) else .ok acc
def uL (t:List UInt8):Except (Nat×Int) (List Tok):=if 65536 < t.length then .error (0,2) else if 600 < t.length then .error (0,10) else lZ t (t.length+1) (skip t 0) []
def qD (l:List Tok):D:= .imm 3 (l.map Tok.enc)
def xM:Except (Nat×Int) (List Tok)->V
 | .error (p,c)=> .tup [.d .nil,.d (.int .i64 p),.d (.int .i64 c)]
 | .ok l=> .tup [.d (qD l),.d (.int .i64 0),.d (.int .i64 0)]
omit hP in
theorem qd (t:List UInt8) (hi:i<=t.length):i<=skip t i/\skip t i<=t.length:=by
 have:=mr kB (t.drop i);rw [bD] at this;unfold skip;omega
omit hP in
theorem uu:∀ (n:Nat) (r:List UInt8),r.length<=n->∀ x m,quo r=some (x,m)->m<=r.length
 | n,[],_,x,m,h=>by cases h
 | 0,c::r,hl,x,m,h=>by simp at hl
 | n+1,c::r,hl,x,m,h=>by
  by_cases h1:c=39
  ·subst h1;rw [uv] at h;cases h;simp
  ·by_cases h2:c=92
   ·subst h2;cases r with
    | nil=>simp [quo] at h
    | cons d r =>
     by_cases h3:d=39\/d=92
     ·simp only [quo,h3,bo] at h;simp at h;obtain ⟨y,k,h4,rfl,rfl⟩:=h;have:=uu n r (by simp at hl;omega) y k h4;simp;omega
     ·simp [quo,h3] at h
   ·by_cases h3:c.toNat < 32\/126 < c.toNat
    ·rw [qg r h1 h2 h3] at h;cases h
    ·rw [ur r h1 h2 h3] at h;simp at h;obtain ⟨y,k,h4,rfl,rfl⟩:=h;have:=uu n r (by simp at hl;omega) y k h4;simp;omega
omit hP in
theorem o8 {s p:List UInt8} (h:jl s p=true):p.length<=s.length:=by
 simp only [jl,ag,ak] at h;exact h.1
omit hP in
theorem DZ (r:List UInt8):(sgn r).length<=r.length:=by
 unfold sgn;split
 ·rename_i h;exact o8 h
 ·split
  ·rename_i h;exact o8 h
  ·split
   ·rename_i h;exact o8 h
   ·split
    ·split<;>simp
    ·simp
omit hP in
theorem sU (t:List UInt8) (hi:i < t.length) (h:(ez t i).2.2=true):i < (ez t i).2.1/\(ez t i).2.1<=t.length:=by
 have hci:t[i]?=some t[i]:=aa hi;have hdr:t.drop i=t[i]::t.drop (i+1):=av hi;generalize t[i]=c at hci hdr;unfold ez at h ⊢;simp only [hci] at h ⊢;by_cases h1:isLet c.toNat=true
 ·have h2:=kL t (i:=i) (by omega);have h3:i < bS t i:=by unfold bS;rw [hdr];simp [du,h1]
  simp only [h1,bo] at h ⊢;split<;>exact ⟨h3,h2.2⟩
 ·simp only [h1,aV,bB] at h ⊢;by_cases h2:dk c.toNat=true
  ·have h3:=pb t (i:=i) (by omega);have h4:i < dn t i:=by unfold dn;rw [hdr];simp [du,h2]
   simp only [h2,bo];exact ⟨h4,h3.2⟩
  ·simp only [h2,aV,bB] at h ⊢;by_cases h3:c=39
   ·simp only [h3,bo] at h ⊢;unfold quoted at h ⊢;cases hq:quo (t.drop (i+1)) with
    | none=>rw [hq] at h;cases h
    | some p =>
     obtain ⟨x,n⟩:=p;have:=uu _ _ (al _) x n hq;rw [bD] at this;dsimp only;omega
   ·simp only [h3,aV] at h ⊢;have h4:=DZ (t.drop i);rw [bD] at h4;have h5:0 < (sgn (t.drop i)).length:=List.length_pos_iff.2 (by simpa using h);omega
theorem F6 (S:Shelf C) (t:List UInt8) (hl:t.length < 1073741824):Fn C 137 [.d (.str t)] [] (xM (uL t)) []:=by
 refine eN hP I4 ⟨gP (fun h1=>⟨?_⟩) fun h1=>⟨?_⟩⟩
 ·(repeat' (first | refine gP (fun _=>⟨?_⟩) fun _=>⟨?_⟩ | exact lW ⟨trivial,rfl⟩ | refine lW ⟨trivial,?_⟩))
  have h1:65536 < t.length:=by have:=ai h1;omega
  simp [uL,h1,xM]
 have h1':¬ 65536 < t.length:=by have:=ao h1;omega
 refine gP (fun h2=>⟨?_⟩) fun h2=>⟨?_⟩
 ·(repeat' (first | refine gP (fun _=>⟨?_⟩) fun _=>⟨?_⟩ | exact lW ⟨trivial,rfl⟩ | refine lW ⟨trivial,?_⟩))
  have h2:600 < t.length:=by have:=ai h2;omega
  simp [uL,h1',h2,xM]
 have h2':¬ 600 < t.length:=by have:=ao h2;omega
 refine gO (C8 hP (p:=kB) (fun b=>FT hP b) t 0 (by omega) (by omega)) ⟨?_⟩;have hN:uL t=lZ t (t.length+1) (skip t 0) []:=by simp [uL,h1',h2']
 generalize uL t=N at hN;have hs0:=qd t (i:=0) (by omega);refine ah.loop (fun x:List Tok×Nat×Nat=>t.length - x.2.1) (fun x=>x.2.1<=t.length/\x.1.length<=300/\t.length < x.2.1+x.2.2/\N=lZ t x.2.2 x.2.1 x.1) (fun x=>[(0,.d (.str t)),(2,.d .nil),(3,.d (.int .i64 0)),(4,.d (.int .i64 0)),(5,.arr 0 0 x.1.length),(6,.d (.int .i64 x.2.1))]) (fun x=>[(0,.da 3 (x.1.map Tok.enc))]) 1 ?_ ([],skip t 0,t.length+1) ⟨hs0.2,by simp,by dsimp only;omega,hN⟩;intro ⟨acc,i,n⟩ ⟨hi,hac,hn,hNi⟩ ih;dsimp only at hi hac hn hNi ih ⊢;refine gG ⟨gP (fun h=>⟨?_⟩) fun h=>⟨?_⟩⟩
 ·have hlt:i < t.length:=by have:=ai h;omega
  obtain ⟨n,rfl⟩:∃ n',n=n'+1:=⟨n - 1,by omega⟩
  simp only [lZ,hlt,bo] at hNi;refine gP (fun h3=>⟨?_⟩) fun h3=>⟨?_⟩
  ·(repeat' (first | refine gP (fun _=>⟨?_⟩) fun _=>⟨?_⟩ | exact lW ⟨trivial,rfl⟩ | refine lW ⟨trivial,?_⟩))
   have h3:acc.length=300:=by have:=ai h3;omega
   rw [aj h3] at hNi;subst hNi;rfl
  have h3:¬ acc.length=300:=by have:=ao h3;omega
  rw [ab h3] at hNi;refine gO (HF hP S t i hlt hl) ⟨gP (fun h4=>⟨?_⟩) fun h4=>⟨?_⟩⟩
  ·(repeat' (first | refine gP (fun _=>⟨?_⟩) fun _=>⟨?_⟩ | exact lW ⟨trivial,rfl⟩ | refine lW ⟨trivial,?_⟩))
   have h4:¬ (ez t i).2.2=true:=by simpa using h4
   rw [ab h4] at hNi;subst hNi;rfl
  have h4:(ez t i).2.2=true:=by simpa using h4
  rw [aj h4] at hNi;have hnx:=sU t hlt h4;refine gN (by simp [Sh.len];omega) ⟨gO (C8 hP (p:=kB) (fun b=>FT hP b) t (ez t i).2.1 (by omega) (by omega)) ⟨?_⟩⟩;have hsk:=qd t hnx.2;refine (ih (acc++[(ez t i).1],skip t (ez t i).2.1,n) ⟨hsk.2,by simp;omega,by dsimp only;omega,hNi⟩ (by dsimp only;omega)).to ?_ ?_
  ·simp [Sh.len,skip]
  ·simp [Tok.enc,ae]
 ·(repeat' (first | refine gP (fun _=>⟨?_⟩) fun _=>⟨?_⟩ | exact lW ⟨trivial,rfl⟩ | refine lW ⟨trivial,?_⟩))
  have h:¬ i < t.length:=by have:=ao h;omega
  have:N= .ok acc:=by
   rw [hNi];cases n with
   | zero=>rfl
   | succ n=>simp [lZ,h]
  subst this;simp [xM,qD,ae]
end
def gF:List UInt8:=[43,45,42,47,37,60,61,33,38,124,40,41,123,125,44,59]
theorem C0 {l:List UInt8} (hlt:j < l.length) (h:¬ l[j]=c):decide (c∈l.drop j)=decide (c∈l.drop (j+1)):=by
 rw [av hlt];congr 1;rw [aQ];simp only [eq_iff_iff];exact ⟨fun h'=>h'.resolve_left (fun e=>h e.symm),.inr⟩
theorem yo {d:UInt8}:(c.toNat:Int)=(d.toNat:Int)↔c=d:=by
 rw [<- UInt8.toNat_inj];omega
theorem sR (l:List UInt8) (c:UInt8):oC (l++[c])=oC l * 10+(c.toNat - 48):=by
 unfold oC;rw [List.foldl_append];rfl
theorem yl:∀ (n:Nat) (l:List UInt8),l.length=n->(l.all fun b=>dk b.toNat)=true->oC l < 10 ^ n
 | 0,l,hl,_=>by
  have:l=[]:=cI.1 hl;subst this;decide
 | n+1,l,hl,h=>by
  have hne:l≠[]:=by rintro rfl;simp at hl
  obtain ⟨m,c,rfl⟩:∃ m c,l=m++[c]:=⟨l.dropLast,l.getLast hne,(List.dropLast_concat_getLast hne).symm⟩
  simp only [List.all_append,ag,List.all_cons,List.all_nil,Bool.and_true] at h;have:=yl n m (by simp at hl;omega) h.1;rw [sR,Nat.pow_succ];have h2:=h.2;simp only [dk,ak] at h2;omega
theorem Fy (h:n<=18):(10:Nat) ^ n<=1000000000000000000:=by
 have:(10:Nat) ^ n<=10 ^ 18:=Nat.pow_le_pow_right (by decide) h;exact this
section
variable {C:Ctx} (hP:C.P=Tryz.prog)
include hP
theorem HH (c:UInt8):Fn C 173 [.d (.int .u8 c.toNat)] [] (.d (.bool (decide (c∈gF)))) []:=by
 refine eN hP c173 ⟨?_⟩;refine ah.loop (fun j:Nat=>gF.length - j) (fun j=>j<=gF.length/\(decide (c∈gF)=decide (c∈gF.drop j))) (fun j=>[(0,.d (.int .u8 c.toNat)),(2,.ff),(3,.d (.int .i64 j))]) (fun _=>[]) 0 ?_ 0 ⟨by decide,rfl⟩;intro j ⟨hj,hjN⟩ ih;have hl:gF.length=16:=rfl;refine gG ⟨gP (fun h=>⟨?_⟩) fun h=>⟨?_⟩⟩
 ·have hlt:j < gF.length:=by have:=ai h;omega
  refine ah.exB (s:=gF) (b:=gF[j]) (by simp [hlt]) (by omega) ?_;refine gG ⟨gP (fun hp=>⟨?_⟩) fun hp=>⟨?_⟩⟩
  ·(repeat' (first | refine gP (fun _=>⟨?_⟩) fun _=>⟨?_⟩ | exact lW ⟨trivial,rfl⟩ | refine lW ⟨trivial,?_⟩))
   have hp:gF[j]=c:=yo.1 (ai hp);rw [hjN,av hlt,hp];simp
  ·rw [aC (by omega)];exact ih (j+1) ⟨hlt,by rw [hjN,C0 hlt (fun e=>ao hp (by rw [e]))]⟩ (by omega)
 ·(repeat' (first | refine gP (fun _=>⟨?_⟩) fun _=>⟨?_⟩ | exact lW ⟨trivial,rfl⟩ | refine lW ⟨trivial,?_⟩))
  rw [hjN,b7 (by have:=ao h;omega)];rfl
theorem FW (t:List UInt8):FnE C 172 [.d (.str t)] [] (fun v os=>(∃ n,v= .tup [.d (.int .i64 n),.d (.bool (dD t))]/\(dD t=true->n=jt t))/\os=[]):=by
 have main:∀ (sg:Int) (r:List UInt8),(sg=1\/sg= -1)->1<=r.length->r.length<=18->(dD t=true↔(r.all fun b=>dk b.toNat)=true)->(dD t=true->jt t=sg * oC r) ->
   b4 C 0 [(2,none),(3,none)] (fun v os=>(∃ n,v= .tup [.d (.int .i64 n),.d (.bool (dD t))]/\(dD t=true->n=jt t))/\os=[]) (Cfg.eF E4.l 0 [(0,.d (.str r)),(2,.d (.int .i64 0)),(3,.ff),(4,.d (.int .i64 sg)),(5,.d (.int .i64 0)),(6,.d (.int .i64 0))] [] 0):=by
  intro sg r hsg hr1 hr2 hok hval;refine ah.loop (fun j:Nat=>r.length - j) (fun j=>j<=r.length/\((r.take j).all fun b=>dk b.toNat)=true) (fun j=>[(0,.d (.str r)),(2,.d (.int .i64 0)),(3,.ff),(4,.d (.int .i64 sg)),(5,.d (.int .i64 (oC (r.take j):Nat))),(6,.d (.int .i64 j))]) (fun _=>[]) 0 ?_ 0 ⟨by omega,by simp⟩;intro j ⟨hj,hd⟩ ih;have hv:=yl _ _ rfl hd;have hv2:=Fy (n:=(r.take j).length) (by rw [bh];omega);refine gG ⟨gP (fun h=>⟨?_⟩) fun h=>⟨?_⟩⟩
  ·have hlt:j < r.length:=by have:=ai h;omega
   generalize hc:r[j]=c;have hcj:r[(j:Int).toNat]?=some c:=by rw [bt,aa hlt,hc]
   have hbad:dk c.toNat=false->dD t=false:=by
    intro hb;cases hn:dD t with
    | false=>rfl
    | true =>
     have:=List.all_eq_true.1 (hok.1 hn) c (by rw [<- hc];exact aZ hlt);rw [hb] at this;cases this
   refine ah.exB (b:=c) hcj (by omega) ?_;refine gG ⟨gP (fun h1=>⟨?_⟩) fun h1=>⟨?_⟩⟩
   ·refine ah.aD (os':=[]) [] trivial rfl rfl trivial ?_;(conv=>whnf);have hb:=hbad (by simp only [dk,dC];have:=ai h1;omega);exact ⟨⟨0,by rw [hb],fun h=>by rw [hb] at h;cases h⟩,rfl⟩
   refine ah.exB (b:=c) hcj (by omega) ?_;refine gG ⟨gP (fun h2=>⟨?_⟩) fun h2=>⟨?_⟩⟩
   ·refine ah.aD (os':=[]) [] trivial rfl rfl trivial ?_;(conv=>whnf);have hb:=hbad (by simp only [dk,dC];have:=ai h2;omega);exact ⟨⟨0,by rw [hb],fun h=>by rw [hb] at h;cases h⟩,rfl⟩
   have hdc:dk c.toNat=true:=by
    have:=ao h1;have:=ao h2;simp only [dk,ak];omega
   have hcr:48<=c.toNat/\c.toNat<=57:=by
    simp only [dk,ak] at hdc;omega
   refine ah.exB (b:=c) hcj (by omega) ?_;refine gG ⟨?_⟩;have hv3:(10:Nat) ^ (r.take j).length<=10 ^ 17:=Nat.pow_le_pow_right (by decide) (by rw [bh];omega);have htk:r.take (j+1)=r.take j++[c]:=by rw [aG hlt,hc]
   refine (ih (j+1) ⟨hlt,by rw [htk,List.all_append,hd];simp [hdc]⟩ (by omega)).to ?_ rfl;rw [aC (by omega),htk,sR];rw [wrap_i64 (n:=(oC (r.take j):Int) * 10) (by omega),wrap_i64 (n:=(c.toNat:Int)) (by omega),wrap_i64 (n:=(oC (r.take j):Int) * 10+c.toNat) (by omega),wrap_i64 (by omega)];simp;omega
  ·have hall:r.take j=r:=ae (by have:=ao h;omega);rw [hall] at hd hv hv2 ⊢;have hn:=hok.2 hd;refine ah.aD (os':=[]) [] trivial rfl rfl trivial ?_;(conv=>whnf);refine ⟨⟨sg * oC r,?_,fun _=>(hval hn).symm⟩,rfl⟩;rw [hn];rw [wrap_i64 (by rcases hsg with rfl | rfl<;>omega)]
 refine eE hP E4 ⟨?_⟩;have hno:∀ (x:Ex) (fr:Fr),(match x with | .exit _=>False | _=>True)->cP fr 2= .d (.int .i64 0)->cP fr 3= .ff->dD t=false->b4 C 0 [(2,none),(3,none)] (fun v os=>(∃ n,v= .tup [.d (.int .i64 n),.d (.bool (dD t))]/\(dD t=true->n=jt t))/\os=[]) (.fin x fr [] 0):=by
  intro x fr hx h2 h3 hn;refine ah.leave (os':=[]) [] hx (fr':=[(2,.d (.int .i64 0)),(3,.ff)]) (σ':=[]) (n:=0) (v:= .tup [.d (.int .i64 0),.d (.bool false)]) ?_ rfl trivial ⟨⟨0,by rw [hn],fun h=>by rw [hn] at h;cases h⟩,rfl⟩;simp only [List.map,eB,h2,h3];rfl
 cases t with
 | nil =>
  refine gX ⟨gY ⟨?_⟩ (by decide)⟩ (by decide);exact hno _ _ trivial rfl rfl rfl
 | cons c r =>
  refine gY ⟨?_⟩ (by simp);refine ah.exB (b:=c) rfl (by decide) ?_;refine gG ⟨gP (fun h1=>⟨?_⟩) fun h1=>⟨?_⟩⟩
  ·have h1:c=45:=kp (n:=45) (by decide) (ai h1);subst h1;refine gN ⟨by omega,by simp;omega⟩ ⟨?_⟩;rw [show sub (45::r) (some 1) none=r from rfl];refine gP (fun h2=>⟨?_⟩) fun h2=>⟨?_⟩
   ·have:r.length=0:=by have:=ai h2;omega
    exact hno _ _ trivial rfl rfl (by simp [dD,gr,this])
   have hr1:1<=r.length:=by have:=ao h2;omega
   refine gP (fun h3=>⟨?_⟩) fun h3=>⟨?_⟩
   ·have:¬ r.length<=18:=by have:=ai h3;omega
    exact hno _ _ trivial rfl rfl (by simp [dD,gr,this])
   have hr2:r.length<=18:=by have:=ao h3;omega
   obtain ⟨d,r',rfl⟩:∃ d r',r=d::r':=by
    cases r with
    | nil=>simp at hr1
    | cons d r'=>exact ⟨d,r',rfl⟩
   refine ah.exB (b:=d) rfl (by decide) ?_;refine gG ⟨gP (fun h4=>⟨?_⟩) fun h4=>⟨?_⟩⟩
   ·have h4:d=48:=kp (n:=48) (by decide) (ai h4);refine gP (fun h5=>⟨?_⟩) fun h5=>⟨?_⟩
    ·exact hno _ _ trivial rfl rfl (by simp [dD,h4])
    ·refine gY ⟨?_⟩ (by decide);exact hno _ _ trivial rfl rfl (by simp [dD,h4])
   ·have h4:¬ d=48:=by
     rintro rfl
     simp at h4
    refine main (-1) (d::r') (.inr rfl) hr1 hr2 ?_ ?_
    ·simp only [aT] at hr2;simp [dD,gr,h4];omega
    ·intro _;simp [jt]
  ·have h1:¬ c=45:=by
    rintro rfl
    simp at h1
   generalize hrr:c::r=t at *;have hr1:1<=t.length:=by rw [<- hrr];simp
   have hnum:dD t=gr t/\jt t=oC t:=by
    rw [<- hrr];constructor
    ·unfold dD;split
     ·rename_i h;cases h;exact absurd rfl h1
     ·rfl
    ·unfold jt;split
     ·rename_i h;cases h;exact absurd rfl h1
     ·rfl
   refine gX ⟨gP (fun h3=>⟨?_⟩) fun h3=>⟨?_⟩⟩ (aI (by omega))
   ·have:¬ t.length<=18:=by have:=ai h3;omega
    exact hno _ _ trivial rfl rfl (by rw [hnum.1];simp [gr,this])
   have hr2:t.length<=18:=by have:=ao h3;omega
   refine ah.exB (b:=c) (by rw [<- hrr];rfl) (by decide) ?_;refine gG ⟨?_⟩;have hdone:(t.head?≠some 48\/t.length=1)->b4 C 0 [(2,none),(3,none)] (fun v os=>(∃ n,v= .tup [.d (.int .i64 n),.d (.bool (dD t))]/\(dD t=true->n=jt t))/\os=[]) (Cfg.eF E4.l 0 [(0,.d (.str t)),(2,.d (.int .i64 0)),(3,.ff),(4,.d (.int .i64 1)),(5,.d (.int .i64 0)),(6,.d (.int .i64 0))] [] 0):=by
    intro hh;refine main 1 t (.inl rfl) hr1 hr2 ?_ ?_
    ·rw [hnum.1];have hr1':0 < t.length:=hr1;rcases hh with hh | hh
     ·simp only [gr,hr1,hr2];simp [hh]
     ·simp [gr,hh]
    ·intro _;rw [hnum.2];simp
   refine gP (fun h4=>⟨?_⟩) fun h4=>⟨?_⟩
   ·have h4:c=48:=kp (n:=48) (by decide) (ai h4);refine gP (fun h5=>⟨?_⟩) fun h5=>⟨?_⟩
    ·have h5:¬ t.length=1:=by have:=ai h5;omega
     exact hno _ _ trivial rfl rfl (by rw [hnum.1];simp [gr,<- hrr,h4];rw [<- hrr] at h5;intro _ _ _;simpa using h5)
    ·refine gX ⟨?_⟩ (by decide);exact hdone (.inr (by have:=ao h5;omega))
   ·have h4:¬ c=48:=by
     rintro rfl
     simp at h4
    exact hdone (.inl (by rw [<- hrr];simpa using h4))
omit hP in
theorem Dk (c a b:UInt8) (r:List UInt8):jl (c::r) [a,b]=(decide (c=a)&&decide (r.head?=some b)):=by
 rw [Bool.eq_iff_iff];cases r with
 | nil=>simp [jl]
 | cons d r=>simp [jl]
omit hP in
theorem uk (c:UInt8) (r:List UInt8):sgn (c::r)=if (c=61\/c=38\/c=124)/\r.head?=some c then [c,c] else if c=38\/c=124 then [] else if c∈gF then [c] else []:=by
 unfold sgn;simp only [Dk];by_cases h1:c=61
 ·subst h1;by_cases h:r.head?=some 61
  ·simp [h]
  ·simp [h];decide
 ·by_cases h2:c=38
  ·subst h2;by_cases h:r.head?=some 38
   ·simp [h]
   ·simp [h];decide
  ·by_cases h3:c=124
   ·subst h3;by_cases h:r.head?=some 124
    ·simp [h]
    ·simp [h];decide
   ·simp only [h1,h2,h3,decide_false,Bool.false_and,bB,aV,or_self,false_and];have:c∈oI↔c∈gF:=by simp [oI,gF,h2,h3]
    simp [this]
omit hP in
theorem qM (p:Int->Bool):∀ l:List UInt8,((l.take (du p l)).all fun b=>p b.toNat)=true
 | []=>rfl
 | b::l=>by
  simp only [du];split
  ·rename_i h;simp only [List.take_succ_cons,List.all_cons,h,qM p l,Bool.and_true]
  ·simp
omit hP in
theorem kI (t:List UInt8) (i n:Nat):eL t i (i+n)=(t.drop i).take n:=by
 unfold eL;rw [List.drop_take];congr 1;omega
omit hP in
theorem zh (hc:t[i]?=some c) (h1:isLet c.toNat=true) :
  ez t i=(⟨if eL t i (bS t i)∈words then 2 else 1,i,eL t i (bS t i)⟩,bS t i,decide (bS t i - i<=20)):=by
 have hlt:i < t.length:=(af.1 hc).1;have hle:=kL t (i:=i) (by omega);have hlen:(eL t i (bS t i)).length=bS t i - i:=by simp only [eL,bD,bh];omega
 have hdr:t.drop i=c::t.drop (i+1):=by rw [av hlt];rw [aa hlt] at hc;cases hc;rfl
 have hpos:i < bS t i:=by unfold bS;rw [hdr];simp [du,h1]
 unfold ez;simp only [hc,h1,bo];by_cases hw:eL t i (bS t i)∈words
 ·have:=px hw;simp only [hw,bo];rw [aR (by omega)]
 ·simp only [hw,aV];refine Prod.ext rfl (Prod.ext rfl ?_);show j4 _=_;have hall:((eL t i (bS t i)).all fun b=>isLet b.toNat || dk b.toNat)=true:=by
   unfold bS;rw [kI];exact qM (fun n=>isLet n || dk n) _
  have hhd:(eL t i (bS t i)).headD 0=c:=by
   unfold bS;rw [kI,hdr];simp [du,h1]
  have hnd:dk c.toNat=false:=by
   simp only [isLet,dk,ak,dC] at h1 ⊢;omega
  simp only [j4,kV,hall,hhd,hnd,hw,hlen,decide_false,Bool.not_false,Bool.and_true];rw [Bool.eq_iff_iff];simp;omega
omit hP in
theorem Az (hc:t[i]?=some c) (h1:isLet c.toNat=false) (h2:dk c.toNat=true) :
  ez t i=(⟨3,i,eL t i (dn t i)⟩,dn t i,dD (eL t i (dn t i))&&decide (jt (eL t i (dn t i))<=2147483647)):=by
 have hlt:i < t.length:=(af.1 hc).1;have hdr:t.drop i=c::t.drop (i+1):=by rw [av hlt];rw [aa hlt] at hc;cases hc;rfl
 unfold ez;simp only [hc,h1,h2,bo,bB,aV];refine Prod.ext rfl (Prod.ext rfl ?_);show nZ _=_;have hnn:0<=jt (eL t i (dn t i)):=by
  unfold dn;rw [kI,hdr];simp only [du,h2,bo,List.take_succ_cons];unfold jt;split
  ·rename_i h;cases h;simp [dk] at h2
  ·omega
 simp [nZ,hnn]
omit hP in
theorem vE (hc:t[i]?=some 39):ez t i=(⟨4,i,(quoted t i).1⟩,(quoted t i).2.1,(quoted t i).2.2):=by
 unfold ez;simp only [hc];rfl
omit hP in
theorem Ay (hc:t[i]?=some c) (h1:isLet c.toNat=false) (h2:dk c.toNat=false) (h3:¬ c=39):ez t i=(⟨5,i,sgn (t.drop i)⟩,i+(sgn (t.drop i)).length,decide (sgn (t.drop i)≠[])):=by
 unfold ez;simp only [hc,h1,h2,h3,aV,bB]
def tE (t:List UInt8) (i:Nat) (v:V) (os:List (Option O)):Prop :=
 ∃ (x:Tok) (e:Nat) (ok:Bool),v= .tup [.agg ((Tok.enc x).map .d),.d (.int .i64 e),.d (.bool ok)]/\os=[]/\ok=(ez t i).2.2/\(ok=true->x=(ez t i).1/\e=(ez t i).2.1)
theorem H4 (t:List UInt8) (i:Nat) (hi:i < t.length) (hl:t.length < 1073741824):FnE C 116 [.d (.str t),.d (.int .i64 i)] [] (tE t i):=by
 have z3:List V:=[.d (.int .i64 0),.d (.int .i64 0),.d (.str [])]
 refine eG hP c116 ?_;generalize hc:t[i]=c;have hci:t[i]?=some c:=by rw [aa hi,hc]
 have hdr:t.drop i=c::t.drop (i+1):=by rw [av hi,hc]
 have tail0:isLet c.toNat=true->b4 C 0 [(4,some (some 3)),(5,none),(6,none)] (tE t i) (Cfg.dy c116.l 0 [(0,.d (.str t)),(1,.d (.int .i64 i)),(4,.ptr 0 0 0),(5,.d (.int .i64 0)),(6,.ff),(8,.d (.int .i64 (bS t i:Nat)))] [(0,.st [.d (.int .i64 0),.d (.int .i64 0),.d (.str [])])] 1):=by
  intro h1;have hw:=zh hci h1;have hwe:=kL t (i:=i) (by omega);refine gT ⟨?_⟩;rw [wrap_i64 (by omega)];refine gP (fun h2=>⟨?_⟩) fun h2=>⟨?_⟩
  ·have h2:¬ bS t i - i<=20:=by have:=ai h2;omega
   refine lE (os':=[]) ⟨trivial,?_⟩;(conv=>whnf);exact ⟨⟨0,0,[]⟩,i,false,rfl,rfl,Eq.symm (by rw [hw];exact aI h2),fun h=>by cases h⟩
  have h2:bS t i - i<=20:=by have:=ao h2;omega
  refine gN (show fb t.length (some (i:Int)) (some (bS t i:Int)) from ⟨by omega,by omega,by omega⟩) ⟨gO (HJ hP _) ⟨gP (fun h3=>⟨?_⟩) fun h3=>⟨?_⟩⟩⟩
  ·have h3:eL t i (bS t i)∈words:=ai h3;refine gN (show fb t.length (some (i:Int)) (some (bS t i:Int)) from ⟨by omega,by omega,by omega⟩) ⟨lE (os':=[]) ⟨trivial,?_⟩⟩;(conv=>whnf);refine ⟨⟨2,i,eL t i (bS t i)⟩,bS t i,true,rfl,rfl,by rw [hw];exact (aR h2).symm,fun _=>by rw [hw];simp [h3]⟩
  ·have h3:¬ eL t i (bS t i)∈words:=ao h3;refine gN (show fb t.length (some (i:Int)) (some (bS t i:Int)) from ⟨by omega,by omega,by omega⟩) ⟨lE (os':=[]) ⟨trivial,?_⟩⟩;(conv=>whnf);refine ⟨⟨1,i,eL t i (bS t i)⟩,bS t i,true,rfl,rfl,by rw [hw];exact (aR h2).symm,fun _=>by rw [hw];simp [h3]⟩
 have tail1:isLet c.toNat=false->dk c.toNat=true->b4 C 0 [(4,some (some 3)),(5,none),(6,none)] (tE t i) (Cfg.dy c116.l 1 [(0,.d (.str t)),(1,.d (.int .i64 i)),(4,.ptr 0 0 0),(5,.d (.int .i64 0)),(6,.ff),(8,.d (.int .i64 (dn t i:Nat)))] [(0,.st [.d (.int .i64 0),.d (.int .i64 0),.d (.str [])])] 1):=by
  intro h1 h2;have hw:=Az hci h1 h2;have hwe:=pb t (i:=i) (by omega);refine gT ⟨gN (show fb t.length (some (i:Int)) (some (dn t i:Int)) from ⟨by omega,by omega,by omega⟩) ⟨?_⟩⟩;obtain ⟨v,os',hcall,⟨n,rfl,hn⟩,rfl⟩:=FW hP (eL t i (dn t i));refine gO hcall ⟨gP (fun h3=>⟨?_⟩) fun h3=>⟨?_⟩⟩
  ·have h3:dD (eL t i (dn t i))=false:=by simpa using h3
   refine lE (os':=[]) ⟨trivial,?_⟩;(conv=>whnf);exact ⟨⟨0,0,[]⟩,i,false,rfl,rfl,Eq.symm (by rw [hw];simp [h3]),fun h=>by cases h⟩
  have h3:dD (eL t i (dn t i))=true:=by simpa using h3
  rw [hn h3];refine gP (fun h4=>⟨?_⟩) fun h4=>⟨?_⟩
  ·have h4:¬ jt (eL t i (dn t i))<=2147483647:=by have:=ai h4;omega
   refine lE (os':=[]) ⟨trivial,?_⟩;(conv=>whnf);exact ⟨⟨0,0,[]⟩,i,false,rfl,rfl,Eq.symm (by rw [hw];simp [h4]),fun h=>by cases h⟩
  have h4:jt (eL t i (dn t i))<=2147483647:=by have:=ao h4;omega
  refine gN (show fb t.length (some (i:Int)) (some (dn t i:Int)) from ⟨by omega,by omega,by omega⟩) ⟨lE (os':=[]) ⟨trivial,?_⟩⟩;(conv=>whnf);exact ⟨⟨3,i,eL t i (dn t i)⟩,dn t i,true,rfl,rfl,by rw [hw];simp [h3,h4],fun _=>by rw [hw];exact ⟨rfl,rfl⟩⟩
 have tail2:c=39->∀ (acc:List UInt8) (j:Nat),acc.length<=t.length->i < j->j<=t.length->(j=t.length->quoted t i=([],0,false))->(j < t.length->quoted t i=(acc,j+1,decide (acc.length<=60))) ->
   b4 C 0 [(4,some (some 3)),(5,none),(6,none)] (tE t i) (Cfg.dy c116.l 2 [(0,.d (.str t)),(1,.d (.int .i64 i)),(4,.ptr 0 0 0),(5,.d (.int .i64 0)),(6,.ff),(8,.d (.int .i64 j)),(12,.arr 1 0 acc.length)] [(0,.st [.d (.int .i64 0),.d (.int .i64 0),.d (.str [])]),(1,.da 1 (iD acc))] 2):=by
  intro h0 acc j hacc hij hj he hq;subst h0;have hw:=vE hci;refine gT ⟨gP (fun h2=>⟨?_⟩) fun h2=>⟨?_⟩⟩
  ·have h2:j=t.length:=by have:=ai h2;omega
   refine lE (os':=[]) ⟨trivial,?_⟩;(conv=>whnf);exact ⟨⟨0,0,[]⟩,i,false,rfl,rfl,Eq.symm (by rw [hw,he h2]),fun h=>by cases h⟩
  have h2:j < t.length:=by have:=ao h2;omega
  have hq:=hq h2;refine gP (fun h3=>⟨?_⟩) fun h3=>⟨?_⟩
  ·have h3:¬ acc.length<=60:=by have:=ai h3;omega
   refine lE (os':=[]) ⟨trivial,?_⟩;(conv=>whnf);exact ⟨⟨0,0,[]⟩,i,false,rfl,rfl,Eq.symm (by rw [hw,hq];exact aI h3),fun h=>by cases h⟩
  have h3:acc.length<=60:=by have:=ao h3;omega
  rw [fV,sW];refine gN (by simp) ⟨?_⟩;rw [aC (by omega)];refine lE (os':=[]) ⟨trivial,?_⟩;(conv=>whnf);exact ⟨⟨4,i,acc⟩,j+1,true,rfl,rfl,by rw [hw,hq];exact (aR h3).symm,fun _=>by rw [hw,hq];exact ⟨rfl,rfl⟩⟩
 refine gG ⟨?_⟩;refine ah.exB (b:=c) hci (by omega) ?_;refine gG ⟨gO (FX hP _) ⟨?_⟩⟩;rw [aC (by omega)];refine gP (fun h1=>⟨?_⟩) fun h1=>⟨?_⟩
 ·have hstart:i+1+du (fun n=>isLet n || dk n) (t.drop (i+1))=bS t i:=by
   unfold bS;rw [hdr];simp only [du,h1,Bool.true_or,bo];omega
  refine gW (fun j:Nat=>t.length - j) (fun j=>i < j/\j<=t.length/\j+du (fun n=>isLet n || dk n) (t.drop j)=bS t i) (fun j=>[(0,.d (.str t)),(1,.d (.int .i64 i)),(4,.ptr 0 0 0),(5,.d (.int .i64 0)),(6,.ff),(8,.d (.int .i64 j))]) (fun _=>[(0,.st [.d (.int .i64 0),.d (.int .i64 0),.d (.str [])])]) 1 ?_ (i+1) ⟨by omega,by omega,hstart⟩;refine fun j ⟨hij,hj,hN⟩ ih=>⟨?_⟩
  refine gP (fun h=>⟨?_⟩) fun h=>⟨?_⟩
  ·have hlt:j < t.length:=by have:=ai h;omega
   generalize hd:t[j]=d;have hdj:t[(j:Int).toNat]?=some d:=by rw [bt,aa hlt,hd]
   rw [av hlt,hd] at hN;have go:(isLet d.toNat || dk d.toNat)=true->i < j+1/\j+1<=t.length/\j+1+du (fun n=>isLet n || dk n) (t.drop (j+1))=bS t i:=by
    intro hb;simp only [du,hb,bo] at hN;exact ⟨by omega,hlt,by omega⟩
   refine ah.exB (b:=d) hdj (by omega) ?_;refine gG ⟨gO (FX hP _) ⟨gP (fun h3=>⟨?_⟩) fun h3=>⟨?_⟩⟩⟩
   ·rw [aC (by omega)];exact ih (j+1) (go (by simp [h3])) (by omega)
   ·refine ah.exB (b:=d) hdj (by omega) ?_;refine gG ⟨gO (Ew hP _) ⟨gP (fun h4=>⟨?_⟩) fun h4=>⟨?_⟩⟩⟩
    ·rw [aC (by omega)];exact ih (j+1) (go (by simp [h4])) (by omega)
    ·simp only [du,h3,h4,Bool.or_self,bB,aV,cr] at hN;subst hN;exact tail0 h1
  ·rw [b7 (by have:=ao h;omega)] at hN;simp only [du,cr] at hN;subst hN;exact tail0 h1
 refine gO (Ew hP _) ⟨gP (fun h2=>⟨?_⟩) fun h2=>⟨?_⟩⟩
 ·have hstart:i+1+du dk (t.drop (i+1))=dn t i:=by
   unfold dn;rw [hdr];simp only [du,h2,bo];omega
  refine gW (fun j:Nat=>t.length - j) (fun j=>i < j/\j<=t.length/\j+du dk (t.drop j)=dn t i) (fun j=>[(0,.d (.str t)),(1,.d (.int .i64 i)),(4,.ptr 0 0 0),(5,.d (.int .i64 0)),(6,.ff),(8,.d (.int .i64 j))]) (fun _=>[(0,.st [.d (.int .i64 0),.d (.int .i64 0),.d (.str [])])]) 1 ?_ (i+1) ⟨by omega,by omega,hstart⟩;refine fun j ⟨hij,hj,hN⟩ ih=>⟨?_⟩
  refine gP (fun h=>⟨?_⟩) fun h=>⟨?_⟩
  ·have hlt:j < t.length:=by have:=ai h;omega
   generalize hd:t[j]=d;have hdj:t[(j:Int).toNat]?=some d:=by rw [bt,aa hlt,hd]
   rw [av hlt,hd] at hN;refine ah.exB (b:=d) hdj (by omega) ?_;refine gG ⟨gO (Ew hP _) ⟨gP (fun h3=>⟨?_⟩) fun h3=>⟨?_⟩⟩⟩
   ·rw [aC (by omega)];simp only [du,h3,bo] at hN;exact ih (j+1) ⟨by omega,hlt,by omega⟩ (by omega)
   ·simp only [du,h3,bB,aV,cr] at hN;subst hN;exact tail1 h1 h2
  ·rw [b7 (by have:=ao h;omega)] at hN;simp only [du,cr] at hN;subst hN;exact tail1 h1 h2
 refine gP (fun h3=>⟨?_⟩) fun h3=>⟨?_⟩
 ·have h3:c=39:=kp (n:=39) (by decide) (ai h3);subst h3;have hw:=vE hci;have hN:quoted t i=(match quo (t.drop (i+1)) with | some (y,n)=>([]++y,i+1+n,decide (([]++y:List UInt8).length<=60)) | none=>([],0,false)):=rfl;generalize hNN:quoted t i=N at hN;refine ah.loop (fun x:List UInt8×Nat=>t.length - x.2) (fun x=>i < x.2/\x.2<=t.length/\x.1.length<=x.2/\N=(match quo (t.drop x.2) with | some (y,n)=>(x.1++y,x.2+n,decide ((x.1++y).length<=60)) | none=>([],0,false))) (fun x=>[(0,.d (.str t)),(1,.d (.int .i64 i)),(4,.ptr 0 0 0),(5,.d (.int .i64 0)),(6,.ff),(8,.d (.int .i64 x.2)),(12,.arr 1 0 x.1.length)]) (fun x=>[(0,.st [.d (.int .i64 0),.d (.int .i64 0),.d (.str [])]),(1,.da 1 (iD x.1))]) 2 ?_ ([],i+1) ⟨by simp,by simp;omega,by simp,hN⟩;intro ⟨acc,j⟩ ⟨hij,hj,haj,hjN⟩ ih;dsimp only at hij hj haj hjN ih ⊢;have next:∀ (d:UInt8) (n:Nat) (r:List UInt8),j+n<=t.length->1<=n->t.drop (j+n)=r->(N=match (quo r).map fun p=>(d::p.1,p.2+n) with | some (y,n)=>(acc++y,j+n,decide ((acc++y).length<=60)) | none=>([],0,false)) ->
    (i < j+n/\j+n<=t.length/\(acc++[d]).length<=j+n/\N=(match quo (t.drop (j+n)) with | some (y,n')=>(acc++[d]++y,j+n+n',decide ((acc++[d]++y).length<=60)) | none=>([],0,false))):=by
   intro d n r h1 h2 h3 h4;refine ⟨by omega,h1,by simp;omega,?_⟩;rw [h4,h3];cases quo r with
   | none=>rfl
   | some p =>
    simp only [aS,e8,List.singleton_append];refine Prod.ext rfl (Prod.ext ?_ rfl);dsimp only;omega
  refine gG ⟨gP (fun h=>⟨?_⟩) fun h=>⟨?_⟩⟩
  ·have hlt:j < t.length:=by have:=ai h;omega
   rw [av hlt] at hjN;generalize hd:t[j]=d at hjN;have hdj:t[(j:Int).toNat]?=some d:=by rw [bt,aa hlt,hd]
   refine ah.exB (b:=d) hdj (by omega) ?_;refine gG ⟨gP (fun h4=>⟨?_⟩) fun h4=>⟨?_⟩⟩
   ·have h4:¬ d=39:=by
     rintro rfl
     simp at h4
    refine ah.exB (b:=d) hdj (by omega) ?_;refine gG ⟨gP (fun h5=>⟨?_⟩) fun h5=>⟨?_⟩⟩
    ·have h5:d=92:=kp (n:=92) (by decide) (ai h5);subst h5;rw [aC (by omega)];refine gP (fun h6=>⟨?_⟩) fun h6=>⟨?_⟩
     ·have h6:t.drop (j+1)=[]:=b7 (by have:=ai h6;omega);rw [h6,show quo [92]=none by simp [quo]] at hjN;refine lE (os':=[]) ⟨trivial,?_⟩;(conv=>whnf);exact ⟨⟨0,0,[]⟩,i,false,rfl,rfl,Eq.symm (by rw [hw,hNN,hjN]),fun h=>by cases h⟩
     have hlt2:j+1 < t.length:=by have:=ao h6;omega
     rw [av hlt2] at hjN;generalize he:t[j+1]=e at hjN;have hej:t[((j+1:Nat):Int).toNat]?=some e:=by rw [bt,aa hlt2,he]
     refine ah.exB (b:=e) hej (by omega) ?_;refine gG ⟨?_⟩;have hesc:(e=39\/e=92)->b4 C 0 [(4,some (some 3)),(5,none),(6,none)] (tE t i) (Cfg.eF c116.l 2 [(0,.d (.str t)),(1,.d (.int .i64 i)),(4,.ptr 0 0 0),(5,.d (.int .i64 0)),(6,.ff),(8,.d (.int .i64 ((j+2:Nat):Int))),(12,.arr 1 0 (acc++[e]).length)] [(0,.st [.d (.int .i64 0),.d (.int .i64 0),.d (.str [])]),(1,.da 1 (iD (acc++[e])))] 2):=by
      intro hee;exact ih (acc++[e],j+2) (next e 2 (t.drop (j+2)) (by omega) (by omega) rfl (by rw [hjN];simp [quo,hee])) (by dsimp only;omega)
     refine gP (fun h7=>⟨?_⟩) fun h7=>⟨?_⟩
     ·have h7:¬ e=39:=by
       rintro rfl
       simp at h7
      refine ah.exB (b:=e) hej (by omega) ?_;refine gG ⟨gP (fun h8=>⟨?_⟩) fun h8=>⟨?_⟩⟩
      ·have h8:¬ e=92:=by
        rintro rfl
        simp at h8
       rw [show quo (92::e::t.drop (j+1+1))=none by simp [quo,h7,h8]] at hjN;refine lE (os':=[]) ⟨trivial,?_⟩;(conv=>whnf);exact ⟨⟨0,0,[]⟩,i,false,rfl,rfl,Eq.symm (by rw [hw,hNN,hjN]),fun h=>by cases h⟩
      have h8:e=92:=kp (n:=92) (by decide) (by simpa using h8);refine ah.exB (b:=e) hej (by omega) ?_;refine gG ⟨?_⟩;rw [wrap_i64 (n:=(e.toNat:Int)) (by have:=e.toNat_lt;omega)];refine gO (k44 hP _ _ _) ⟨?_⟩;refine gX ⟨?_⟩ (by rw [h8];decide);refine ah.exB (b:=e) hej (by omega) ?_;refine gG ⟨?_⟩;refine gN (by simp [Sh.len];omega) ⟨?_⟩;rw [fV,aC (by omega)];refine (hesc (.inr h8)).to (by simp [Sh.len]<;>omega) (by simp [iD])
     ·have h7:e=39:=kp (n:=39) (by decide) (by simpa using h7);refine ah.exB (b:=e) hej (by omega) ?_;refine gG ⟨?_⟩;rw [wrap_i64 (n:=(e.toNat:Int)) (by have:=e.toNat_lt;omega)];refine gO (k44 hP _ _ _) ⟨?_⟩;refine gX ⟨?_⟩ (by rw [h7];decide);refine ah.exB (b:=e) hej (by omega) ?_;refine gG ⟨?_⟩;refine gN (by simp [Sh.len];omega) ⟨?_⟩;rw [fV,aC (by omega)];refine (hesc (.inl h7)).to (by simp [Sh.len]<;>omega) (by simp [iD])
    ·have h5:¬ d=92:=by
      rintro rfl
      simp at h5
     refine ah.exB (b:=d) hdj (by omega) ?_;refine gG ⟨?_⟩;rw [wrap_i64 (n:=(d.toNat:Int)) (by have:=d.toNat_lt;omega)];refine gO (k44 hP _ _ _) ⟨gP (fun h6=>⟨?_⟩) fun h6=>⟨?_⟩⟩
     ·have h6:d.toNat < 32\/126 < d.toNat:=by
       simp only [ey,dC] at h6;omega
      rw [qg _ h4 h5 h6] at hjN;refine lE (os':=[]) ⟨trivial,?_⟩;(conv=>whnf);exact ⟨⟨0,0,[]⟩,i,false,rfl,rfl,Eq.symm (by rw [hw,hNN,hjN]),fun h=>by cases h⟩
     have h6:¬ (d.toNat < 32\/126 < d.toNat):=by
      simp only [Bool.not_eq_false',ak] at h6;omega
     refine ah.exB (b:=d) hdj (by omega) ?_;refine gG ⟨?_⟩;refine gN (by simp [Sh.len];omega) ⟨?_⟩;rw [fV,aC (by omega)];refine (ih (acc++[d],j+1) (next d 1 (t.drop (j+1)) (by omega) (by omega) rfl (by rw [hjN,ur _ h4 h5 h6])) (by dsimp only;omega)).to (by simp [Sh.len]<;>omega) (by simp [iD])
   ·have h4:d=39:=kp (n:=39) (by decide) (by simpa using h4);rw [h4,uv] at hjN;simp only [List.append_nil] at hjN;exact tail2 rfl acc j (by omega) hij hj (fun h=>by omega) (fun _=>by rw [hNN,hjN])
  ·have hlen:j=t.length:=by have:=ao h;omega
   rw [b7 (by omega),show quo []=none from rfl] at hjN;exact tail2 rfl acc j (by omega) hij hj (fun _=>by rw [hNN,hjN]) (fun h=>by omega)
 ·have h3:¬ c=39:=by
   rintro rfl
   simp at h3
  have hw:=Ay hci h1 h2 h3;refine gO (HH hP c) ⟨?_⟩;have tail3:∀ k,i < k->k<=t.length->ez t i=(⟨5,i,eL t i k⟩,k,true)->b4 C 0 [(4,some (some 3)),(5,none),(6,none)] (tE t i) (Cfg.dy c116.l 3 [(0,.d (.str t)),(1,.d (.int .i64 i)),(4,.ptr 0 0 0),(5,.d (.int .i64 0)),(6,.ff),(8,.d (.int .i64 k))] [(0,.st [.d (.int .i64 0),.d (.int .i64 0),.d (.str [])])] 1):=by
   intro k hik hk hw;refine gT ⟨gN (show fb t.length (some (i:Int)) (some (k:Int)) from ⟨by omega,by omega,by omega⟩) ⟨lE (os':=[]) ⟨trivial,?_⟩⟩⟩;(conv=>whnf);exact ⟨⟨5,i,eL t i k⟩,k,true,rfl,rfl,by rw [hw],fun _=>by rw [hw];exact ⟨rfl,rfl⟩⟩
  have cut1:eL t i (i+1)=[c]:=by rw [kI,hdr];rfl
  have two:∀ d,t[i+1]?=some d->eL t i (i+2)=[c,d]:=by
   intro d hd;have hlt2:=(af.1 hd).1;rw [kI,hdr,av hlt2];rw [aa hlt2] at hd;cases hd;rfl
  refine gP (fun h4=>⟨?_⟩) fun h4=>⟨?_⟩
  ·have h4:c∈gF:=ai h4;have single:(c=38\/c=124->False)->((t.drop (i+1)).head?≠some c\/¬ (c=61\/c=38\/c=124))->ez t i=(⟨5,i,eL t i (i+1)⟩,i+1,true):=by
    intro h5 h6;rw [hw,hdr,uk];have e1:¬ ((c=61\/c=38\/c=124)/\(t.drop (i+1)).head?=some c):=fun hh=>h6.elim (fun h=>h hh.2) (fun h=>h hh.1)
    rw [ab e1,ab h5,aj h4,cut1];rfl
   have double:(c=61\/c=38\/c=124)->t[i+1]?=some c->ez t i=(⟨5,i,eL t i (i+2)⟩,i+2,true):=by
    intro h5 h6;rw [hw,hdr,uk,aj ⟨h5,by rw [List.head?_drop];exact h6⟩,two c h6];rfl
   have none':(c=38\/c=124)->t[i+1]?≠some c->(ez t i).2.2=false:=by
    intro h5 h6;have e1:¬ ((c=61\/c=38\/c=124)/\(t.drop (i+1)).head?=some c):=fun hh=>h6 (by rw [<- List.head?_drop];exact hh.2)
    rw [hw,hdr,uk,ab e1,aj h5];rfl
   by_cases hlt:i+1 < t.length
   ·generalize hd:t[i+1]=d;have hdn:t[i+1]?=some d:=by rw [aa hlt,hd]
    have hdj:t[((i+1:Nat):Int).toNat]?=some d:=hdn;have hlen:decide (((i+1:Nat):Int) < (t.length:Int))=true:=aR (by omega);have hdd:∀ x:UInt8,(d=x->decide ((d.toNat:Int)=(x.toNat:Int))=true)/\(¬ d=x->decide ((d.toNat:Int)=(x.toNat:Int))=false):=fun x=>⟨fun h=>aR (by rw [h]),fun h=>aI (fun h'=>h (yo.1 h'))⟩
    have hcc:∀ x:UInt8,¬ c=x->decide ((c.toNat:Int)=(x.toNat:Int))=false:=fun x h=>aI (fun h'=>h (yo.1 h'))
    by_cases c61:c=61
    ·subst c61;by_cases hdc:d=61
     ·have f61:=(hdd 61).1 hdc
      repeat (first | (refine gY ⟨?_⟩ (by first | assumption | decide)) | (refine gX ⟨?_⟩ (by first | assumption | decide)) | (refine ah.exB (b:=d) hdj (by omega) ?_;refine gG ⟨?_⟩))
      rw [aC (by omega)];exact tail3 (i+2) (by omega) (by omega) (double (.inl rfl) (by rw [hdn,hdc]))
     ·have f61:=(hdd 61).2 hdc
      repeat (first | (refine gY ⟨?_⟩ (by first | assumption | decide)) | (refine gX ⟨?_⟩ (by first | assumption | decide)) | (refine ah.exB (b:=d) hdj (by omega) ?_;refine gG ⟨?_⟩))
      exact tail3 (i+1) (by omega) (by omega) (single (by decide) (.inl (by rw [List.head?_drop,hdn];simpa using hdc)))
    have e61:=hcc 61 c61;by_cases c38:c=38
    ·subst c38;by_cases hdc:d=38
     ·have f38:=(hdd 38).1 hdc
      repeat (first | (refine gY ⟨?_⟩ (by first | assumption | decide)) | (refine gX ⟨?_⟩ (by first | assumption | decide)) | (refine ah.exB (b:=d) hdj (by omega) ?_;refine gG ⟨?_⟩))
      rw [aC (by omega)];exact tail3 (i+2) (by omega) (by omega) (double (.inr (.inl rfl)) (by rw [hdn,hdc]))
     ·have f38:=(hdd 38).2 hdc
      repeat (first | (refine gY ⟨?_⟩ (by first | assumption | decide)) | (refine gX ⟨?_⟩ (by first | assumption | decide)) | (refine ah.exB (b:=d) hdj (by omega) ?_;refine gG ⟨?_⟩))
      (refine ah.aD (os':=[]) [0] trivial rfl rfl trivial ?_;(conv=>whnf);exact ⟨⟨0,0,[]⟩,i,false,rfl,rfl,Eq.symm (none' (.inl rfl) (by rw [hdn];simpa using hdc)),fun h=>by cases h⟩)
    have e38:=hcc 38 c38;by_cases c124:c=124
    ·subst c124;by_cases hdc:d=124
     ·have f124:=(hdd 124).1 hdc
      repeat (first | (refine gY ⟨?_⟩ (by first | assumption | decide)) | (refine gX ⟨?_⟩ (by first | assumption | decide)) | (refine ah.exB (b:=d) hdj (by omega) ?_;refine gG ⟨?_⟩))
      rw [aC (by omega)];exact tail3 (i+2) (by omega) (by omega) (double (.inr (.inr rfl)) (by rw [hdn,hdc]))
     ·have f124:=(hdd 124).2 hdc
      repeat (first | (refine gY ⟨?_⟩ (by first | assumption | decide)) | (refine gX ⟨?_⟩ (by first | assumption | decide)) | (refine ah.exB (b:=d) hdj (by omega) ?_;refine gG ⟨?_⟩))
      (refine ah.aD (os':=[]) [0] trivial rfl rfl trivial ?_;(conv=>whnf);exact ⟨⟨0,0,[]⟩,i,false,rfl,rfl,Eq.symm (none' (.inr rfl) (by rw [hdn];simpa using hdc)),fun h=>by cases h⟩)
    have e124:=hcc 124 c124
    repeat (first | (refine gY ⟨?_⟩ (by first | assumption | decide)) | (refine gX ⟨?_⟩ (by first | assumption | decide)) | (refine ah.exB (b:=d) hdj (by omega) ?_;refine gG ⟨?_⟩))
    exact tail3 (i+1) (by omega) (by omega) (single (by simp [c38,c124]) (.inr (by simp [c61,c38,c124])))
   ·have hlen:decide (((i+1:Nat):Int) < (t.length:Int))=false:=aI (by omega);have hdn:t[i+1]?=none:=bF (by omega);have hcc:∀ x:UInt8,¬ c=x->decide ((c.toNat:Int)=(x.toNat:Int))=false:=fun x h=>aI (fun h'=>h (yo.1 h'))
    by_cases c38:c=38
    ·subst c38
     repeat (first | (refine gY ⟨?_⟩ (by first | assumption | decide)) | (refine gX ⟨?_⟩ (by first | assumption | decide)))
     (refine ah.aD (os':=[]) [0] trivial rfl rfl trivial ?_;(conv=>whnf);exact ⟨⟨0,0,[]⟩,i,false,rfl,rfl,Eq.symm (none' (.inl rfl) (by rw [hdn];simp)),fun h=>by cases h⟩)
    have e38:=hcc 38 c38;by_cases c124:c=124
    ·subst c124
     repeat (first | (refine gY ⟨?_⟩ (by first | assumption | decide)) | (refine gX ⟨?_⟩ (by first | assumption | decide)))
     (refine ah.aD (os':=[]) [0] trivial rfl rfl trivial ?_;(conv=>whnf);exact ⟨⟨0,0,[]⟩,i,false,rfl,rfl,Eq.symm (none' (.inr rfl) (by rw [hdn];simp)),fun h=>by cases h⟩)
    have e124:=hcc 124 c124
    repeat (first | (refine gY ⟨?_⟩ (by first | assumption | decide)) | (refine gX ⟨?_⟩ (by first | assumption | decide)))
    exact tail3 (i+1) (by omega) (by omega) (single (by simp [c38,c124]) (.inl (by rw [List.head?_drop,hdn];simp)))
  ·have h4:¬ c∈gF:=ao h4;have e1:¬ (c=61\/c=38\/c=124):=by
    rintro (rfl | rfl | rfl)<;>exact h4 (by decide)
   have e2:¬ (c=38\/c=124):=fun h=>e1 (.inr h)
   refine lE (os':=[]) ⟨trivial,?_⟩;(conv=>whnf);exact ⟨⟨0,0,[]⟩,i,false,rfl,rfl,Eq.symm (by rw [hw,hdr,uk,ab (fun h=>e1 h.1),ab e2,ab h4];rfl),fun h=>by cases h⟩
def oX (t:List UInt8):Except (Nat×Int) (List Tok):=lZ t (t.length+1) (skip t 0) []
omit hP in
theorem xF (hlt:i < t.length) (h:kB (t[i]).toNat=true):skip t i=skip t (i+1):=by
 unfold skip;rw [av hlt];simp only [du,h,bo];omega
omit hP in
theorem AE (hlt:i < t.length) (h:kB (t[i]).toNat=false):skip t i=i:=by
 unfold skip;rw [av hlt];simp only [du,h,bB,aV,cr]
omit hP in
theorem AF (h:t.length<=i):skip t i=i:=by
 unfold skip;rw [b7 h];rfl
theorem k82 (t:List UInt8) (hl:t.length < 1073741824):Fn C 82 [.d (.str t)] [] (xM (oX t)) []:=by
 refine eN hP c82 ⟨?_⟩;have hN:oX t=lZ t (t.length+1) (skip t 0) []:=rfl;generalize oX t=N at hN;have hs0:=qd t (i:=0) (by omega);refine ah.loop (fun x:List Tok×Nat×Nat=>t.length - x.2.1) (fun x=>x.2.1<=t.length/\x.1.length<=300/\t.length < skip t x.2.1+x.2.2/\N=lZ t x.2.2 (skip t x.2.1) x.1) (fun x=>[(0,.d (.str t)),(2,.d .nil),(3,.d (.int .i64 0)),(4,.d (.int .i64 0)),(5,.arr 0 0 x.1.length),(6,.d (.int .i64 x.2.1))]) (fun x=>[(0,.da 3 (x.1.map Tok.enc))]) 1 ?_ ([],0,t.length+1) ⟨by simp,by simp,by dsimp only;omega,hN⟩;intro ⟨acc,i,n⟩ ⟨hi,hac,hn,hNi⟩ ih;dsimp only at hi hac hn hNi ih ⊢;refine gG ⟨gP (fun h=>⟨?_⟩) fun h=>⟨?_⟩⟩
 ·have hlt:i < t.length:=by have:=ai h;omega
  have hb1:=fun h=>xF (t:=t) hlt h
  have hb2:=fun h=>AE (t:=t) hlt h
  generalize hc:t[i]=c at hb1 hb2;have hci:t[(i:Int).toNat]?=some c:=by rw [bt,aa hlt,hc]
  refine ah.exB (b:=c) hci (by omega) ?_;refine gG ⟨?_⟩;have blank:kB c.toNat=true->b4 C 0 [(2,none),(3,none),(4,none)] (fun v1 os1=>v1=xM N/\os1=[]) (Cfg.eF c82.l 0 [(0,.d (.str t)),(2,.d .nil),(3,.d (.int .i64 0)),(4,.d (.int .i64 0)),(5,.arr 0 0 acc.length),(6,.d (.int .i64 ((i+1:Nat):Int)))] [(0,.da 3 (acc.map Tok.enc))] 1):=by
   intro hb;rw [hb1 hb] at hn hNi;exact ih (acc,i+1,n) ⟨hlt,hac,hn,hNi⟩ (by dsimp only;omega)
  refine gP (fun h1=>⟨?_⟩) fun h1=>⟨?_⟩
  ·rw [aC (by omega)];exact blank (by have:=ai h1;simp only [kB,ak];omega)
  refine gP (fun h2=>⟨?_⟩) fun h2=>⟨?_⟩
  ·rw [aC (by omega)];exact blank (by have:=ai h2;simp only [kB,ak];omega)
  refine gP (fun h3=>⟨?_⟩) fun h3=>⟨?_⟩
  ·rw [aC (by omega)];exact blank (by have:=ai h3;simp only [kB,ak];omega)
  have hsk:skip t i=i:=hb2 (by
   have:=ao h1;have:=ao h2;have:=ao h3;simp only [kB,dC];omega)
  rw [hsk] at hn hNi;obtain ⟨n,rfl⟩:∃ n',n=n'+1:=⟨n - 1,by omega⟩
  simp only [lZ,hlt,bo] at hNi;refine gP (fun h4=>⟨?_⟩) fun h4=>⟨?_⟩
  ·(repeat' (first | refine gP (fun _=>⟨?_⟩) fun _=>⟨?_⟩ | exact lW ⟨trivial,rfl⟩ | refine lW ⟨trivial,?_⟩))
   have h4:acc.length=300:=by have:=ai h4;omega
   rw [aj h4] at hNi;subst hNi;rfl
  have h4:¬ acc.length=300:=by have:=ao h4;omega
  rw [ab h4] at hNi;obtain ⟨v,os',hcall,x,e,ok,rfl,rfl,hok,hx⟩:=H4 hP t i hlt hl;refine gO hcall ⟨gP (fun h5=>⟨?_⟩) fun h5=>⟨?_⟩⟩
  ·(repeat' (first | refine gP (fun _=>⟨?_⟩) fun _=>⟨?_⟩ | exact lW ⟨trivial,rfl⟩ | refine lW ⟨trivial,?_⟩))
   have h5:¬ (ez t i).2.2=true:=by rw [<- hok];simpa using h5
   rw [ab h5] at hNi;subst hNi;rfl
  have h5:ok=true:=by simpa using h5
  have h6:(ez t i).2.2=true:=by rw [<- hok];exact h5
  obtain ⟨rfl,rfl⟩:=hx h5;rw [aj h6] at hNi;have hnx:=sU t hlt h6;refine gN (by simp [Sh.len];omega) ⟨?_⟩;have hsk2:=qd t hnx.2;refine (ih (acc++[(ez t i).1],(ez t i).2.1,n) ⟨hnx.2,by simp;omega,by dsimp only;omega,hNi⟩ (by dsimp only;omega)).to ?_ ?_
  ·simp [Sh.len]
  ·simp [Tok.enc,ae]
 ·(repeat' (first | refine gP (fun _=>⟨?_⟩) fun _=>⟨?_⟩ | exact lW ⟨trivial,rfl⟩ | refine lW ⟨trivial,?_⟩))
  have h:¬ i < t.length:=by have:=ao h;omega
  have hsk:skip t i=i:=AF (by omega);rw [hsk] at hNi;have:N= .ok acc:=by
   rw [hNi];cases n with
   | zero=>rfl
   | succ n=>simp [lZ,h]
  subst this;simp [xM,qD,ae]
theorem Ec (t:List UInt8) (h1:¬ 65536 < t.length) (h2:¬ 600 < t.length):uL t=oX t:=by
 simp [uL,oX,h1,h2]
end
structure Nd where
 kind:Int
 n:Int
 text:List UInt8
 names:List (List UInt8)
 kids:List Int
def bJ (l:List Int):D:= .imm 1 (l.map fun k=>[.int .i64 k])
def Nd.enc (x:Nd):List D:=[.int .i64 x.kind,.int .i64 x.n,.str x.text,strs x.names,bJ x.kids]
structure PI where
 pos:Nat
 opn:Int
 nodes:List Nd
 code:Int
 place:Int
def PI.enc (l:List Tok) (s:PI) (a:Nat):O:= .st [.d (qD l),.d (.int .i64 s.pos),.d (.int .i64 s.opn),.arr a 0 s.nodes.length,.d (.int .i64 s.code),.d (.int .i64 s.place)]
def aB (ns:List Nd):O:= .da 5 (ns.map Nd.enc)
def cY (l:List Tok) (p:Nat):Int:=match l[p]? with
 | some x=>x.place
 | none=>match l[l.length - 1]? with
  | some x=>((x.place+1:Nat):Int)
  | none=>0
def PI.fail (l:List Tok) (s:PI) (c:Int):PI:=if s.code=0 then {s with code:=c,place:=cY l s.pos} else s
structure dr (l:List Tok):Prop where
 len:l.length<=300
 place:∀ x∈l,x.place<=1073741824
 num:∀ x∈l,x.kind=3->dD x.text=true
 word:∀ x∈l,x.kind=2->x.text∈words
 sign:∀ x∈l,x.kind=5->¬ x.text∈words
theorem fH {l:List Tok} {p:Nat} {x:Tok} (h:l[p]?=some x):(l.map Tok.enc)[((p:Nat):Int).toNat]?=some x.enc:=by
 simp [h]
section
variable {C:Ctx} (hP:C.P=Tryz.prog)
include hP
theorem zH {l:List Tok} (hl:dr l) (s:PI) (hs:s.code=0->s.place=0) (c:Int) :
  Fn C 205 [.ptr 0 0 0,.d (.int .i64 c)] [s.enc l 1,aB s.nodes] (.tup []) [some ((s.fail l c).enc l 1),some (aB s.nodes)]:=by
 refine eN hP IH ⟨gP (fun h1=>⟨?_⟩) fun h1=>⟨?_⟩⟩
 ·refine ah.aD (os':=[some (s.enc l 1),some (aB s.nodes)]) [0,1] trivial rfl rfl ⟨rfl,rfl,trivial⟩ ?_;(conv=>whnf);have h1:¬ s.code=0:=by simpa using h1
  exact ⟨rfl,by rw [PI.fail,ab h1]⟩
 have h1:s.code=0:=by simpa using h1
 refine gP (fun h2=>⟨?_⟩) fun h2=>⟨?_⟩
 ·have h2:s.pos < l.length:=by have:=ai h2;simp at this;omega
  obtain ⟨x,hx⟩:∃ x,l[s.pos]?=some x:=⟨_,aa h2⟩
  refine gD (fH hx) ⟨lW ⟨⟨?_,rfl,trivial⟩,rfl⟩⟩;simp [PI.fail,h1,cY,hx];rfl
 have h2:¬ s.pos < l.length:=by have:=ao h2;simp at this;omega
 have hn:l[s.pos]?=none:=bF (by omega);refine gP (fun h3=>⟨?_⟩) fun h3=>⟨?_⟩
 ·have h3:0 < l.length:=by have:=ai h3;simp at this;omega
  obtain ⟨x,hx⟩:∃ x,l[l.length - 1]?=some x:=⟨_,aa (by omega)⟩
  have hlen:(l.map Tok.enc).length=l.length:=by simp
  rw [wrap_i64 (by have:=hl.len;rw [hlen];omega)];refine ah.exD (row:=x.enc) (by rw [hlen,show ((l.length:Int) - 1).toNat=l.length - 1 by omega];simp [hx]) (by rw [hlen];omega) rfl ?_;refine gG ⟨?_⟩;have hp:=hl.place x (aP hx);rw [aC (by omega)];refine lW ⟨⟨?_,rfl,trivial⟩,rfl⟩;simp [PI.fail,h1,cY,hx,hn];rfl
 ·have h3:l=[]:=by
   cases l with
   | nil=>rfl
   | cons a l=>simp at h3
  refine lW ⟨⟨?_,rfl,trivial⟩,rfl⟩;subst h3;simp [PI.fail,h1,cY,<- hs h1];rfl
def jZ (l:List Tok) (s:PI) (k:Int) (t:List UInt8):Bool:=decide (s.code=0)&&match l[s.pos]? with
 | some x=>decide (x.kind=k)&&decide (x.text=t)
 | none=>false
theorem En (l:List Tok) (s:PI) (k:Int) (t:List UInt8) :
  Fn C 203 [.ptr 0 0 0,.d (.int .i64 k),.d (.str t)] [s.enc l 1,aB s.nodes] (.d (.bool (jZ l s k t))) [some (s.enc l 1),some (aB s.nodes)]:=by
 refine eN hP c203 ⟨gP (fun h1=>⟨?_⟩) fun h1=>⟨?_⟩⟩
 ·have h1:s.code=0:=ai h1;refine gP (fun h2=>⟨?_⟩) fun h2=>⟨?_⟩
  ·have h2:s.pos < l.length:=by have:=ai h2;simp at this;omega
   obtain ⟨x,hx⟩:∃ x,l[s.pos]?=some x:=⟨_,aa h2⟩
   refine gD (fH hx) ⟨gP (fun h3=>⟨?_⟩) fun h3=>⟨?_⟩⟩
   ·refine gD (fH hx) ⟨?_⟩;refine ah.aD (os':=[some (s.enc l 1),some (aB s.nodes)]) [0,1] trivial rfl rfl ⟨rfl,rfl,trivial⟩ ?_;(conv=>whnf);have h3:x.kind=k:=ai h3;refine ⟨?_,rfl⟩;simp [jZ,h1,hx,h3]
   ·refine ah.aD (os':=[some (s.enc l 1),some (aB s.nodes)]) [0,1] trivial rfl rfl ⟨rfl,rfl,trivial⟩ ?_;(conv=>whnf);have h3:¬ x.kind=k:=ao h3;refine ⟨?_,rfl⟩;simp [jZ,h1,hx,h3]
  ·have h2:¬ s.pos < l.length:=by have:=ao h2;simp at this;omega
   refine lW ⟨⟨rfl,rfl,trivial⟩,?_⟩;simp [jZ,bF (by omega:l.length<=s.pos)]
 ·have h1:¬ s.code=0:=ao h1;refine lW ⟨⟨rfl,rfl,trivial⟩,?_⟩;simp [jZ,h1]
def PI.adv (s:PI) (b:Bool):PI:=if b then {s with pos:=s.pos+1} else s
omit hP in
theorem Dg {l:List Tok} {s:PI} {k:Int} (h:jZ l s k t=true):s.code=0/\s.pos < l.length:=by
 simp only [jZ,ag,ak] at h;refine ⟨h.1,?_⟩;cases hx:l[s.pos]? with
 | none=>rw [hx] at h;cases h.2
 | some x=>exact (af.1 hx).1
theorem FQ {l:List Tok} (hl:dr l) (s:PI) (k:Int) (t:List UInt8) :
  Fn C 193 [.ptr 0 0 0,.d (.int .i64 k),.d (.str t)] [s.enc l 1,aB s.nodes] (.d (.bool (jZ l s k t))) [some ((s.adv (jZ l s k t)).enc l 1),some (aB s.nodes)]:=by
 refine eN hP c193 ⟨gC [0,1] (En hP l s k t) ⟨gP (fun h1=>⟨?_⟩) fun h1=>⟨?_⟩⟩⟩
 ·have h1:jZ l s k t=false:=by simpa using h1
  refine ah.aD (os':=[some (s.enc l 1),some (aB s.nodes)]) [0,1] trivial rfl rfl ⟨rfl,rfl,trivial⟩ ?_;(conv=>whnf);exact ⟨by rw [h1],by rw [h1];rfl⟩
 ·have h1:jZ l s k t=true:=by simpa using h1
  have hlt:=Dg h1;rw [aC (by have:=hl.len;omega)];refine ah.aD (os':=[some ((s.adv true).enc l 1),some (aB s.nodes)]) [0,1] trivial rfl rfl ⟨rfl,rfl,trivial⟩ ?_;(conv=>whnf);exact ⟨by rw [h1],by rw [h1]⟩
theorem C7 {l:List Tok} (hl:dr l) (s:PI) (t:List UInt8) :
  Fn C 196 [.ptr 0 0 0,.d (.str t)] [s.enc l 1,aB s.nodes] (.d (.bool (jZ l s 5 t))) [some ((s.adv (jZ l s 5 t)).enc l 1),some (aB s.nodes)]:=by
 exact eN hP c196 ⟨gC [0,1] (FQ hP hl s 5 t) ⟨lW ⟨⟨rfl,rfl,trivial⟩,rfl⟩⟩⟩
theorem ED {l:List Tok} (hl:dr l) (s:PI) (t:List UInt8) :
  Fn C 138 [.ptr 0 0 0,.d (.str t)] [s.enc l 1,aB s.nodes] (.d (.bool (jZ l s 2 t))) [some ((s.adv (jZ l s 2 t)).enc l 1),some (aB s.nodes)]:=by
 exact eN hP c138 ⟨gC [0,1] (FQ hP hl s 2 t) ⟨lW ⟨⟨rfl,rfl,trivial⟩,rfl⟩⟩⟩
def PI.tF (l:List Tok) (s:PI) (t:List UInt8):PI:=if jZ l s 5 t=true then s.adv true else s.fail l 3
theorem Ep {l:List Tok} (hl:dr l) (s:PI) (hs:s.code=0->s.place=0) (t:List UInt8) :
  Fn C 195 [.ptr 0 0 0,.d (strs [t])] [s.enc l 1,aB s.nodes] (.tup []) [some ((s.tF l t).enc l 1),some (aB s.nodes)]:=by
 refine eN hP IK ⟨gL ⟨gY ⟨gD rfl ⟨gC [0,1] (C7 hP hl s t) ⟨gP (fun h1=>⟨?_⟩) fun h1=>⟨?_⟩⟩⟩ (by decide)⟩⟩⟩
 ·have h1:jZ l s 5 t=false:=by simpa using h1
  rw [h1];refine gC [0,1] (zH hP hl s hs 3) ⟨gL ⟨gX ⟨?_⟩⟩⟩;refine ah.aD (os':=[some ((s.fail l 3).enc l 1),some (aB s.nodes)]) [0,1] trivial rfl rfl ⟨rfl,rfl,trivial⟩ ?_;(conv=>whnf);exact ⟨rfl,by rw [PI.tF,ab (by simp [h1])]⟩
 ·have h1:jZ l s 5 t=true:=by simpa using h1
  rw [h1];refine gL ⟨gX ⟨?_⟩⟩;refine ah.aD (os':=[some ((s.adv true).enc l 1),some (aB s.nodes)]) [0,1] trivial rfl rfl ⟨rfl,rfl,trivial⟩ ?_;(conv=>whnf);exact ⟨rfl,by rw [PI.tF,aj h1]⟩
def gJ (l:List Tok) (s:PI):Int:=if s.code=0 then (match l[s.pos]? with | some x=>x.kind | none=>0) else 0
theorem Em {l:List Tok} (s:PI) (hp:s.code=0->s.pos<=l.length) :
  Fn C 204 [.ptr 0 0 0] [s.enc l 1,aB s.nodes] (.d (.int .i64 (gJ l s))) [some (s.enc l 1),some (aB s.nodes)]:=by
 refine eN hP II ⟨gP (fun h1=>⟨?_⟩) fun h1=>⟨?_⟩⟩
 ·have h1:¬ s.code=0:=by simpa using h1
  refine ah.aD (os':=[some (s.enc l 1),some (aB s.nodes)]) [0,1] trivial rfl rfl ⟨rfl,rfl,trivial⟩ ?_;(conv=>whnf);exact ⟨by rw [gJ,ab h1],rfl⟩
 have h1:s.code=0:=by simpa using h1
 refine gP (fun h2=>⟨?_⟩) fun h2=>⟨?_⟩
 ·have h2:s.pos=l.length:=by have:=ai h2;simp at this;omega
  refine ah.aD (os':=[some (s.enc l 1),some (aB s.nodes)]) [0,1] trivial rfl rfl ⟨rfl,rfl,trivial⟩ ?_;(conv=>whnf);exact ⟨by rw [gJ,aj h1,bF (by omega)],rfl⟩
 ·have h2:s.pos < l.length:=by have:=ao h2;simp at this;have:=hp h1;omega
  obtain ⟨x,hx⟩:∃ x,l[s.pos]?=some x:=⟨_,aa h2⟩
  refine gD (fH hx) ⟨?_⟩;refine ah.aD (os':=[some (s.enc l 1),some (aB s.nodes)]) [0,1] trivial rfl rfl ⟨rfl,rfl,trivial⟩ ?_;(conv=>whnf);exact ⟨by rw [gJ,aj h1,hx],rfl⟩
def oD (l:List Tok) (s:PI) (k:Int):List UInt8:=if gJ l s=k then (match l[s.pos]? with | some x=>x.text | none=>[]) else []
def PI.text (l:List Tok) (s:PI) (k:Int):PI:=if gJ l s=k then s.adv true else s.fail l 3
theorem Er {l:List Tok} (hl:dr l) (s:PI) (hs:s.code=0->s.place=0) (hp:s.code=0->s.pos<=l.length) (k:Int) (hk:k≠0) :
  Fn C 194 [.ptr 0 0 0,.d (.int .i64 k)] [s.enc l 1,aB s.nodes] (.d (.str (oD l s k))) [some ((s.text l k).enc l 1),some (aB s.nodes)]:=by
 refine eN hP c194 ⟨gC [0,1] (Em hP s hp) ⟨gP (fun h1=>⟨?_⟩) fun h1=>⟨?_⟩⟩⟩
 ·have h1:¬ gJ l s=k:=by simpa using h1
  refine gC [0,1] (zH hP hl s hs 3) ⟨?_⟩;refine ah.aD (os':=[some ((s.fail l 3).enc l 1),some (aB s.nodes)]) [0,1] trivial rfl rfl ⟨rfl,rfl,trivial⟩ ?_;(conv=>whnf);exact ⟨by rw [oD,ab h1],by rw [PI.text,ab h1]⟩
 have h1:gJ l s=k:=by simpa using h1
 have hc:s.code=0:=by
  refine Classical.byContradiction fun hc=>hk ?_
  rw [<- h1,gJ,ab hc]
 obtain ⟨x,hx⟩:∃ x,l[s.pos]?=some x:=by
  cases hx:l[s.pos]? with
  | some x=>exact ⟨x,rfl⟩
  | none=>rw [gJ,aj hc,hx] at h1;exact absurd h1.symm hk
 have hlt:=(af.1 hx).1;have:=hl.len;rw [aC (by omega),wrap_i64 (by omega)];refine ah.exD (row:=x.enc) (by rw [show (((s.pos+1:Nat):Int) - 1)=(s.pos:Int) by omega];exact fH hx) (by omega) rfl ?_;refine gG ⟨?_⟩;refine ah.aD (os':=[some ((s.adv true).enc l 1),some (aB s.nodes)]) [0,1] trivial rfl rfl ⟨rfl,rfl,trivial⟩ ?_;(conv=>whnf);exact ⟨by rw [oD,aj h1,hx],by rw [PI.text,aj h1]⟩
def lsD (full d:D):Prop:=d=full\/(d= .nil/\full= .imm 1 [])
def ndV (x:Nd) (nd kd:D):V:= .agg [.d (.int .i64 x.kind),.d (.int .i64 x.n),.d (.str x.text),.d nd,.d kd]
def PI.node (l:List Tok) (s:PI) (x:Nd):PI:=if s.code=0 then (if s.nodes.length=200 then s.fail l 6 else {s with nodes:=s.nodes++[x]}) else s
def PI.rf (s:PI):Int:=if s.code=0 then (if s.nodes.length=200 then 0 else s.nodes.length) else 0
theorem F5 {l:List Tok} (hl:dr l) (s:PI) (hs:s.code=0->s.place=0) (x:Nd) (hn:s.nodes.length<=200) {nd kd:D} (hnd:lsD (strs x.names) nd) (hkd:lsD (bJ x.kids) kd) :
  Fn C 141 [.ptr 0 0 0,ndV x nd kd] [s.enc l 1,aB s.nodes] (.d (.int .i64 s.rf)) [some ((s.node l x).enc l 2),none,some (aB (s.node l x).nodes)]:=by
 have hfn:(s.fail l 6).nodes=s.nodes:=by unfold PI.fail;split<;>rfl
 refine eH hP c141 ?_;have key:b4 C 2 [(4,none)] (fun v1 os1=>v1= .d (.int .i64 s.rf)/\os1=[some ((s.node l x).enc l 2),none,some (aB (s.node l x).nodes)]) (Cfg.dy c141.l 0 [(0,.ptr 0 0 0),(3,.ptr 2 0 0),(4,.d (.int .i64 0))] [(0,s.enc l 3),(2,.st [.d (.int .i64 x.kind),.d (.int .i64 x.n),.d (.str x.text),.d (strs x.names),.d (bJ x.kids)]),(3,aB s.nodes)] 4):=by
  refine gT ⟨gP (fun h1=>⟨?_⟩) fun h1=>⟨?_⟩⟩
  ·have h1:¬ s.code=0:=by simpa using h1
   refine ah.aD (os':=[some (s.enc l 2),none,some (aB s.nodes)]) [0,1,3] trivial rfl rfl ⟨rfl,rfl,trivial⟩ ?_;(conv=>whnf);exact ⟨by rw [PI.rf,ab h1],by rw [PI.node,ab h1]⟩
  have h1:s.code=0:=by simpa using h1
  refine gP (fun h2=>⟨?_⟩) fun h2=>⟨?_⟩
  ·have h2:s.nodes.length=200:=by have:=ai h2;omega
   refine gC [0,3] (zH hP hl s hs 6) ⟨?_⟩;refine ah.aD (os':=[some ((s.fail l 6).enc l 2),none,some (aB s.nodes)]) [0,1,3] trivial rfl rfl ⟨rfl,rfl,trivial⟩ ?_;(conv=>whnf);exact ⟨by rw [PI.rf,aj h1,aj h2],by rw [PI.node,aj h1,aj h2,hfn]⟩
  have h2:¬ s.nodes.length=200:=by have:=ao h2;omega
  refine gN (by simp [Sh.len];omega) ⟨lW ⟨⟨?_,?_,trivial⟩,?_⟩⟩
  ·(conv=>lhs;whnf);simp [PI.enc,PI.node,h1,h2,Sh.len]
  ·(conv=>lhs;whnf);simp [PI.node,h1,h2,aB,Nd.enc,ae]
  ·rw [PI.rf,aj h1,ab h2,wrap_i64 (by simp [Sh.len];omega)];simp [Sh.len]
 rcases hnd with rfl | ⟨rfl,hnd⟩<;>rcases hkd with rfl | ⟨rfl,hkd⟩
 ·refine gG ⟨?_⟩;exact key
 ·refine gG ⟨?_⟩;rw [hkd] at key;exact key
 ·refine gG ⟨?_⟩;rw [hnd] at key;exact key
 ·refine gG ⟨?_⟩;rw [hnd,hkd] at key;exact key
end
end Go.Proofs.YtggoiofammbchaaGreatDoor.Loc
