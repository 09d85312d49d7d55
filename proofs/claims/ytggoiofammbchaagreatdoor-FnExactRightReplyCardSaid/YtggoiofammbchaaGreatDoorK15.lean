/- Part 15 of a chain that ends in the statement named in GOCLAIM.json; no condition. -/
import Derived.Test.YtggoiofammbchaaGreatDoorK14
import Derived.Lib.ItoaLen
set_option maxRecDepth 100000
set_option maxHeartbeats 2000000
set_option linter.all false
namespace Go.Proofs.YtggoiofammbchaaGreatDoor.Loc
open Go
variable {a b k n:Int} {l:List Tok} {ns:List Nd} {p:Nat}
structure Val where
 kind:Int
 n:Int
 t:List UInt8
def Val.v (x:Val):V:= .agg [.d (.int .i64 x.kind),.d (.int .i64 x.n),.d (.str x.t)]
def Val.enc (x:Val):List D:=[.int .i64 x.kind,.int .i64 x.n,.str x.t]
def iH (n:Int):Val:=⟨1,n,[]⟩
def dH (t:List UInt8):Val:=⟨3,0,t⟩
def iW (b:Bool):Val:=⟨2,if b then 1 else 0,[]⟩
def bO:Val:=⟨0,0,[]⟩
def Val.ig (x:Val):Bool:=!decide (x.n=0) || !decide (x.t=[])
def mH (n:Int):Val×Int:=if -2147483648<=n/\n<=2147483647 then (iH n,0) else (bO,4)
def vc (p:Val×Int):V:= .tup [p.1.v,.d (.int .i64 p.2)]
def small (n:Int):Prop:= -2147483648<=n/\n<=2147483647
section
variable {C:Ctx} (hP:C.P=Tryz.prog)
include hP
theorem sB (n:Int):Fn C 220 [.d (.int .i64 n)] [] (iH n).v []:=by
 refine eN hP ID ⟨?_⟩
 (repeat' (first | refine gP (fun _=>⟨?_⟩) fun _=>⟨?_⟩ | (refine gN ?_ ⟨?_⟩;rotate_left) | exact lW ⟨trivial,rfl⟩ | refine lW ⟨trivial,?_⟩))
theorem k99 (t:List UInt8):Fn C 99 [.d (.str t)] [] (dH t).v []:=by
 refine eN hP c99 ⟨?_⟩
 (repeat' (first | refine gP (fun _=>⟨?_⟩) fun _=>⟨?_⟩ | (refine gN ?_ ⟨?_⟩;rotate_left) | exact lW ⟨trivial,rfl⟩ | refine lW ⟨trivial,?_⟩))
theorem C5 (b:Bool):Fn C 216 [.d (.bool b)] [] (iW b).v []:=by
 refine eN hP IF ⟨?_⟩
 (repeat' (first | refine gP (fun _=>⟨?_⟩) fun _=>⟨?_⟩ | (refine gN ?_ ⟨?_⟩;rotate_left) | exact lW ⟨trivial,rfl⟩ | refine lW ⟨trivial,?_⟩))
 all_goals (subst_vars;rfl)
theorem FM (x:Val):Fn C 217 [x.v] [] (.d (.bool x.ig)) []:=by
 refine eN hP Dx ⟨?_⟩
 (repeat' (first | refine gP (fun _=>⟨?_⟩) fun _=>⟨?_⟩ | (refine gN ?_ ⟨?_⟩;rotate_left) | exact lW ⟨trivial,rfl⟩ | refine lW ⟨trivial,?_⟩))
 all_goals (simp_all [Val.ig])
theorem uR (n:Int):Fn C 218 [.d (.int .i64 n)] [] (vc (mH n)) []:=by
 refine eN hP c218 ⟨?_⟩
 (repeat' (first | refine gP (fun _=>⟨?_⟩) fun _=>⟨?_⟩ | (refine gN ?_ ⟨?_⟩;rotate_left) | refine gO (k47 hP _ _ _) ⟨?_⟩ | refine gO (sB hP _) ⟨?_⟩ | exact lW ⟨trivial,rfl⟩ | refine lW ⟨trivial,?_⟩))
 ·rename_i h;have h:¬ (-2147483648<=n/\n<=2147483647):=by simp at h;omega
  rw [mH,ab h];rfl
 ·rename_i h;have h:(-2147483648<=n/\n<=2147483647):=by simpa using h
  rw [mH,aj h];rfl
omit hP in
theorem wrap_small (h : -9223372036854775808<=n/\n<=9223372036854775807):IntKind.wrap .i64 n=n:=by
 exact wrap_i64 (by omega)
def vUn (op:List UInt8) (x:Val):Val×Int:=if op=[33] then (iW (!x.ig),0) else if x.kind≠1 then (bO,8) else mH (-x.n)
def vAr (op:List UInt8) (a b:Int):Val×Int :=
 if op=[60] then (iW (decide (a < b)),0) else if op=[43] then mH (a+b) else if op=[45] then mH (a - b) else if op=[42] then mH (a * b)
 else if b=0\/op=[47]/\a.tmod b≠0 then (bO,4) else if op=[37] then mH (a.tmod b) else mH (a.tdiv b)
def mI (op:List UInt8) (a b:Val):Val×Int :=
 if op=[61,61] then (iW (decide (a.kind=b.kind)&&(decide (a.n=b.n)&&decide (a.t=b.t))),0)
 else if (a.kind=3/\b.kind=3)/\op=[60] then (iW (Op.bytesLess a.t b.t),0)
 else if (a.kind=3/\b.kind=3)/\op=[43] then (if 60 < a.t.length+b.t.length then (bO,10) else (dH (a.t++b.t),0))
 else if a.kind≠1\/b.kind≠1 then (bO,8) else vAr op a.n b.n
def db (name:List UInt8):Option (List Int) :=
 if name=[108,101,110] then some [3] else if name=[115,116,114] then some [-1] else if name=[97,98,115] then some [1] else if name=[97,116] then some [3,1]
 else if name=[109,97,120]\/name=[109,105,110] then some [1,1] else if name=[99,117,116] then some [3,1,1] else none
def oY (name:List UInt8):V:=match db name with
 | some ks=> .tup [.d (bJ ks),.d (.bool true)]
 | none=> .tup [.d .nil,.d (.bool false)]
def eS:List (List UInt8):=[[111,107],[98,97,100],[108,111,110,103],[102,111,114,109],[114,97,110,103,101],[110,111,110,101],[109,97,110,121],[102,117,108,108],[116,121,112,101],[100,101,101,112],[115,105,122,101],[110,97,109,101],[116,119,105,99,101],[112,108,97,99,101],[99,111,117,110,116],[102,117,101,108],[108,97,116,101],[109,101,116,104,111,100],[109,111,114,101],[115,104,117,116]]
def eC (c:Int):List UInt8:=if 0<=c/\c<=19 then (eS[c.toNat]?).getD [] else []
theorem HP (op:List UInt8) (x:Val) (hx:small x.n):Fn C 153 [.d (.str op),x.v] [] (vc (vUn op x)) []:=by
 have hw:=wrap_small (n:=0 - x.n) (by unfold small at hx;omega);refine eN hP I2 ⟨?_⟩
 (repeat' (first | refine gP (fun _=>⟨?_⟩) fun _=>⟨?_⟩ | (refine gN ?_ ⟨?_⟩;rotate_left) | refine gO (FM hP _) ⟨?_⟩ | refine gO (C5 hP _) ⟨?_⟩ | refine gO (uR hP _) ⟨?_⟩ | exact lW ⟨trivial,rfl⟩ | refine lW ⟨trivial,?_⟩))
 all_goals simp_all [vUn,vc,Val.v,bO]
omit hP in
theorem te (ha:small a) (hb:small b) : -4611686018427387904<=a * b/\a * b<=4611686018427387904:=by
 unfold small at ha hb;have h1:(a * b).natAbs=a.natAbs * b.natAbs:=Int.natAbs_mul a b;have h2:a.natAbs * b.natAbs<=2147483648 * 2147483648:=Nat.mul_le_mul (by omega) (by omega);omega
omit hP in
theorem tf (ha:small a) : -2147483648<=a.tdiv b/\a.tdiv b<=2147483648:=by
 unfold small at ha;have h1:(a.tdiv b).natAbs=a.natAbs / b.natAbs:=Int.natAbs_tdiv a b;have h2:a.natAbs / b.natAbs<=a.natAbs:=Nat.div_le_self _ _;omega
omit hP in
theorem zl (ha:small a):small (a.tmod b):=by
 unfold small at ha ⊢;have h1:(a.tmod b).natAbs=a.natAbs % b.natAbs:=Int.natAbs_tmod a b;have h2:a.natAbs % b.natAbs<=a.natAbs:=Nat.mod_le _ _;rcases Int.le_total 0 a with h | h
 ·have:=Int.tmod_nonneg b h;omega
 ·have:a.tmod b<=0:=by
   have:=Int.tmod_nonneg b (show 0<= -a by omega);rw [Int.neg_tmod] at this;omega
  omega
theorem Hz (op:List UInt8) (a b:Int) (ha:small a) (hb:small b):Fn C 219 [.d (.str op),.d (.int .i64 a),.d (.int .i64 b)] [] (vc (vAr op a b)) []:=by
 have hw1:=wrap_small (n:=a+b) (by unfold small at ha hb;omega);have hw2:=wrap_small (n:=a - b) (by unfold small at ha hb;omega);have hw3:=wrap_small (n:=a * b) (by have:=te ha hb;omega);have hw4:=wrap_small (n:=a.tdiv b) (by have:=tf (b:=b) ha;omega);refine eN hP IE ⟨?_⟩
 (repeat' (first | refine gP (fun _=>⟨?_⟩) fun _=>⟨?_⟩ | (refine gN ?_ ⟨?_⟩;rotate_left) | refine gO (C5 hP _) ⟨?_⟩ | refine gO (uR hP _) ⟨?_⟩ | exact lW ⟨trivial,rfl⟩ | refine lW ⟨trivial,?_⟩))
 all_goals (clear ha hb;simp_all [vAr,vc,Val.v,bO])
theorem HO (op:List UInt8) (a b:Val) (ha:small a.n) (hb:small b.n) (hla:a.t.length<=1073741824) (hlb:b.t.length<=1073741824):Fn C 154 [.d (.str op),a.v,b.v] [] (vc (mI op a b)) []:=by
 have hw1:(60 < IntKind.wrap .i64 ((a.t.length:Int)+b.t.length))↔60 < a.t.length+b.t.length:=by rw [wrap_small (by omega)];omega
 have hw1b:(IntKind.wrap .i64 ((a.t.length:Int)+b.t.length)<=60)↔a.t.length+b.t.length<=60:=by rw [wrap_small (by omega)];omega
 refine eN hP c154 ⟨?_⟩
 (repeat' (first | refine gP (fun _=>⟨?_⟩) fun _=>⟨?_⟩ | (refine gN ?_ ⟨?_⟩;rotate_left) | refine gO (C5 hP _) ⟨?_⟩ | refine gO (k99 hP _) ⟨?_⟩ | refine gO (Hz hP _ _ _ ha hb) ⟨?_⟩ | exact lW ⟨trivial,rfl⟩ | refine lW ⟨trivial,?_⟩))
 all_goals (clear ha hb;first | (simp_all [mI,vc,Val.v,bO,dH];done) | (simp_all [mI,vc,Val.v,bO,dH];first | omega | (rw [ab (by omega)];simp) | (split<;>first | rfl | omega)))
theorem uS (name:List UInt8):Fn C 206 [.d (.str name)] [] (oY name) []:=by
 refine eN hP c206 ⟨?_⟩
 (repeat' (first | refine gP (fun _=>⟨?_⟩) fun _=>⟨?_⟩ | (refine gN ?_ ⟨?_⟩;rotate_left) | exact lW ⟨trivial,rfl⟩ | refine lW ⟨trivial,?_⟩))
 all_goals simp_all [oY,db,bJ]
theorem k97:Fn C 97 [] [] (.d (.imm 1 (eS.map fun w=>[.str w]))) []:=by
 refine eN hP c97 ⟨?_⟩
 (repeat' (first | refine gP (fun _=>⟨?_⟩) fun _=>⟨?_⟩ | (refine gN ?_ ⟨?_⟩;rotate_left) | exact lW ⟨trivial,rfl⟩ | refine lW ⟨trivial,?_⟩))
theorem k58 (c:Int):Fn C 58 [.d (.int .i64 c)] [] (.d (.str (eC c))) []:=by
 refine eN hP c58 ⟨?_⟩
 (repeat' (first | refine gP (fun _=>⟨?_⟩) fun _=>⟨?_⟩ | (refine gN ?_ ⟨?_⟩;rotate_left) | refine gO (k97 hP) ⟨?_⟩ | refine gO (k47 hP _ _ _) ⟨?_⟩ | exact lW ⟨trivial,rfl⟩ | refine lW ⟨trivial,?_⟩))
 ·rename_i h;have h:¬ (0<=c/\c<=19):=by
   change (!decide (0<=c/\c<=19))=true at h
   simp at h;omega
  rw [eC,ab h]
 ·rename_i h;have h:(0<=c/\c<=19):=by
   change (!decide (0<=c/\c<=19))=false at h
   simpa using h
  have hl:eS.length=20:=rfl;have hlt:c.toNat < eS.length:=by omega
  refine ah.exD (row:=[.str eS[c.toNat]]) (by simp [aa hlt]) h.1 rfl ?_;refine gG ⟨?_⟩
  (repeat' (first | refine gP (fun _=>⟨?_⟩) fun _=>⟨?_⟩ | (refine gN ?_ ⟨?_⟩;rotate_left) | exact lW ⟨trivial,rfl⟩ | refine lW ⟨trivial,?_⟩))
  rw [eC,aj h,aa hlt];rfl
theorem HK (b:Bool):Fn C 159 [.d (.bool b)] [] (.d (.str (if b then [116,114,117,101] else [102,97,108,115,101]))) []:=by
 refine eN hP c159 ⟨?_⟩
 (repeat' (first | refine gP (fun _=>⟨?_⟩) fun _=>⟨?_⟩ | (refine gN ?_ ⟨?_⟩;rotate_left) | exact lW ⟨trivial,rfl⟩ | refine lW ⟨trivial,?_⟩))
 all_goals simp_all
theorem H5 (b:Bool):Fn C 101 [.d (.bool b)] [] (.d (.str (if b then [116,114,117,101] else [102,97,108,115,101]))) []:=by
 refine eN hP Jd ⟨?_⟩
 (repeat' (first | refine gP (fun _=>⟨?_⟩) fun _=>⟨?_⟩ | (refine gN ?_ ⟨?_⟩;rotate_left) | refine gO (HK hP _) ⟨?_⟩ | exact lW ⟨trivial,rfl⟩ | refine lW ⟨trivial,?_⟩))
theorem rr (n:Int):Fn C 180 [.d (.int .i64 n)] [] (iH n).v []:=by
 refine eN hP IX ⟨?_⟩
 (repeat' (first | refine gP (fun _=>⟨?_⟩) fun _=>⟨?_⟩ | (refine gN ?_ ⟨?_⟩;rotate_left) | exact lW ⟨trivial,rfl⟩ | refine lW ⟨trivial,?_⟩))
theorem k93 (t:List UInt8):Fn C 93 [.d (.str t)] [] (dH t).v []:=by
 refine eN hP c93 ⟨?_⟩
 (repeat' (first | refine gP (fun _=>⟨?_⟩) fun _=>⟨?_⟩ | (refine gN ?_ ⟨?_⟩;rotate_left) | exact lW ⟨trivial,rfl⟩ | refine lW ⟨trivial,?_⟩))
theorem Eu (b:Bool):Fn C 183 [.d (.bool b)] [] (.d (.int .i64 (if b then 1 else 0))) []:=by
 refine eN hP c183 ⟨?_⟩
 (repeat' (first | refine gP (fun _=>⟨?_⟩) fun _=>⟨?_⟩ | (refine gN ?_ ⟨?_⟩;rotate_left) | exact lW ⟨trivial,rfl⟩ | refine lW ⟨trivial,?_⟩))
 all_goals (subst_vars;rfl)
theorem Ev (b:Bool):Fn C 181 [.d (.bool b)] [] (iW b).v []:=by
 refine eN hP IW ⟨?_⟩
 (repeat' (first | refine gP (fun _=>⟨?_⟩) fun _=>⟨?_⟩ | (refine gN ?_ ⟨?_⟩;rotate_left) | refine gO (Eu hP _) ⟨?_⟩ | exact lW ⟨trivial,rfl⟩ | refine lW ⟨trivial,?_⟩))
 all_goals rfl
theorem Dc (x:Val):Fn C 134 [x.v] [] (.d (.bool x.ig)) []:=by
 refine eN hP p8 ⟨?_⟩
 (repeat' (first | refine gP (fun _=>⟨?_⟩) fun _=>⟨?_⟩ | (refine gN ?_ ⟨?_⟩;rotate_left) | exact lW ⟨trivial,rfl⟩ | refine lW ⟨trivial,?_⟩))
 all_goals (simp_all [Val.ig])
theorem uT (n:Int):Fn C 189 [.d (.int .i64 n)] [] (vc (mH n)) []:=by
 refine eN hP IP ⟨?_⟩
 (repeat' (first | refine gP (fun _=>⟨?_⟩) fun _=>⟨?_⟩ | (refine gN ?_ ⟨?_⟩;rotate_left) | refine gO (k44 hP _ _ _) ⟨?_⟩ | refine gO (rr hP _) ⟨?_⟩ | exact lW ⟨trivial,rfl⟩ | refine lW ⟨trivial,?_⟩))
 ·rename_i h;have h:¬ (-2147483648<=n/\n<=2147483647):=by simp at h;omega
  rw [mH,ab h];rfl
 ·rename_i h;have h:(-2147483648<=n/\n<=2147483647):=by simpa using h
  rw [mH,aj h];rfl
theorem HX (op:List UInt8) (x:Val) (hx:small x.n):Fn C 132 [.d (.str op),x.v] [] (vc (vUn op x)) []:=by
 have hw:=wrap_small (n:=0 - x.n) (by unfold small at hx;omega);refine eN hP I6 ⟨?_⟩
 (repeat' (first | refine gP (fun _=>⟨?_⟩) fun _=>⟨?_⟩ | (refine gN ?_ ⟨?_⟩;rotate_left) | refine gO (Dc hP _) ⟨?_⟩ | refine gO (Ev hP _) ⟨?_⟩ | refine gO (uT hP _) ⟨?_⟩ | exact lW ⟨trivial,rfl⟩ | refine lW ⟨trivial,?_⟩))
 all_goals simp_all [vUn,vc,Val.v,bO]
theorem HW (op:List UInt8) (a b:Val) (ha:small a.n) (hb:small b.n) (hla:a.t.length<=1073741824) (hlb:b.t.length<=1073741824):Fn C 133 [.d (.str op),a.v,b.v] [] (vc (mI op a b)) []:=by
 have hw0:(60 < IntKind.wrap .i64 ((a.t.length:Int)+b.t.length))↔60 < a.t.length+b.t.length:=by rw [wrap_small (by omega)];omega
 have hw0b:(IntKind.wrap .i64 ((a.t.length:Int)+b.t.length)<=60)↔a.t.length+b.t.length<=60:=by rw [wrap_small (by omega)];omega
 have hw1:=wrap_small (n:=a.n+b.n) (by unfold small at ha hb;omega);have hw2:=wrap_small (n:=a.n - b.n) (by unfold small at ha hb;omega);have hw3:=wrap_small (n:=a.n * b.n) (by have:=te ha hb;omega);have hw4:=wrap_small (n:=a.n.tdiv b.n) (by have:=tf (b:=b.n) ha;omega);have hm:mH (a.n.tmod b.n)=(iH (a.n.tmod b.n),0):=by exact aj (zl ha)
 refine eN hP I5 ⟨?_⟩
 (repeat' (first | refine gP (fun _=>⟨?_⟩) fun _=>⟨?_⟩ | (refine gN ?_ ⟨?_⟩;rotate_left) | refine gO (Ev hP _) ⟨?_⟩ | refine gO (k93 hP _) ⟨?_⟩ | refine gO (uT hP _) ⟨?_⟩ | refine gO (rr hP _) ⟨?_⟩ | exact lW ⟨trivial,rfl⟩ | refine lW ⟨trivial,?_⟩))
 all_goals (clear ha hb;first | (simp_all [mI,vAr,vc,Val.v,bO,dH];done) | (simp_all [mI,vAr,vc,Val.v,bO,dH];first | omega | (rw [ab (by omega)];simp) | (split<;>first | rfl | omega)))
def j7 (name:List UInt8):Int:=match db name with
 | some ks=>ks.length
 | none=> -1
theorem k87 (name:List UInt8):Fn C 87 [.d (.str name)] [] (.d (.int .i64 (j7 name))) []:=by
 refine eN hP c87 ⟨?_⟩
 (repeat' (first | refine gP (fun _=>⟨?_⟩) fun _=>⟨?_⟩ | (refine gN ?_ ⟨?_⟩;rotate_left) | exact lW ⟨trivial,rfl⟩ | refine lW ⟨trivial,?_⟩))
 all_goals simp_all [j7,db]
theorem FU (c:Int):Fn C 188 [.d (.int .i64 c)] [] (.d (.str (eC c))) []:=by
 refine eN hP IT ⟨?_⟩
 (repeat' (first | refine gP (fun _=>⟨?_⟩) fun _=>⟨?_⟩ | (refine gN ?_ ⟨?_⟩;rotate_left) | exact lW ⟨trivial,rfl⟩ | refine lW ⟨trivial,?_⟩))
 ·rename_i h;rw [eC,ab (by simp at h;omega)]
 ·rename_i h0 h
  change decide (20<=c)=true at h
  rw [eC,ab (by simp at h;omega)]
 ·rename_i h0 h
  change decide (20<=c)=false at h
  have h:(0<=c/\c<=19):=by simp at h h0;omega
  have hl:eS.length=20:=rfl;have hlt:c.toNat < eS.length:=by omega
  refine ah.exD (row:=[.str eS[c.toNat]]) (show (eS.map fun w=>[D.str w])[c.toNat]?=_ by simp [aa hlt]) h.1 rfl ?_;refine gG ⟨?_⟩
  (repeat' (first | refine gP (fun _=>⟨?_⟩) fun _=>⟨?_⟩ | (refine gN ?_ ⟨?_⟩;rotate_left) | exact lW ⟨trivial,rfl⟩ | refine lW ⟨trivial,?_⟩))
  rw [eC,aj h,aa hlt];rfl
end
structure lu (C:Ctx):Prop where
 itoa:∀ n:Int,-9223372036854775808<=n->n<=9223372036854775807->Fn C 67 [.d (.int .i64 n)] [] (.d (.str (Lib.itoa n))) []
section
variable {C:Ctx} (hP:C.P=Tryz.prog)
include hP
omit hP in
theorem rT (h0:0<=n) (h1:n < 10):il [[D.int .u8 (IntKind.wrap .u8 (IntKind.wrap .i64 (48+n)))]]=some [UInt8.ofNat (48+n.toNat)]:=by
 have h2:IntKind.wrap .i64 (48+n)=48+n:=wrap_small (by omega);rw [h2];have h3:IntKind.wrap .u8 (48+n)=48+n:=by
  simp only [IntKind.wrap,IntKind.bits,IntKind.signed];simp;omega
 rw [h3];simp only [il,aS];congr 3;omega
omit hP in
theorem ve (n:Nat) (h:n < 9223372036854775808):(Lib.decDigits n).length<=21:=by
 have:=Lib.itoa_length_le ((n:Nat):Int) (by omega) (by omega);rw [Lib.itoa_nonneg] at this;exact this
theorem FI (k:Nat):∀ n:Nat,n < k->n < 9223372036854775808->Fn C 63 [.d (.int .i64 n)] [] (.d (.str (Lib.decDigits n))) []:=by
 induction k with
 | zero=>intro n h;omega
 | succ k ih =>
  intro n hn hb;refine eN hP c63 ⟨gX ⟨gX ⟨gP (fun h=>⟨?_⟩) fun h=>⟨?_⟩⟩ (by simp)⟩ (by simp)⟩
  ·have hd:=rT (n:=n) (by omega) (by simpa using h);refine gN (by rw [hd];simp) ⟨?_⟩
   (repeat' (first | refine gP (fun _=>⟨?_⟩) fun _=>⟨?_⟩ | (refine gN ?_ ⟨?_⟩;rotate_left) | exact lW ⟨trivial,rfl⟩ | refine lW ⟨trivial,?_⟩))
   rw [hd];rw [Lib.decDigits,dif_pos (by simp at h;omega)];rfl
  ·have hge:10<=n:=by simp at h;omega
   refine gN ⟨rfl,by decide⟩ ⟨?_⟩;have hq:IntKind.wrap .i64 ((n:Int).tdiv 10)=((n / 10:Nat):Int):=by
    have:(n:Int).tdiv 10=((n / 10:Nat):Int):=by rw [Int.tdiv_eq_ediv_of_nonneg (by omega)];rfl
    rw [this,wrap_small (by omega)]
   have hr:(n:Int).tmod 10=((n % 10:Nat):Int):=by rw [Int.tmod_eq_emod_of_nonneg (by omega)];rfl
   refine gC [] (ih (n / 10) (by omega) (by omega)) ⟨gN ⟨rfl,by decide⟩ ⟨?_⟩⟩ rfl (by rw [hq];rfl);have hd:=rT (n:=((n % 10:Nat):Int)) (by omega) (by omega);rw [<- hr] at hd;refine gN (by rw [hd];simp) ⟨gN ?_ ⟨?_⟩⟩
   ·rw [hd];have:=ve (n / 10) (by omega);simp;omega
   (repeat' (first | refine gP (fun _=>⟨?_⟩) fun _=>⟨?_⟩ | (refine gN ?_ ⟨?_⟩;rotate_left) | exact lW ⟨trivial,rfl⟩ | refine lW ⟨trivial,?_⟩))
   rw [hd,hr]
   conv=>rhs;rw [Lib.decDigits]
   rw [dif_neg (by omega)];congr 3
theorem k63 (n:Int) (h0 : -9223372036854775808 < n) (h1:n<=9223372036854775807):Fn C 63 [.d (.int .i64 n)] [] (.d (.str (Lib.itoa n))) []:=by
 by_cases hn:n < 0
 ·refine eN hP c63 ⟨?_⟩;refine gX ⟨gY ⟨?_⟩ (by simpa using hn)⟩ (by simp;omega);have hw:IntKind.wrap .i64 (0 - n)=((n.natAbs:Nat):Int):=by rw [wrap_small (by omega)];omega
  refine gC [] (FI hP (n.natAbs+1) n.natAbs (by omega) (by omega)) ⟨?_⟩ rfl (by rw [hw];rfl);refine ah.dR ?_ ?_
  ·have:=ve n.natAbs (by omega);simp;omega
  refine gG ⟨?_⟩;(repeat' (first | refine gP (fun _=>⟨?_⟩) fun _=>⟨?_⟩ | (refine gN ?_ ⟨?_⟩;rotate_left) | exact lW ⟨trivial,rfl⟩ | refine lW ⟨trivial,?_⟩));rw [Lib.itoa,aj hn];rfl
 ·have:=FI hP (n.toNat+1) n.toNat (by omega) (by omega);rw [show ((n.toNat:Nat):Int)=n by omega] at this;rw [Lib.itoa,ab hn];exact this
def Val.text (x:Val):List UInt8:=if x.kind=1 then Lib.itoa x.n else if x.kind=2 then (if x.n=1 then [116,114,117,101] else [102,97,108,115,101]) else if x.kind=3 then x.t else [110,117,108,108]
theorem k94 (x:Val) (hx:small x.n):Fn C 94 [x.v] [] (.d (.str x.text)) []:=by
 refine eH hP c94 ?_;unfold small at hx;refine gG ⟨?_⟩;(repeat' (first | refine gP (fun _=>⟨?_⟩) fun _=>⟨?_⟩ | (refine gN ?_ ⟨?_⟩;rotate_left) | (refine ah.call [] (k63 hP _ (by omega) (by omega)) rfl rfl rfl ?_;refine gG ⟨?_⟩) | exact lW ⟨trivial,rfl⟩ | refine lW ⟨trivial,?_⟩));all_goals (clear hx;simp_all [Val.text])
def Val.kindOk (x:Val):Prop:=0<=x.kind/\x.kind<=3
theorem k62 (S:lu C) (x:Val) (hx:small x.n) (hk:x.kindOk):Fn C 62 [x.v] [] (.d (.str x.text)) []:=by
 refine eH hP c62 ?_;unfold small at hx;unfold Val.kindOk at hk;refine gG ⟨?_⟩;(repeat' (first | refine gP (fun _=>⟨?_⟩) fun _=>⟨?_⟩ | (refine gN ?_ ⟨?_⟩;rotate_left) | (refine ah.call [] (S.itoa _ (by omega) (by omega)) rfl rfl rfl ?_;refine gG ⟨?_⟩) | (refine ah.call [] (H5 hP _) rfl rfl rfl ?_;refine gG ⟨?_⟩) | exact lW ⟨trivial,rfl⟩ | refine lW ⟨trivial,?_⟩))
 ·simp_all [Val.text]
 ·simp_all [Val.text]
 ·simp_all [Val.text]
 ·rename_i h1 h2 h3;have:x.kind=3:=by simp at h1 h2 h3;omega
  simp_all [Val.text]
omit hP in
theorem pG {name:List UInt8} {ks:List Int} (h:db name=some ks):(name=[108,101,110]/\ks=[3])\/(name=[115,116,114]/\ks=[-1])\/(name=[97,98,115]/\ks=[1])\/(name=[97,116]/\ks=[3,1]) \/
  (name=[109,97,120]/\ks=[1,1])\/(name=[109,105,110]/\ks=[1,1])\/(name=[99,117,116]/\ks=[3,1,1]):=by
 unfold db at h;repeat' split at h
 all_goals first | (cases h;done) | skip
 all_goals (rename_i h1;cases h;simp_all)
def vBi (name:List UInt8) (args:List Val):Val×Int:=match args with
 | [a]=>if name=[108,101,110] then (if a.kind≠3 then (bO,8) else (iH a.t.length,0)) else if name=[115,116,114] then (dH a.text,0)
  else if a.kind≠1 then (bO,8) else mH (if -a.n > a.n then -a.n else a.n)
 | [a,b]=>if name=[97,116] then (if a.kind≠3\/b.kind≠1 then (bO,8) else if 0<=b.n/\b.n<=a.t.length - 1 then (iH ((a.t[b.n.toNat]?).getD 0).toNat,0) else (bO,4))
  else if a.kind≠1\/b.kind≠1 then (bO,8) else if name=[109,97,120] then (iH (if b.n > a.n then b.n else a.n),0) else (iH (if b.n < a.n then b.n else a.n),0)
 | [a,b,c]=>if a.kind≠3\/b.kind≠1\/c.kind≠1 then (bO,8) else if (0<=b.n/\b.n<=a.t.length)/\b.n<=c.n/\c.n<=a.t.length then (dH ((a.t.take c.n.toNat).drop b.n.toNat),0) else (bO,4)
 | _=>(bO,8)
def lx (l:List Val):D:= .imm 3 (l.map Val.enc)
theorem HN (S:lu C) (name:List UInt8) (ks:List Int) (args:List Val) (hk:db name=some ks) (hl:args.length=ks.length) (hs:∀ a∈args,small a.n/\a.kindOk/\a.t.length<=1073741824):Fn C 155 [.d (.str name),.d (lx args)] [] (vc (vBi name args)) []:=by
 rcases pG hk with ⟨rfl,rfl⟩ | ⟨rfl,rfl⟩ | ⟨rfl,rfl⟩ | ⟨rfl,rfl⟩ | ⟨rfl,rfl⟩ | ⟨rfl,rfl⟩ | ⟨rfl,rfl⟩
 ·obtain ⟨a,rfl⟩:∃ a,args=[a]:=by match args,hl with | [a],_=>exact ⟨a,rfl⟩
  have h206:Fn C 206 [.d (.str [108,101,110])] [] (.tup [.d (.imm 1 [[.int .i64 3]]),.d (.bool true)]) []:=uS hP _;have ha:=hs a (by simp);refine eN hP yh ⟨?_⟩
  (repeat' (first | refine gY ⟨?_⟩ | refine gX ⟨?_⟩ | refine gL ⟨?_⟩ | refine gD rfl ⟨?_⟩ | refine gP (fun _=>⟨?_⟩) fun _=>⟨?_⟩ | (refine gN ?_ ⟨?_⟩;assumption) | (refine gN ?_ ⟨?_⟩;rotate_left) | refine gO h206 ⟨?_⟩ | (refine ah.call [] (sB hP _) rfl rfl rfl ?_;refine gG ⟨?_⟩) | (refine ah.call [] (k99 hP _) rfl rfl rfl ?_;refine gG ⟨?_⟩) | (refine ah.call [] (uR hP _) rfl rfl rfl ?_;refine gG ⟨?_⟩) | (refine ah.call [] (k47 hP _ _ _) rfl rfl rfl ?_;refine gG ⟨?_⟩) | exact lW ⟨trivial,rfl⟩ | refine lW ⟨trivial,?_⟩))
  all_goals (clear ha;simp_all [vBi,vc,Val.v,bO,dH,iH])
 ·obtain ⟨a,rfl⟩:∃ a,args=[a]:=by match args,hl with | [a],_=>exact ⟨a,rfl⟩
  have h206:Fn C 206 [.d (.str [115,116,114])] [] (.tup [.d (.imm 1 [[.int .i64 (-1)]]),.d (.bool true)]) []:=uS hP _;have ha:=hs a (by simp);refine eN hP yh ⟨?_⟩
  (repeat' (first | refine gY ⟨?_⟩ | refine gX ⟨?_⟩ | refine gL ⟨?_⟩ | refine gD rfl ⟨?_⟩ | refine gP (fun _=>⟨?_⟩) fun _=>⟨?_⟩ | (refine gN ?_ ⟨?_⟩;assumption) | (refine gN ?_ ⟨?_⟩;rotate_left) | refine gO h206 ⟨?_⟩ | (refine ah.call [] (sB hP _) rfl rfl rfl ?_;refine gG ⟨?_⟩) | (refine ah.call [] (k99 hP _) rfl rfl rfl ?_;refine gG ⟨?_⟩) | (refine ah.call [] (uR hP _) rfl rfl rfl ?_;refine gG ⟨?_⟩) | (refine ah.call [] (k47 hP _ _ _) rfl rfl rfl ?_;refine gG ⟨?_⟩) | refine gO (k62 hP S a ha.1 ha.2.1) ⟨?_⟩ | exact lW ⟨trivial,rfl⟩ | refine lW ⟨trivial,?_⟩))
  all_goals (clear ha;simp_all [vBi,vc,Val.v,bO,dH,iH])
 ·obtain ⟨a,rfl⟩:∃ a,args=[a]:=by match args,hl with | [a],_=>exact ⟨a,rfl⟩
  have h206:Fn C 206 [.d (.str [97,98,115])] [] (.tup [.d (.imm 1 [[.int .i64 1]]),.d (.bool true)]) []:=uS hP _;have ha:=hs a (by simp);have hw:IntKind.wrap .i64 (0 - a.n)= -a.n:=by have:=ha.1;unfold small at this;rw [wrap_small (by omega)];omega
  refine eN hP yh ⟨?_⟩
  (repeat' (first | refine gY ⟨?_⟩ | refine gX ⟨?_⟩ | refine gL ⟨?_⟩ | refine gD rfl ⟨?_⟩ | refine gP (fun _=>⟨?_⟩) fun _=>⟨?_⟩ | (refine gN ?_ ⟨?_⟩;assumption) | (refine gN ?_ ⟨?_⟩;rotate_left) | refine gO h206 ⟨?_⟩ | (refine ah.call [] (sB hP _) rfl rfl rfl ?_;refine gG ⟨?_⟩) | (refine ah.call [] (k99 hP _) rfl rfl rfl ?_;refine gG ⟨?_⟩) | (refine ah.call [] (uR hP _) rfl rfl rfl ?_;refine gG ⟨?_⟩) | (refine ah.call [] (k47 hP _ _ _) rfl rfl rfl ?_;refine gG ⟨?_⟩) | exact lW ⟨trivial,rfl⟩ | refine lW ⟨trivial,?_⟩))
  all_goals (clear ha;simp_all [vBi,vc,Val.v,bO,dH,iH])
 ·obtain ⟨a,b,rfl⟩:∃ a b,args=[a,b]:=by match args,hl with | [a,b],_=>exact ⟨a,b,rfl⟩
  have h206:Fn C 206 [.d (.str [97,116])] [] (.tup [.d (.imm 1 [[.int .i64 3],[.int .i64 1]]),.d (.bool true)]) []:=uS hP _;have ha:=hs a (by simp);have hb:=hs b (by simp);have hw:IntKind.wrap .i64 ((a.t.length:Int) - 1)=(a.t.length:Int) - 1:=by have:=ha.2.2;rw [wrap_small (by omega)]
  refine eN hP yh ⟨?_⟩
  (repeat' (first | refine gY ⟨?_⟩ | refine gX ⟨?_⟩ | refine gL ⟨?_⟩ | refine gD rfl ⟨?_⟩ | refine gP (fun _=>⟨?_⟩) fun _=>⟨?_⟩ | (refine gN ?_ ⟨?_⟩;assumption) | (refine gN ?_ ⟨?_⟩;rotate_left) | refine gO h206 ⟨?_⟩ | (refine ah.call [] (sB hP _) rfl rfl rfl ?_;refine gG ⟨?_⟩) | (refine ah.call [] (k99 hP _) rfl rfl rfl ?_;refine gG ⟨?_⟩) | (refine ah.call [] (uR hP _) rfl rfl rfl ?_;refine gG ⟨?_⟩) | (refine ah.call [] (k47 hP _ _ _) rfl rfl rfl ?_;refine gG ⟨?_⟩) | exact lW ⟨trivial,rfl⟩ | refine lW ⟨trivial,?_⟩))
  ·simp_all [vBi,vc,Val.v,bO]
  ·simp_all [vBi,vc,Val.v,bO]
  ·rename_i h1 h2 h3;have h3:¬ (0<=b.n/\b.n<=(a.t.length:Int) - 1):=by rw [hw] at h3;simp at h3;omega
   have h1:a.kind=3:=by simpa using h1
   have h2:b.kind=1:=by simpa using h2
   show _=vc (if _ then _ else _);rw [ab (by simp [h1,h2]),ab h3];rfl
  ·rename_i h1 h2 h3;have h3:(0<=b.n/\b.n<=(a.t.length:Int) - 1):=by rw [hw] at h3;simpa using h3
   have h1:a.kind=3:=by simpa using h1
   have h2:b.kind=1:=by simpa using h2
   have hlt:b.n.toNat < a.t.length:=by omega
   refine ah.exB (b:=a.t[b.n.toNat]) (aa hlt) h3.1 ?_;refine gG ⟨?_⟩;have hb8:=(a.t[b.n.toNat]).toNat_lt;have hwb:IntKind.wrap .i64 ((a.t[b.n.toNat]).toNat:Int)=((a.t[b.n.toNat]).toNat:Int):=wrap_small (by omega);refine gC [] (sB hP ((a.t[b.n.toNat]).toNat:Int)) ⟨?_⟩ rfl (by rw [hwb];rfl)
   (repeat' (first | refine gY ⟨?_⟩ | refine gX ⟨?_⟩ | refine gL ⟨?_⟩ | refine gD rfl ⟨?_⟩ | refine gP (fun _=>⟨?_⟩) fun _=>⟨?_⟩ | (refine gN ?_ ⟨?_⟩;assumption) | (refine gN ?_ ⟨?_⟩;rotate_left) | exact lW ⟨trivial,rfl⟩ | refine lW ⟨trivial,?_⟩))
   show _=vc (if _ then _ else _);rw [ab (by simp [h1,h2]),aj h3,aa hlt];rfl
 ·obtain ⟨a,b,rfl⟩:∃ a b,args=[a,b]:=by match args,hl with | [a,b],_=>exact ⟨a,b,rfl⟩
  have h206:Fn C 206 [.d (.str [109,97,120])] [] (.tup [.d (.imm 1 [[.int .i64 1],[.int .i64 1]]),.d (.bool true)]) []:=uS hP _;have ha:=hs a (by simp);have hb:=hs b (by simp);refine eN hP yh ⟨?_⟩
  (repeat' (first | refine gY ⟨?_⟩ | refine gX ⟨?_⟩ | refine gL ⟨?_⟩ | refine gD rfl ⟨?_⟩ | refine gP (fun _=>⟨?_⟩) fun _=>⟨?_⟩ | (refine gN ?_ ⟨?_⟩;assumption) | (refine gN ?_ ⟨?_⟩;rotate_left) | refine gO h206 ⟨?_⟩ | (refine ah.call [] (sB hP _) rfl rfl rfl ?_;refine gG ⟨?_⟩) | (refine ah.call [] (k99 hP _) rfl rfl rfl ?_;refine gG ⟨?_⟩) | (refine ah.call [] (uR hP _) rfl rfl rfl ?_;refine gG ⟨?_⟩) | (refine ah.call [] (k47 hP _ _ _) rfl rfl rfl ?_;refine gG ⟨?_⟩) | exact lW ⟨trivial,rfl⟩ | refine lW ⟨trivial,?_⟩))
  all_goals (clear ha hb;simp_all [vBi,vc,Val.v,bO,dH,iH])
 ·obtain ⟨a,b,rfl⟩:∃ a b,args=[a,b]:=by match args,hl with | [a,b],_=>exact ⟨a,b,rfl⟩
  have h206:Fn C 206 [.d (.str [109,105,110])] [] (.tup [.d (.imm 1 [[.int .i64 1],[.int .i64 1]]),.d (.bool true)]) []:=uS hP _;have ha:=hs a (by simp);have hb:=hs b (by simp);refine eN hP yh ⟨?_⟩
  (repeat' (first | refine gY ⟨?_⟩ | refine gX ⟨?_⟩ | refine gL ⟨?_⟩ | refine gD rfl ⟨?_⟩ | refine gP (fun _=>⟨?_⟩) fun _=>⟨?_⟩ | (refine gN ?_ ⟨?_⟩;assumption) | (refine gN ?_ ⟨?_⟩;rotate_left) | refine gO h206 ⟨?_⟩ | (refine ah.call [] (sB hP _) rfl rfl rfl ?_;refine gG ⟨?_⟩) | (refine ah.call [] (k99 hP _) rfl rfl rfl ?_;refine gG ⟨?_⟩) | (refine ah.call [] (uR hP _) rfl rfl rfl ?_;refine gG ⟨?_⟩) | (refine ah.call [] (k47 hP _ _ _) rfl rfl rfl ?_;refine gG ⟨?_⟩) | exact lW ⟨trivial,rfl⟩ | refine lW ⟨trivial,?_⟩))
  all_goals (clear ha hb;simp_all [vBi,vc,Val.v,bO,dH,iH])
 ·obtain ⟨a,b,c,rfl⟩:∃ a b c,args=[a,b,c]:=by match args,hl with | [a,b,c],_=>exact ⟨a,b,c,rfl⟩
  have h206:Fn C 206 [.d (.str [99,117,116])] [] (.tup [.d (.imm 1 [[.int .i64 3],[.int .i64 1],[.int .i64 1]]),.d (.bool true)]) []:=uS hP _;have ha:=hs a (by simp);have hb:=hs b (by simp);have hc:=hs c (by simp);refine eN hP yh ⟨?_⟩
  (repeat' (first | refine gY ⟨?_⟩ | refine gX ⟨?_⟩ | refine gL ⟨?_⟩ | refine gD rfl ⟨?_⟩ | refine gP (fun _=>⟨?_⟩) fun _=>⟨?_⟩ | (refine gN ?_ ⟨?_⟩;assumption) | (refine gN ?_ ⟨?_⟩;rotate_left) | refine gO h206 ⟨?_⟩ | (refine ah.call [] (sB hP _) rfl rfl rfl ?_;refine gG ⟨?_⟩) | (refine ah.call [] (k99 hP _) rfl rfl rfl ?_;refine gG ⟨?_⟩) | (refine ah.call [] (uR hP _) rfl rfl rfl ?_;refine gG ⟨?_⟩) | (refine ah.call [] (k47 hP _ _ _) rfl rfl rfl ?_;refine gG ⟨?_⟩) | exact lW ⟨trivial,rfl⟩ | refine lW ⟨trivial,?_⟩))
  ·simp_all [vBi,vc,Val.v,bO]
  ·simp_all [vBi,vc,Val.v,bO]
  ·simp_all [vBi,vc,Val.v,bO]
  all_goals (rename_i h1 h2 h3 h4<;>skip)
  ·have h4:¬ (0<=b.n/\b.n<=(a.t.length:Int)):=by simp at h4;omega
   simp only [Bool.not_eq_false',ak] at h1 h2 h3;show _=vc (if _ then _ else _);rw [ab (by simp [h1,h2,h3]),ab (fun h=>h4 h.1)];rfl
  all_goals (rename_i h0)
  ·have h4:¬ (b.n<=c.n/\c.n<=(a.t.length:Int)):=by simp at h4;omega
   simp only [Bool.not_eq_false',ak] at h1 h2 h0;show _=vc (if _ then _ else _);rw [ab (by simp [h1,h2,h0]),ab (fun h=>h4 h.2)];rfl
  ·simp only [Bool.not_eq_false',ak] at h1 h2 h0 h3 h4;show _=vc (if _ then _ else _);rw [ab (by simp [h1,h2,h0]),aj ⟨h3,h4⟩];rfl
  ·simp only [Bool.not_eq_false',ak] at h3 h4;exact ⟨h3.1,h4.1,h4.2⟩
theorem HV (name:List UInt8) (ks:List Int) (args:List Val) (hk:db name=some ks) (hl:args.length=ks.length) (hs:∀ a∈args,small a.n/\a.kindOk/\a.t.length<=1073741824):Fn C 135 [.d (.str name),.d (lx args)] [] (vc (vBi name args)) []:=by
 rcases pG hk with ⟨rfl,rfl⟩ | ⟨rfl,rfl⟩ | ⟨rfl,rfl⟩ | ⟨rfl,rfl⟩ | ⟨rfl,rfl⟩ | ⟨rfl,rfl⟩ | ⟨rfl,rfl⟩
 ·obtain ⟨a,rfl⟩:∃ a,args=[a]:=by match args,hl with | [a],_=>exact ⟨a,rfl⟩
  have ha:=hs a (by simp);refine eN hP yi ⟨?_⟩
  (repeat' (first | refine gY ⟨?_⟩ | refine gX ⟨?_⟩ | refine gL ⟨?_⟩ | refine gD rfl ⟨?_⟩ | refine gP (fun _=>⟨?_⟩) fun _=>⟨?_⟩ | (refine gN ?_ ⟨?_⟩;assumption) | (refine gN ?_ ⟨?_⟩;rotate_left) | (refine ah.call [] (rr hP _) rfl rfl rfl ?_;refine gG ⟨?_⟩) | (refine ah.call [] (k93 hP _) rfl rfl rfl ?_;refine gG ⟨?_⟩) | (refine ah.call [] (uT hP _) rfl rfl rfl ?_;refine gG ⟨?_⟩) | (refine ah.call [] (k44 hP _ _ _) rfl rfl rfl ?_;refine gG ⟨?_⟩) | exact lW ⟨trivial,rfl⟩ | refine lW ⟨trivial,?_⟩))
  all_goals (clear ha;simp_all [vBi,vc,Val.v,bO,dH,iH])
 ·obtain ⟨a,rfl⟩:∃ a,args=[a]:=by match args,hl with | [a],_=>exact ⟨a,rfl⟩
  have ha:=hs a (by simp);refine eN hP yi ⟨?_⟩
  (repeat' (first | refine gY ⟨?_⟩ | refine gX ⟨?_⟩ | refine gL ⟨?_⟩ | refine gD rfl ⟨?_⟩ | refine gP (fun _=>⟨?_⟩) fun _=>⟨?_⟩ | (refine gN ?_ ⟨?_⟩;assumption) | (refine gN ?_ ⟨?_⟩;rotate_left) | (refine ah.call [] (rr hP _) rfl rfl rfl ?_;refine gG ⟨?_⟩) | (refine ah.call [] (k93 hP _) rfl rfl rfl ?_;refine gG ⟨?_⟩) | (refine ah.call [] (uT hP _) rfl rfl rfl ?_;refine gG ⟨?_⟩) | (refine ah.call [] (k44 hP _ _ _) rfl rfl rfl ?_;refine gG ⟨?_⟩) | refine gO (k94 hP a ha.1) ⟨?_⟩ | exact lW ⟨trivial,rfl⟩ | refine lW ⟨trivial,?_⟩))
  all_goals (clear ha;simp_all [vBi,vc,Val.v,bO,dH,iH])
 ·obtain ⟨a,rfl⟩:∃ a,args=[a]:=by match args,hl with | [a],_=>exact ⟨a,rfl⟩
  have ha:=hs a (by simp);have hw:IntKind.wrap .i64 (0 - a.n)= -a.n:=by have:=ha.1;unfold small at this;rw [wrap_small (by omega)];omega
  refine eN hP yi ⟨?_⟩
  (repeat' (first | refine gY ⟨?_⟩ | refine gX ⟨?_⟩ | refine gL ⟨?_⟩ | refine gD rfl ⟨?_⟩ | refine gP (fun _=>⟨?_⟩) fun _=>⟨?_⟩ | (refine gN ?_ ⟨?_⟩;assumption) | (refine gN ?_ ⟨?_⟩;rotate_left) | (refine ah.call [] (rr hP _) rfl rfl rfl ?_;refine gG ⟨?_⟩) | (refine ah.call [] (k93 hP _) rfl rfl rfl ?_;refine gG ⟨?_⟩) | (refine ah.call [] (uT hP _) rfl rfl rfl ?_;refine gG ⟨?_⟩) | (refine ah.call [] (k44 hP _ _ _) rfl rfl rfl ?_;refine gG ⟨?_⟩) | exact lW ⟨trivial,rfl⟩ | refine lW ⟨trivial,?_⟩))
  all_goals (clear ha;simp_all [vBi,vc,Val.v,bO,dH,iH])
 ·obtain ⟨a,b,rfl⟩:∃ a b,args=[a,b]:=by match args,hl with | [a,b],_=>exact ⟨a,b,rfl⟩
  have ha:=hs a (by simp);have hb:=hs b (by simp);have hw:IntKind.wrap .i64 ((a.t.length:Int) - 1)=(a.t.length:Int) - 1:=by have:=ha.2.2;rw [wrap_small (by omega)]
  refine eN hP yi ⟨?_⟩
  (repeat' (first | refine gY ⟨?_⟩ | refine gX ⟨?_⟩ | refine gL ⟨?_⟩ | refine gD rfl ⟨?_⟩ | refine gP (fun _=>⟨?_⟩) fun _=>⟨?_⟩ | (refine gN ?_ ⟨?_⟩;assumption) | (refine gN ?_ ⟨?_⟩;rotate_left) | (refine ah.call [] (rr hP _) rfl rfl rfl ?_;refine gG ⟨?_⟩) | (refine ah.call [] (k93 hP _) rfl rfl rfl ?_;refine gG ⟨?_⟩) | (refine ah.call [] (uT hP _) rfl rfl rfl ?_;refine gG ⟨?_⟩) | (refine ah.call [] (k44 hP _ _ _) rfl rfl rfl ?_;refine gG ⟨?_⟩) | exact lW ⟨trivial,rfl⟩ | refine lW ⟨trivial,?_⟩))
  ·simp_all [vBi,vc,Val.v,bO]
  ·simp_all [vBi,vc,Val.v,bO]
  ·rename_i h1 h2 h3;have h3:¬ (0<=b.n/\b.n<=(a.t.length:Int) - 1):=by rw [hw] at h3;simp at h3;omega
   have h1:a.kind=3:=by simpa using h1
   have h2:b.kind=1:=by simpa using h2
   show _=vc (if _ then _ else _);rw [ab (by simp [h1,h2]),ab h3];rfl
  ·rename_i h1 h2 h3;have h3:(0<=b.n/\b.n<=(a.t.length:Int) - 1):=by rw [hw] at h3;simpa using h3
   have h1:a.kind=3:=by simpa using h1
   have h2:b.kind=1:=by simpa using h2
   have hlt:b.n.toNat < a.t.length:=by omega
   refine ah.exB (b:=a.t[b.n.toNat]) (aa hlt) h3.1 ?_;refine gG ⟨?_⟩;have hb8:=(a.t[b.n.toNat]).toNat_lt;have hwb:IntKind.wrap .i64 ((a.t[b.n.toNat]).toNat:Int)=((a.t[b.n.toNat]).toNat:Int):=wrap_small (by omega);refine gC [] (rr hP ((a.t[b.n.toNat]).toNat:Int)) ⟨?_⟩ rfl (by rw [hwb];rfl)
   (repeat' (first | refine gY ⟨?_⟩ | refine gX ⟨?_⟩ | refine gL ⟨?_⟩ | refine gD rfl ⟨?_⟩ | refine gP (fun _=>⟨?_⟩) fun _=>⟨?_⟩ | (refine gN ?_ ⟨?_⟩;assumption) | (refine gN ?_ ⟨?_⟩;rotate_left) | exact lW ⟨trivial,rfl⟩ | refine lW ⟨trivial,?_⟩))
   show _=vc (if _ then _ else _);rw [ab (by simp [h1,h2]),aj h3,aa hlt];rfl
 ·obtain ⟨a,b,rfl⟩:∃ a b,args=[a,b]:=by match args,hl with | [a,b],_=>exact ⟨a,b,rfl⟩
  have ha:=hs a (by simp);have hb:=hs b (by simp);refine eN hP yi ⟨?_⟩
  (repeat' (first | refine gY ⟨?_⟩ | refine gX ⟨?_⟩ | refine gL ⟨?_⟩ | refine gD rfl ⟨?_⟩ | refine gP (fun _=>⟨?_⟩) fun _=>⟨?_⟩ | (refine gN ?_ ⟨?_⟩;assumption) | (refine gN ?_ ⟨?_⟩;rotate_left) | (refine ah.call [] (rr hP _) rfl rfl rfl ?_;refine gG ⟨?_⟩) | (refine ah.call [] (k93 hP _) rfl rfl rfl ?_;refine gG ⟨?_⟩) | (refine ah.call [] (uT hP _) rfl rfl rfl ?_;refine gG ⟨?_⟩) | (refine ah.call [] (k44 hP _ _ _) rfl rfl rfl ?_;refine gG ⟨?_⟩) | exact lW ⟨trivial,rfl⟩ | refine lW ⟨trivial,?_⟩))
  all_goals (clear ha hb;simp_all [vBi,vc,Val.v,bO,dH,iH])
 ·obtain ⟨a,b,rfl⟩:∃ a b,args=[a,b]:=by match args,hl with | [a,b],_=>exact ⟨a,b,rfl⟩
  have ha:=hs a (by simp);have hb:=hs b (by simp);refine eN hP yi ⟨?_⟩
  (repeat' (first | refine gY ⟨?_⟩ | refine gX ⟨?_⟩ | refine gL ⟨?_⟩ | refine gD rfl ⟨?_⟩ | refine gP (fun _=>⟨?_⟩) fun _=>⟨?_⟩ | (refine gN ?_ ⟨?_⟩;assumption) | (refine gN ?_ ⟨?_⟩;rotate_left) | (refine ah.call [] (rr hP _) rfl rfl rfl ?_;refine gG ⟨?_⟩) | (refine ah.call [] (k93 hP _) rfl rfl rfl ?_;refine gG ⟨?_⟩) | (refine ah.call [] (uT hP _) rfl rfl rfl ?_;refine gG ⟨?_⟩) | (refine ah.call [] (k44 hP _ _ _) rfl rfl rfl ?_;refine gG ⟨?_⟩) | exact lW ⟨trivial,rfl⟩ | refine lW ⟨trivial,?_⟩))
  all_goals (clear ha hb;simp_all [vBi,vc,Val.v,bO,dH,iH])
 ·obtain ⟨a,b,c,rfl⟩:∃ a b c,args=[a,b,c]:=by match args,hl with | [a,b,c],_=>exact ⟨a,b,c,rfl⟩
  have ha:=hs a (by simp);have hb:=hs b (by simp);have hc:=hs c (by simp);refine eN hP yi ⟨?_⟩
  (repeat' (first | refine gY ⟨?_⟩ | refine gX ⟨?_⟩ | refine gL ⟨?_⟩ | refine gD rfl ⟨?_⟩ | refine gP (fun _=>⟨?_⟩) fun _=>⟨?_⟩ | (refine gN ?_ ⟨?_⟩;assumption) | (refine gN ?_ ⟨?_⟩;rotate_left) | (refine ah.call [] (rr hP _) rfl rfl rfl ?_;refine gG ⟨?_⟩) | (refine ah.call [] (k93 hP _) rfl rfl rfl ?_;refine gG ⟨?_⟩) | (refine ah.call [] (uT hP _) rfl rfl rfl ?_;refine gG ⟨?_⟩) | (refine ah.call [] (k44 hP _ _ _) rfl rfl rfl ?_;refine gG ⟨?_⟩) | exact lW ⟨trivial,rfl⟩ | refine lW ⟨trivial,?_⟩))
  ·simp_all [vBi,vc,Val.v,bO]
  ·simp_all [vBi,vc,Val.v,bO]
  ·simp_all [vBi,vc,Val.v,bO]
  all_goals (rename_i h1 h2 h3 h4<;>skip)
  ·have h4:¬ (0<=b.n/\b.n<=(a.t.length:Int)):=by simp at h4;omega
   simp only [Bool.not_eq_false',ak] at h1 h2 h3;show _=vc (if _ then _ else _);rw [ab (by simp [h1,h2,h3]),ab (fun h=>h4 h.1)];rfl
  all_goals (rename_i h0)
  ·have h4:¬ (b.n<=c.n/\c.n<=(a.t.length:Int)):=by simp at h4;omega
   simp only [Bool.not_eq_false',ak] at h1 h2 h0;show _=vc (if _ then _ else _);rw [ab (by simp [h1,h2,h0]),ab (fun h=>h4 h.2)];rfl
  ·simp only [Bool.not_eq_false',ak] at h1 h2 h0 h3 h4;show _=vc (if _ then _ else _);rw [ab (by simp [h1,h2,h0]),aj ⟨h3,h4⟩];rfl
  ·simp only [Bool.not_eq_false',ak] at h3 h4;exact ⟨h3.1,h4.1,h4.2⟩
end
inductive Tr where
 | mk (ix kind n:Int) (text:List UInt8) (names:List (List UInt8)) (kids:List Tr)
def Tr.kind:Tr->Int
 | .mk _ k _ _ _ _=>k
def Tr.ix:Tr->Int
 | .mk i _ _ _ _ _=>i
def Tr.kids:Tr->List Tr
 | .mk _ _ _ _ _ ks=>ks
def Tr.text:Tr->List UInt8
 | .mk _ _ _ t _ _=>t
def Tr.names:Tr->List (List UInt8)
 | .mk _ _ _ _ n _=>n
mutual
def Tr.sz:Tr->Nat
 | .mk _ _ _ _ _ ks=>szs ks+1
def szs:List Tr->Nat
 | []=>0
 | t::l=>t.sz+szs l
end
mutual
def Sub (ns:List Nd):Tr->Int->Prop
 | .mk i kind n text names ts,k=>k=i/\∃ kids,0<=k/\ns[k.toNat]?=some ⟨kind,n,text,names,kids⟩/\dx ns ts kids
def dx (ns:List Nd):List Tr->List Int->Prop
 | [],[]=>True
 | t::ts,k::ks=>Sub ns t k/\dx ns ts ks
 | _,_=>False
end
def exK (t:Tr):Prop:=1<=t.kind/\t.kind<=10
def stK (t:Tr):Prop:=11<=t.kind/\t.kind<=19
def blK (t:Tr):Prop:=t.kind=18
def shape (kind n:Int) (text:List UInt8) (names:List (List UInt8)) (ks:List Tr):Prop :=
 text.length<=1073741824/\(kind≠20->names=[]) /\
 ((kind=1/\ks=[]/\small n)\/((kind=2\/kind=3\/kind=4\/kind=5)/\ks=[])\/(kind=6/\∃ a,ks=[a]/\exK a)\/((kind=7\/kind=8\/kind=9)/\∃ a b,ks=[a,b]/\exK a/\exK b)\/(kind=10/\∀ t∈ks,exK t) \/
  ((kind=11\/kind=12\/kind=15\/kind=16\/kind=19)/\∃ a,ks=[a]/\exK a)\/(kind=14/\∃ a b,ks=[a,b]/\exK a/\blK b)\/(kind=13/\∃ a b,exK a/\blK b/\(ks=[a,b]\/∃ c,ks=[a,b,c]/\blK c)) \/
  (kind=17/\text≠[]/\∃ a b,ks=[a,b]/\blK a/\blK b)\/(kind=18/\∀ t∈ks,stK t)\/(kind=20/\names.length<=300/\∃ b,ks=[b]/\blK b))
mutual
def Tr.wf:Tr->Prop
 | .mk _ kind n text names ks=>shape kind n text names ks/\wfs ks
def wfs:List Tr->Prop
 | []=>True
 | t::l=>t.wf/\wfs l
end
theorem ep:∀ {l:List Tr},wfs l->∀ t∈l,t.wf
 | [],_,t,h=>by cases h
 | a::l,h,t,ht=>by
  rcases aQ.1 ht with rfl | ht
  ·exact h.1
  ·exact ep h.2 t ht
theorem oz:∀ {l:List Tr},(∀ t∈l,t.wf)->wfs l
 | [],_=>trivial
 | a::l,h=>⟨h a (by simp),oz fun t ht=>h t (by simp [ht])⟩
theorem gB:∀ (l m:List Tr),szs (l++m)=szs l+szs m
 | [],m=>by simp [szs]
 | a::l,m=>by simp only [cN,szs,gB l m];omega
theorem nI {ns:List Nd}:∀ {ts us:List Tr} {ks js:List Int},dx ns ts ks->dx ns us js->dx ns (ts++us) (ks++js)
 | [],us,[],js,_,h=>h
 | t::ts,us,k::ks,js,h,h'=>⟨h.1,nI h.2 h'⟩
 | [],us,k::ks,js,h,_=>h.elim
 | t::ts,us,[],js,h,_=>h.elim
theorem eP {ns:List Nd}:∀ {ts:List Tr} {ks:List Int},dx ns ts ks->ts.length=ks.length
 | [],[],_=>rfl
 | t::ts,k::ks,h=>by simp [eP h.2]
 | [],k::ks,h=>h.elim
 | t::ts,[],h=>h.elim
mutual
theorem Sub.more {ns ns':List Nd} (h:ns <+: ns'):∀ {t:Tr} {k:Int},Sub ns t k->Sub ns' t k
 | .mk i kind n text names ts,k,hk=>by
  obtain ⟨hi,kids,h0,h1,h2⟩:=hk;refine ⟨hi,kids,h0,?_,dx.more h h2⟩;obtain ⟨ex,rfl⟩:=h;rw [bU (af.1 h1).1];exact h1
theorem dx.more {ns ns':List Nd} (h:ns <+: ns'):∀ {ts:List Tr} {ks:List Int},dx ns ts ks->dx ns' ts ks
 | [],[],_=>trivial
 | t::ts,k::ks,hk=>⟨Sub.more h hk.1,dx.more h hk.2⟩
 | [],k::ks,hk=>hk.elim
 | t::ts,[],hk=>hk.elim
end
structure TW (l:List Tok):Prop where
 num:∀ x∈l,x.kind=3->small (jt x.text)
 name:∀ x∈l,x.kind=1->x.text≠[]
 len:∀ x∈l,x.text.length<=1073741824
 cnt:l.length<=300
theorem cy {α β:Type} {x:Option (Except (Int×Int) α)} {f:α->Option (Except (Int×Int) β)} {r:β} (h:Loc.bnd x f=some (.ok r)):∃ a,x=some (.ok a)/\f a=some (.ok r):=by
 match x,h with
 | some (.ok a),h=>exact ⟨a,rfl,h⟩
theorem qk {x:Nd} {p':Nat} {ns':List Nd} (h:cv l p ns x=some (.ok (k,p',ns'))):k=ns.length/\ns'=ns++[x]:=by
 unfold cv at h;split at h
 ·cases h
 ·cases h;exact ⟨rfl,rfl⟩
theorem yB {kind n:Int} {text:List UInt8} {names:List (List UInt8)} {kids:List Int} {ts:List Tr} (h:dx ns ts kids):Sub (ns++[⟨kind,n,text,names,kids⟩]) (.mk ns.length kind n text names ts) ns.length:=by
 refine ⟨rfl,kids,by omega,by simp,dx.more (List.prefix_append _ _) h⟩
def FD:jg->List Nd
 | .expr _ _ ns=>ns
 | .op _ _ _ ns=>ns
 | .opL _ _ _ _ ns=>ns
 | .un _ _ ns=>ns
 | .jJ _ _ ns=>ns
 | .args _ _ _ _ _ ns=>ns
 | .block _ _ ns=>ns
 | .stmts _ _ _ ns=>ns
 | .stmt _ _ ns=>ns
 | .cd _ _ _ ns=>ns
 | .top _ _ ns=>ns
def pre (b:Nat):jg->Prop
 | .opL _ k a _ ns=>k < 5/\∃ t,Sub ns t a/\t.wf/\exK t/\t.sz+b<=ns.length
 | .op _ k _ ns=>k<=5/\b<=ns.length
 | .args _ name _ kids _ ns=>name.length<=1073741824/\∃ ts,dx ns ts kids/\wfs ts/\(∀ t∈ts,exK t)/\szs ts+b<=ns.length
 | .stmts _ kids _ ns=>∃ ts,dx ns ts kids/\wfs ts/\(∀ t∈ts,stK t)/\szs ts+b<=ns.length
 | .top kids _ ns=>∃ ts,dx ns ts kids/\wfs ts/\(∀ t∈ts,stK t\/t.kind=20)/\szs ts+b<=ns.length
 | .cd name names p ns=>name.length<=1073741824/\names.length<=p/\b<=ns.length
 | c=>b<=(FD c).length
def post (c:jg) (t:Tr):Prop:=match c with
 | .block _ _ _=>t.wf/\blK t
 | .stmts _ _ _ _=>t.wf/\blK t
 | .stmt _ _ _=>t.wf/\stK t
 | .cd _ _ _ _=>t.wf/\t.kind=20
 | .top _ _ _=>t.kind=18/\t.text=[]/\t.names=[]/\wfs t.kids/\∀ u∈t.kids,stK u\/u.kind=20
 | _=>t.wf/\exK t
theorem fJ (hl:TW l) (p:Nat):(cF l p).length<=1073741824:=by
 unfold cF;cases h:l[p]? with
 | none=>simp
 | some x=>exact hl.len x (aP h)
theorem yM:∀ k,k < 5->(ju k=7\/ju k=8\/ju k=9):=by decide
theorem qj {l:List Tok} (hl:TW l):∀ (n:Nat) (c:jg) (k:Int) (p':Nat) (ns':List Nd) (b:Nat),mm l n c=some (.ok (k,p',ns'))->pre b c->FD c <+: ns'/\∃ t,Sub ns' t k/\post c t/\t.sz+b<=ns'.length
 | 0,c,k,p',ns',b,h,_=>by cases h
 | n+1,c,k,p',ns',b,h,hb=>by
  have ih:=qj hl n;have put:∀ {p:Nat} {ns0 ns:List Nd} {kind m:Int} {text:List UInt8} {names:List (List UInt8)} {kids:List Int} {ts:List Tr},cv l p ns ⟨kind,m,text,names,kids⟩=some (.ok (k,p',ns'))->ns0 <+: ns->dx ns ts kids->szs ts+b<=ns.length ->
    ns0 <+: ns'/\Sub ns' (.mk k kind m text names ts) k/\(Tr.mk k kind m text names ts).sz+b<=ns'.length:=by
   intro p ns0 ns kind m text names kids ts hp h0 h1 h2;obtain ⟨rfl,rfl⟩:=qk hp;exact ⟨h0.trans (List.prefix_append _ _),yB h1,by simp only [Tr.sz,aH,aU];omega⟩
  have hend:∀ {d:Nat} {kind:Int} {name:List UInt8} {p:Nat} {ns:List Nd},(bnd (mm l n (.expr d p ns)) fun (a,p,ns)=>bnd (a8 l p [59]) fun p=>cv l p ns ⟨kind,0,name,[],[a]⟩)=some (.ok (k,p',ns'))->b<=ns.length ->
    (kind=11\/kind=12\/kind=15\/kind=16\/kind=19)->name.length<=1073741824->ns <+: ns'/\∃ t,Sub ns' t k/\(t.wf/\stK t)/\t.sz+b<=ns'.length:=by
   intro d kind name p ns hh hbl hk hn;obtain ⟨⟨a,pa,na⟩,e1,hh⟩:=cy hh;obtain ⟨h1,ta,h2,⟨h3,h4⟩,h5⟩:=ih (.expr d p ns) a pa na b e1 hbl;obtain ⟨q,_,hh⟩:=cy hh;obtain ⟨g1,g2,g3⟩:=put (ts:=[ta]) hh h1 ⟨h2,trivial⟩ (by simpa [szs] using h5);refine ⟨g1,_,g2,⟨⟨⟨hn,fun _=>rfl,?_⟩,h3,trivial⟩,?_⟩,g3⟩
   ·exact .inr (.inr (.inr (.inr (.inr (.inl ⟨hk,ta,rfl,h4⟩)))))
   ·simp only [stK,Tr.kind];omega
  have hbr:∀ {d p:Nat} {ns:List Nd} {a:Int} {pa:Nat} {na:List Nd},(bnd (a8 l p [40]) fun p=>bnd (mm l n (.expr d p ns)) fun (a,p,ns)=>bnd (a8 l p [41]) fun p=>some (.ok (a,p,ns)))=some (.ok (a,pa,na))->b<=ns.length ->
    ns <+: na/\∃ t,Sub na t a/\(t.wf/\exK t)/\t.sz+b<=na.length:=by
   intro d p ns a pa na hh hbl;obtain ⟨q,_,hh⟩:=cy hh;obtain ⟨⟨a1,p1,n1⟩,e1,hh⟩:=cy hh;obtain ⟨q2,_,hh⟩:=cy hh;cases hh;exact ih (.expr d q ns) _ _ _ b e1 hbl
  cases c with
  | expr d p ns =>
   simp only [mm] at h;split at h
   ·cases h
   ·exact ih (.op (d+1) 0 p ns) k p' ns' b h ⟨by omega,hb⟩
  | op d k0 p ns =>
   simp only [mm] at h;split at h
   ·exact ih (.un d p ns) k p' ns' b h hb.2
   ·rename_i hk;obtain ⟨⟨a,pa,na⟩,e1,h⟩:=cy h;obtain ⟨h1,ta,h2,⟨h3,h4⟩,h5⟩:=ih (.op d (k0+1) p ns) a pa na b e1 ⟨by have:=hb.1;omega,hb.2⟩;obtain ⟨g1,t,g2,g3,g4⟩:=ih (.opL d k0 a pa na) k p' ns' b h ⟨by have:=hb.1;omega,ta,h2,h3,h4,h5⟩;exact ⟨h1.trans g1,t,g2,g3,g4⟩
  | opL d k0 a p ns =>
   obtain ⟨hk0,ta,h2,h3,h4,h5⟩:=hb;simp only [mm] at h;split at h
   ·obtain ⟨⟨a2,p2,n2⟩,e1,h⟩:=cy h;obtain ⟨m1,t2,m2,⟨m3,m4⟩,m5⟩:=ih (.op d (k0+1) (p+1) ns) a2 p2 n2 (ta.sz+b) e1 ⟨by omega,h5⟩;obtain ⟨⟨c,p3,n3⟩,e2,h⟩:=cy h;obtain ⟨rfl,rfl⟩:=qk e2;have hsub:dx n2 [ta,t2] [a,a2]:=⟨Sub.more m1 h2,m2,trivial⟩
    have hq:pre b (.opL d k0 n2.length p3 (n2++[⟨ju k0,0,if ju k0=7 then cF l p else [],[],[a,a2]⟩])):=by
     refine ⟨hk0,_,yB hsub,⟨⟨?_,fun _=>rfl,?_⟩,h3,m3,trivial⟩,?_,?_⟩
     ·by_cases hh:ju k0=7
      ·rw [aj hh];exact fJ hl p
      ·rw [ab hh];simp
     ·exact .inr (.inr (.inr (.inl ⟨yM k0 hk0,ta,t2,rfl,h4,m4⟩)))
     ·have:=yM k0 hk0;simp only [exK,Tr.kind];omega
     ·simp only [Tr.sz,szs,aH,aU];omega
    obtain ⟨g1,t,g2,g3,g4⟩:=ih (.opL d k0 n2.length p3 (n2++[⟨ju k0,0,if ju k0=7 then cF l p else [],[],[a,a2]⟩])) k p' ns' b h hq;exact ⟨m1.trans ((List.prefix_append _ _).trans g1),t,g2,g3,g4⟩
   ·cases h;exact ⟨List.prefix_refl _,ta,h2,⟨h3,h4⟩,h5⟩
  | un d p ns =>
   simp only [mm] at h;split at h
   ·split at h
    ·cases h
    ·obtain ⟨⟨a,pa,na⟩,e1,h⟩:=cy h;obtain ⟨h1,ta,h2,⟨h3,h4⟩,h5⟩:=ih (.un (d+1) (p+1) ns) a pa na b e1 hb;obtain ⟨g1,g2,g3⟩:=put (ts:=[ta]) h h1 ⟨h2,trivial⟩ (by simpa [szs] using h5);refine ⟨g1,_,g2,⟨⟨⟨fJ hl p,fun _=>rfl,.inr (.inr (.inl ⟨rfl,ta,rfl,h4⟩))⟩,h3,trivial⟩,?_⟩,g3⟩;simp only [exK,Tr.kind];omega
   ·exact ih (.jJ d p ns) k p' ns' b h hb
  | jJ d p ns =>
   have hb:b<=ns.length:=hb;have leaf:∀ {q:Nat} {kind m:Int} {text:List UInt8},cv l q ns ⟨kind,m,text,[],[]⟩=some (.ok (k,p',ns'))->text.length<=1073741824->((kind=1/\small m)\/(kind=2\/kind=3\/kind=4\/kind=5))->ns <+: ns'/\∃ t,Sub ns' t k/\(t.wf/\exK t)/\t.sz+b<=ns'.length:=by
    intro q kind m text hh h1 h2;obtain ⟨g1,g2,g3⟩:=put (ts:=[]) hh (List.prefix_refl _) trivial (by simpa [szs] using hb);refine ⟨g1,_,g2,⟨⟨⟨h1,fun _=>rfl,?_⟩,trivial⟩,?_⟩,g3⟩
    ·rcases h2 with h2 | h2
     ·exact .inl ⟨h2.1,rfl,h2.2⟩
     ·exact .inr (.inl ⟨h2,rfl⟩)
    ·simp only [exK,Tr.kind];omega
   simp only [mm] at h;split at h
   ·rename_i hk;refine leaf h (by simp) (.inl ⟨rfl,?_⟩);unfold dc at hk;unfold cF;cases hx:l[p]? with
    | none=>rw [hx] at hk;cases hk
    | some x=>rw [hx] at hk;exact hl.num x (aP hx) hk
   split at h
   ·exact leaf h (fJ hl p) (.inr (by simp))
   split at h
   ·split at h
    ·exact ih (.args d (cF l p) true [] (p+2) ns) k p' ns' b h ⟨fJ hl p,[],trivial,trivial,by simp,by simpa [szs] using hb⟩
    ·exact leaf h (fJ hl p) (.inr (by simp))
   split at h
   ·exact leaf h (by simp) (.inr (by simp))
   split at h
   ·exact leaf h (by simp) (.inr (by simp))
   split at h
   ·exact leaf h (by simp) (.inr (by simp))
   split at h
   ·obtain ⟨⟨a,pa,na⟩,e1,h⟩:=cy h;obtain ⟨q,_,h⟩:=cy h;cases h;exact ih (.expr d (p+1) ns) _ _ _ b e1 hb
   ·cases h
  | args d name first kids p ns =>
   obtain ⟨hn,ts,t1,t2,t3,t4⟩:=hb;simp only [mm] at h;split at h
   ·obtain ⟨g1,g2,g3⟩:=put h (List.prefix_refl _) t1 t4;refine ⟨g1,_,g2,⟨⟨⟨hn,fun _=>rfl,.inr (.inr (.inr (.inr (.inl ⟨rfl,t3⟩))))⟩,t2⟩,?_⟩,g3⟩;simp only [exK,Tr.kind];omega
   ·obtain ⟨q,_,h⟩:=cy h;obtain ⟨⟨a,pa,na⟩,e1,h⟩:=cy h;obtain ⟨h1,ta,h2,⟨h3,h4⟩,h5⟩:=ih (.expr d q ns) a pa na (szs ts+b) e1 t4;have hq:pre b (.args d name false (kids++[a]) pa na):=by
     refine ⟨hn,ts++[ta],nI (dx.more h1 t1) ⟨h2,trivial⟩,oz fun u hu=>?_,fun u hu=>?_,?_⟩
     ·rcases bL.1 hu with hu | hu
      ·exact ep t2 u hu
      ·rw [bA.1 hu];exact h3
     ·rcases bL.1 hu with hu | hu
      ·exact t3 u hu
      ·rw [bA.1 hu];exact h4
     ·rw [gB];simp only [szs];omega
    obtain ⟨g1,t,g2,g3,g4⟩:=ih (.args d name false (kids++[a]) pa na) k p' ns' b h hq;exact ⟨h1.trans g1,t,g2,g3,g4⟩
  | block d p ns =>
   have hb:b<=ns.length:=hb;simp only [mm] at h;obtain ⟨q,_,h⟩:=cy h;exact ih (.stmts d [] q ns) k p' ns' b h ⟨[],trivial,trivial,by simp,by simpa [szs] using hb⟩
  | stmts d kids p ns =>
   obtain ⟨ts,t1,t2,t3,t4⟩:=hb;simp only [mm] at h;split at h
   ·obtain ⟨g1,g2,g3⟩:=put h (List.prefix_refl _) t1 t4;exact ⟨g1,_,g2,⟨⟨⟨by simp,fun _=>rfl,.inr (.inr (.inr (.inr (.inr (.inr (.inr (.inr (.inr (.inl ⟨rfl,t3⟩)))))))))⟩,t2⟩,rfl⟩,g3⟩
   ·obtain ⟨⟨a,pa,na⟩,e1,h⟩:=cy h;obtain ⟨h1,ta,h2,⟨h3,h4⟩,h5⟩:=ih (.stmt d p ns) a pa na (szs ts+b) e1 t4;have hq:pre b (.stmts d (kids++[a]) pa na):=by
     refine ⟨ts++[ta],nI (dx.more h1 t1) ⟨h2,trivial⟩,oz fun u hu=>?_,fun u hu=>?_,?_⟩
     ·rcases bL.1 hu with hu | hu
      ·exact ep t2 u hu
      ·rw [bA.1 hu];exact h3
     ·rcases bL.1 hu with hu | hu
      ·exact t3 u hu
      ·rw [bA.1 hu];exact h4
     ·rw [gB];simp only [szs];omega
    obtain ⟨g1,t,g2,g3,g4⟩:=ih (.stmts d (kids++[a]) pa na) k p' ns' b h hq;exact ⟨h1.trans g1,t,g2,g3,g4⟩
  | stmt d p ns =>
   have hb:b<=ns.length:=hb
   change (if d=20 then _ else _)=_ at h
   split at h
   ·cases h
   split at h
   ·obtain ⟨⟨t,p1⟩,e0,h⟩:=cy h;obtain ⟨q,_,h⟩:=cy h;refine hend h hb (by simp) ?_;unfold cU at e0;split at e0<;>cases e0
    exact fJ hl _
   split at h
   ·exact hend h hb (by simp) (by simp)
   split at h
   ·exact hend h hb (by simp) (by simp)
   split at h
   ·obtain ⟨⟨a,pa,na⟩,e1,h⟩:=cy h;obtain ⟨h1,ta,h2,⟨h3,h4⟩,h5⟩:=hbr e1 hb;obtain ⟨⟨a2,p2,n2⟩,e2,h⟩:=cy h;obtain ⟨m1,t2,m2,⟨m3,m4⟩,m5⟩:=ih (.block (d+1) pa na) a2 p2 n2 (ta.sz+b) e2 h5;obtain ⟨g1,g2,g3⟩:=put (ts:=[ta,t2]) h (h1.trans m1) ⟨Sub.more m1 h2,m2,trivial⟩ (by simp only [szs];omega);refine ⟨g1,_,g2,⟨⟨⟨by simp,fun _=>rfl,.inr (.inr (.inr (.inr (.inr (.inr (.inl ⟨rfl,ta,t2,rfl,h4,m4⟩))))))⟩,h3,m3,trivial⟩,?_⟩,g3⟩;simp only [stK,Tr.kind];omega
   split at h
   ·obtain ⟨⟨a,pa,na⟩,e1,h⟩:=cy h;obtain ⟨h1,ta,h2,⟨h3,h4⟩,h5⟩:=hbr e1 hb;obtain ⟨⟨a2,p2,n2⟩,e2,h⟩:=cy h;obtain ⟨m1,t2,m2,⟨m3,m4⟩,m5⟩:=ih (.block (d+1) pa na) a2 p2 n2 (ta.sz+b) e2 h5;dsimp only at h;split at h
    ·obtain ⟨⟨a3,p3,n3⟩,e3,h⟩:=cy h;obtain ⟨o1,t3,o2,⟨o3,o4⟩,o5⟩:=ih (.block (d+1) (p2+1) n2) a3 p3 n3 (t2.sz+(ta.sz+b)) e3 m5;obtain ⟨g1,g2,g3⟩:=put (ts:=[ta,t2,t3]) h ((h1.trans m1).trans o1) ⟨Sub.more (m1.trans o1) h2,Sub.more o1 m2,o2,trivial⟩ (by simp only [szs];omega);refine ⟨g1,_,g2,⟨⟨⟨by simp,fun _=>rfl,.inr (.inr (.inr (.inr (.inr (.inr (.inr (.inl ⟨rfl,ta,t2,h4,m4,.inr ⟨t3,rfl,o4⟩⟩)))))))⟩,h3,m3,o3,trivial⟩,?_⟩,g3⟩;simp only [stK,Tr.kind];omega
    ·obtain ⟨g1,g2,g3⟩:=put (ts:=[ta,t2]) h (h1.trans m1) ⟨Sub.more m1 h2,m2,trivial⟩ (by simp only [szs];omega);refine ⟨g1,_,g2,⟨⟨⟨by simp,fun _=>rfl,.inr (.inr (.inr (.inr (.inr (.inr (.inr (.inl ⟨rfl,ta,t2,h4,m4,.inl rfl⟩)))))))⟩,h3,m3,trivial⟩,?_⟩,g3⟩;simp only [stK,Tr.kind];omega
   split at h
   ·obtain ⟨⟨a,pa,na⟩,e1,h⟩:=cy h;obtain ⟨h1,ta,h2,⟨h3,h4⟩,h5⟩:=ih (.block (d+1) (p+1) ns) a pa na b e1 hb;obtain ⟨q1,_,h⟩:=cy h;obtain ⟨q2,_,h⟩:=cy h;obtain ⟨⟨t,p1⟩,e0,h⟩:=cy h;obtain ⟨q3,_,h⟩:=cy h;obtain ⟨⟨a2,p2,n2⟩,e2,h⟩:=cy h;obtain ⟨m1,t2,m2,⟨m3,m4⟩,m5⟩:=ih (.block (d+1) q3 na) a2 p2 n2 (ta.sz+b) e2 h5;obtain ⟨g1,g2,g3⟩:=put (ts:=[ta,t2]) h (h1.trans m1) ⟨Sub.more m1 h2,m2,trivial⟩ (by simp only [szs];omega);have ht:t.length<=1073741824/\t≠[]:=by
     unfold cU at e0;split at e0
     ·rename_i hk;cases e0;refine ⟨fJ hl _,?_⟩;unfold dc at hk;unfold cF;cases hx:l[q2]? with
      | none=>rw [hx] at hk;cases hk
      | some x=>rw [hx] at hk;exact hl.name x (aP hx) hk
     ·cases e0
    refine ⟨g1,_,g2,⟨⟨⟨ht.1,fun _=>rfl,.inr (.inr (.inr (.inr (.inr (.inr (.inr (.inr (.inl ⟨rfl,ht.2,ta,t2,rfl,h4,m4⟩))))))))⟩,h3,m3,trivial⟩,?_⟩,g3⟩;simp only [stK,Tr.kind];omega
   split at h
   ·obtain ⟨g1,t,g2,⟨g3,g4⟩,g5⟩:=ih (.block (d+1) p ns) k p' ns' b h hb;refine ⟨g1,t,g2,⟨g3,?_⟩,g5⟩;have:t.kind=18:=g4;unfold stK;omega
   split at h
   ·exact hend h hb (by simp) (fJ hl p)
   ·exact hend h hb (by simp) (by simp)
  | cd name names p ns =>
   obtain ⟨hn,hnp,hb⟩:=hb;simp only [mm] at h;split at h
   ·rename_i hs;have hlt:=bg hs;have hcn:=hl.cnt;obtain ⟨⟨a,pa,na⟩,e1,h⟩:=cy h;obtain ⟨h1,ta,h2,⟨h3,h4⟩,h5⟩:=ih (.block 0 (p+1) ns) a pa na b e1 hb;obtain ⟨g1,g2,g3⟩:=put (ts:=[ta]) h h1 ⟨h2,trivial⟩ (by simpa [szs] using h5);exact ⟨g1,_,g2,⟨⟨⟨hn,fun hh=>absurd rfl hh,.inr (.inr (.inr (.inr (.inr (.inr (.inr (.inr (.inr (.inr ⟨rfl,by omega,ta,rfl,h4⟩)))))))))⟩,h3,trivial⟩,rfl⟩,g3⟩
   ·obtain ⟨q,eq,h⟩:=cy h;obtain ⟨⟨t,p1⟩,e0,h⟩:=cy h;have hq:p<=q:=by
     split at eq
     ·cases eq;omega
     ·have:=bV l p [44];rw [eq] at this;have:q=p+1/\q<=l.length:=this;omega
    have ht:=eQ l q (k:=1) (by decide);rw [e0] at ht;have ht:p1=q+1/\p1<=l.length:=ht;exact ih (.cd name (names++[t]) p1 ns) k p' ns' b h ⟨hn,by simp;omega,hb⟩
  | top kids p ns =>
   obtain ⟨ts,t1,t2,t3,t4⟩:=hb;have step:∀ {a:Int} {pa:Nat} {na:List Nd} {ta:Tr},mm l n (.top (kids++[a]) pa na)=some (.ok (k,p',ns'))->ns <+: na->Sub na ta a->ta.wf->(stK ta\/ta.kind=20)->ta.sz+(szs ts+b)<=na.length ->
     ns <+: ns'/\∃ t,Sub ns' t k/\post (.top kids p ns) t/\t.sz+b<=ns'.length:=by
    intro a pa na ta hh h1 h2 h3 h4 h5;have hq:pre b (.top (kids++[a]) pa na):=by
     refine ⟨ts++[ta],nI (dx.more h1 t1) ⟨h2,trivial⟩,oz fun u hu=>?_,fun u hu=>?_,?_⟩
     ·rcases bL.1 hu with hu | hu
      ·exact ep t2 u hu
      ·rw [bA.1 hu];exact h3
     ·rcases bL.1 hu with hu | hu
      ·exact t3 u hu
      ·rw [bA.1 hu];exact h4
     ·rw [gB];simp only [szs];omega
    obtain ⟨g1,t,g2,g3,g4⟩:=ih (.top (kids++[a]) pa na) k p' ns' b hh hq;exact ⟨h1.trans g1,t,g2,g3,g4⟩
   simp only [mm] at h;split at h
   ·split at h
    ·obtain ⟨⟨t,p1⟩,e0,h⟩:=cy h;obtain ⟨q,_,h⟩:=cy h;obtain ⟨⟨a,pa,na⟩,e1,h⟩:=cy h;have ht:t.length<=1073741824:=by
      unfold cU at e0;split at e0<;>cases e0
      exact fJ hl _
     obtain ⟨h1,ta,h2,⟨h3,h4⟩,h5⟩:=ih (.cd t [] q ns) a pa na (szs ts+b) e1 ⟨ht,by simp,t4⟩;exact step h h1 h2 h3 (.inr h4) h5
    ·obtain ⟨⟨a,pa,na⟩,e1,h⟩:=cy h;obtain ⟨h1,ta,h2,⟨h3,h4⟩,h5⟩:=ih (.stmt 0 p ns) a pa na (szs ts+b) e1 t4;exact step h h1 h2 h3 (.inl h4) h5
   ·obtain ⟨g1,g2,g3⟩:=put h (List.prefix_refl _) t1 t4;exact ⟨g1,_,g2,⟨rfl,rfl,rfl,t2,t3⟩,g3⟩
structure Sc where
 names:List (List UInt8)
 own:Nat
 di:Nat
 code:Int
 node:Int
def bz (ns:List Nd) (root:Int):O:= .st [.d (.imm 5 (ns.map Nd.enc)),.d (.int .i64 root)]
def bd (l:List (List UInt8)):List (List D):=l.map fun w=>[.str w]
def Sc.enc (s:Sc):O:= .st [.ptr 1 0 0,.mp 2,.own false 1 (bd s.names),.d (.int .i64 s.own),.d (.int .i64 s.di),.d (.int .i64 s.code),.d (.int .i64 s.node)]
def Sc.fail (c k:Int) (s:Sc):Sc:=if s.code=0 then {s with code:=c,node:=k} else s
def Sc.cq (t:List UInt8) (k:Int) (s:Sc):Sc :=
 let s':Sc:={s with names:=s.names++[t],di:=max s.di (s.names.length+1)}
 if 20 < s.names.length+1 then s'.fail 7 k else s'
def au (l:List (List UInt8)) (t:List UInt8):Int:=match l.reverse.findIdx? (·=t) with
 | some i=>l.length - 1 - i
 | none=> -1
structure mh (C:Ctx):Prop where
 slot:∀ (s:Sc) (ns:List Nd) (root:Int) (es:List (D×Int)) (t:List UInt8),s.names.length<=1073741824->Fn C 264 [.ptr 0 0 0,.d (.str t)] [s.enc,bz ns root,.mp es] (.d (.int .i64 (au s.names t))) [some s.enc,some (bz ns root),some (.mp es)]
section
variable {C:Ctx} (hP:C.P=Tryz.prog)
include hP
theorem pV (s:Sc) (ns:List Nd) (root:Int) (es:List (D×Int)) (c k:Int):Fn C 207 [.ptr 0 0 0,.d (.int .i64 c),.d (.int .i64 k)] [s.enc,bz ns root,.mp es] (.tup []) [some (s.fail c k).enc,some (bz ns root),some (.mp es)]:=by
 refine eN hP IG ⟨gP (fun h=>⟨?_⟩) fun h=>⟨?_⟩⟩
 ·refine lW ⟨⟨?_,rfl,rfl,trivial⟩,rfl⟩;(conv=>lhs;whnf);rw [Sc.fail,aj (ai h)];rfl
 ·refine lW ⟨⟨?_,rfl,rfl,trivial⟩,rfl⟩;(conv=>lhs;whnf);rw [Sc.fail,ab (ao h)];rfl
theorem Ej (s:Sc) (ns:List Nd) (root:Int) (es:List (D×Int)) (t:List UInt8) (k:Int) (hl:s.names.length<=1073741000):Fn C 240 [.ptr 0 0 0,.d (.str t),.d (.int .i64 k)] [s.enc,bz ns root,.mp es] (.tup []) [some (s.cq t k).enc,some (bz ns root),some (.mp es)]:=by
 have hlen:(bd s.names).length=s.names.length:=by simp [bd]
 refine eN hP Iy ⟨gN ?_ ⟨?_⟩⟩
 ·rw [hlen];show _+1<=_;omega
 have hrows:List.take (bd s.names).length (List.drop 0 (bd s.names))++[[D.str t]]=bd (s.names++[t]):=by rw [aq,b8];simp [bd]
 rw [hrows];have e1:List.take ((bd s.names).length+(Sh.ds [[D.str t]] [[D.str t]].length).len) (List.drop 0 (bd (s.names++[t])))=bd (s.names++[t]):=by
  rw [aq];exact ae (by simp [bd,Sh.len])
 have e2:(((bd s.names).length+(Sh.ds [[D.str t]] [[D.str t]].length).len:Nat):Int)=((s.names.length+1:Nat):Int):=by rw [hlen];rfl
 have e3:(if ((s.names.length+1:Nat):Int) > (s.di:Int) then ((s.names.length+1:Nat):Int) else (s.di:Int))=((max s.di (s.names.length+1):Nat):Int):=by split<;>omega
 rw [e1,e2,e3];refine gP (fun h=>⟨?_⟩) fun h=>⟨?_⟩
 ·refine gC [0,1,2] (pV hP {s with names:=s.names++[t],di:=max s.di (s.names.length+1)} ns root es 7 k) ⟨lW ⟨⟨?_,rfl,rfl,trivial⟩,rfl⟩⟩;(conv=>lhs;whnf);rw [Sc.cq,aj (by simp at h;omega)];rfl
 ·refine lW ⟨⟨?_,rfl,rfl,trivial⟩,rfl⟩;(conv=>lhs;whnf);rw [Sc.cq,ab (by simp at h;omega)];rfl
theorem Hg (l:List (List UInt8)) (off:Nat) (t:List UInt8) (hl:l.length < 4611686018427387904) (ho:off<=l.length):Fn C 81 [.arr 0 off (l.length - off),.d (.str t)] [.da 1 (bd l)] (.d (.int .i64 (idxOf t (l.drop off) 0))) [some (.da 1 (bd l))]:=by
 refine eN hP c81 ⟨?_⟩;generalize hN:idxOf t (l.drop off) 0=N;refine gW (fun j:Nat=>l.length - j) (fun j=>j<=l.length - off/\idxOf t (l.drop (off+j)) j=N) (fun j=>[(0,.arr 0 off (l.length - off)),(1,.d (.str t)),(4,.d (.int .i64 0)),(7,.d (.int .i64 (l.length - off:Nat))),(8,.d (.int .i64 j))]) (fun _=>[(0,.da 1 (bd l))]) 1 ?_ 0 ⟨by omega,hN⟩;refine fun j ⟨hj,hjN⟩ ih=>⟨?_⟩
 refine gP (fun h=>⟨?_⟩) fun h=>⟨?_⟩
 ·have hlt:j < l.length - off:=by simpa using h
  refine gN ⟨by omega,by omega⟩ ⟨?_⟩;have hrow:(bd l)[off+((j:Int)).toNat]?=some [.str l[off+j]]:=by simp [bd,aa (show off+j < l.length by omega)]
  refine gD hrow ⟨gP (fun hp=>⟨?_⟩) fun hp=>⟨?_⟩⟩
  ·refine lW ⟨⟨rfl,trivial⟩,?_⟩;rw [<- hjN,av (show off+j < l.length by omega),idxOf,aj (by simpa using hp)]
  ·rw [aC (by omega)];refine ih (j+1) ⟨hlt,?_⟩ (by omega);rw [<- hjN,av (show off+j < l.length by omega),idxOf,ab (by simpa using hp)];rfl
 ·refine lW ⟨⟨rfl,trivial⟩,?_⟩;have:l.drop (off+j)=[]:=b7 (by have:¬ j < l.length - off:=(by simpa using h);omega);rw [<- hjN,this];rfl
theorem Hh (l:List (List UInt8)) (off:Nat) (t:List UInt8) (hl:l.length < 4611686018427387904) (ho:off<=l.length):Fn C 49 [.arr 0 off (l.length - off),.d (.str t)] [.da 1 (bd l)] (.d (.bool (decide (t∈l.drop off)))) [some (.da 1 (bd l))]:=by
 refine eN hP c49 ⟨gC [0] (Hg hP l off t hl ho) ⟨lW ⟨⟨rfl,trivial⟩,?_⟩⟩⟩;simp [rA]
theorem Hj (s:Sc) (ns:List Nd) (root:Int) (es:List (D×Int)) (t:List UInt8) (hl:s.names.length<=1073741824) (ho:s.own<=s.names.length) :
  Fn C 266 [.ptr 0 0 0,.d (.str t)] [s.enc,bz ns root,.mp es] (.d (.bool (decide (t∈s.names.drop s.own)))) [some s.enc,some (bz ns root),some (.mp es)]:=by
 refine eN hP Im ⟨?_⟩;have hlen:(bd s.names).length=s.names.length:=by simp [bd]
 have e1:0+bH (some (s.own:Int))=s.own:=by simp [bH]
 have e2:ct (bd s.names).length (some (s.own:Int)) none=s.names.length - s.own:=by rw [hlen];rfl
 refine ah.dR ?_ ?_
 ·rw [hlen];exact ⟨by omega,by omega⟩
 rw [e1,e2];refine gG ⟨gC [3] (Hh hP s.names s.own t (by omega) ho) ⟨lW ⟨⟨?_,rfl,rfl,trivial⟩,rfl⟩⟩⟩;(conv=>lhs;whnf);rw [aq,b8];rfl
def pv (ns:List Nd) (es:List (D×Int)):Prop:=(∀ p∈es,jO none p.1)/\∀ t,cJ es (.str t)=true->∃ nd,0<=cL es (.str t)/\ns[(cL es (.str t)).toNat]?=some nd
def arM (ns:List Nd) (es:List (D×Int)) (t:List UInt8):Option Int:=match cJ es (.str t) with
 | true=>(ns[(cL es (.str t)).toNat]?).map fun nd=>(nd.names.length:Int)
 | false=>none
def arity (ar:List UInt8->Option Int) (t:List UInt8):Option Int:=match ar t with
 | some n=>some n
 | none=>(db t).map fun ks=>(ks.length:Int)
def Sc.call (ar:List UInt8->Option Int) (t:List UInt8) (nk:Nat) (k:Int) (s:Sc):Sc:=match arity ar t with
 | none=>s.fail 11 k
 | some m=>if m≠nk then s.fail 14 k else s
omit hP in
theorem bM {nd:Nd} (h:ns[k.toNat]?=some nd):(ns.map Nd.enc)[k.toNat]?=some nd.enc:=by simp [h]
theorem Hk (s:Sc) (ns:List Nd) (root:Int) (es:List (D×Int)) (k:Int) (nd:Nd) (hk:0<=k) (hnd:ns[k.toNat]?=some nd) (hf:pv ns es) :
  Fn C 265 [.ptr 0 0 0,.d (.int .i64 k)] [s.enc,bz ns root,.mp es] (.tup []) [some (s.call (arM ns es) nd.text nd.kids.length k).enc,some (bz ns root),some (.mp es)]:=by
 have hmk:wy none es (.str nd.text):=⟨trivial,hf.1⟩
 have key:∀ (kv:D) (kl:Int) (b:Bool) (s':Sc),Fn C 206 [.d (.str nd.text)] [] (.tup [.d kv,.d (.bool b)]) []->(kv= .nil/\kl=0\/∃ ks,kv=bJ ks/\kl=ks.length) ->
   s'=(match cJ es (.str nd.text) with | true=>(match ns[(cL es (.str nd.text)).toNat]? with | some nd'=>if (nd'.names.length:Int)≠nd.kids.length then s.fail 14 k else s | none=>s) | false=>if b=false then s.fail 11 k else if kl≠nd.kids.length then s.fail 14 k else s)->Fn C 265 [.ptr 0 0 0,.d (.int .i64 k)] [s.enc,bz ns root,.mp es] (.tup []) [some s'.enc,some (bz ns root),some (.mp es)]:=by
  intro kv kl b s' h206 hkv hs;cases hh:cJ es (.str nd.text) with
  | true =>
   obtain ⟨nd',hn0,hn⟩:=hf.2 _ hh;rw [hh] at hs;simp only [hn] at hs;rcases hkv with ⟨rfl,rfl⟩ | ⟨ks,rfl,rfl⟩
   all_goals
    refine eN hP GB ⟨gD (bM hnd) ⟨gO h206 ⟨gN hmk ⟨gY ⟨gD (bM hn) ⟨gP (fun h=>⟨?_⟩) fun h=>⟨?_⟩⟩ hn0⟩ hh⟩⟩⟩ hk⟩
    ·refine gC [0,1,2] (pV hP s ns root es 14 k) ⟨?_⟩;refine lW ⟨⟨?_,rfl,rfl,trivial⟩,rfl⟩;(conv=>lhs;whnf);rw [hs,aj (by simpa [Nd.enc] using h)];rfl
    ·refine lW ⟨⟨?_,rfl,rfl,trivial⟩,rfl⟩;(conv=>lhs;whnf);rw [hs,ab (by simpa [Nd.enc] using h)];rfl
  | false =>
   rw [hh] at hs;simp only at hs;rcases hkv with ⟨rfl,rfl⟩ | ⟨ks,rfl,rfl⟩
   all_goals
    refine eN hP GB ⟨gD (bM hnd) ⟨gO h206 ⟨gN hmk ⟨gX ⟨?_⟩ hh⟩⟩⟩ hk⟩;cases b with
    | false =>
     refine gY ⟨gC [0,1,2] (pV hP s ns root es 11 k) ⟨?_⟩⟩;refine lW ⟨⟨?_,rfl,rfl,trivial⟩,rfl⟩;(conv=>lhs;whnf);rw [hs];rfl
    | true =>
     refine gX ⟨gP (fun h=>⟨?_⟩) fun h=>⟨?_⟩⟩
     ·refine gC [0,1,2] (pV hP s ns root es 14 k) ⟨?_⟩;refine lW ⟨⟨?_,rfl,rfl,trivial⟩,rfl⟩;(conv=>lhs;whnf);rw [hs,ab (by decide),aj (by simpa [Nd.enc,bJ] using h)];rfl
     ·refine lW ⟨⟨?_,rfl,rfl,trivial⟩,rfl⟩;(conv=>lhs;whnf);rw [hs,ab (by decide),ab (by simpa [Nd.enc,bJ] using h)];rfl
 have hv:=uS hP nd.text;cases hq:db nd.text with
 | none =>
  simp only [oY,hq] at hv;refine key .nil 0 false _ hv (.inl ⟨rfl,rfl⟩) ?_;cases hh:cJ es (.str nd.text) with
  | false=>simp [Sc.call,arity,arM,hh,hq]
  | true =>
   obtain ⟨nd',hn0,hn⟩:=hf.2 _ hh;simp [Sc.call,arity,arM,hh,hn]
 | some ks =>
  simp only [oY,hq] at hv;refine key (bJ ks) ks.length true _ hv (.inr ⟨ks,rfl,rfl⟩) ?_;cases hh:cJ es (.str nd.text) with
  | false=>simp [Sc.call,arity,arM,hh,hq]
  | true =>
   obtain ⟨nd',hn0,hn⟩:=hf.2 _ hh;simp [Sc.call,arity,arM,hh,hn]
end
def Sc.meet (ar:List UInt8->Option Int) (kind:Int) (text:List UInt8) (nk:Nat) (ix:Int) (s:Sc):Sc :=
 if kind=5\/kind=12 then (if au s.names text < 0 then s.fail 11 ix else s) else if kind=10 then s.call ar text nk ix else s
def Sc.declare (text:List UInt8) (ix:Int) (s:Sc):Sc:=(if text∈s.names.drop s.own then s.fail 12 ix else s).cq text ix
mutual
def Tr.walk (ar:List UInt8->Option Int):Tr->Sc->Sc
 | .mk ix kind n text names kids,s =>
  if kind=20 then s
  else if kind=17 then dT ar text ix s.names.length kids s
  else if kind=18 then
   let s1:=walks ar kids {s with own:=s.names.length}
   {s1 with own:=s.own,names:=s1.names.take s.names.length}
  else
   let s2:=walks ar kids (s.meet ar kind text kids.length ix)
   if kind=11 then s2.declare text ix else s2
def walks (ar:List UInt8->Option Int):List Tr->Sc->Sc
 | [],s=>s
 | t::l,s=>walks ar l (t.walk ar s)
def dT (ar:List UInt8->Option Int) (text:List UInt8) (ix:Int) (n:Nat):List Tr->Sc->Sc
 | [],s=>s
 | a::l,s=>dV ar text ix l (a.walk ar s)
def dV (ar:List UInt8->Option Int) (text:List UInt8) (ix:Int):List Tr->Sc->Sc
 | [],s=>s
 | b::_,s=>let s1:=b.walk ar (s.cq text ix);{s1 with names:=s1.names.take s.names.length}
end
theorem fK (t:List UInt8) (k:Int) (s:Sc):(s.cq t k).own=s.own:=by unfold Sc.cq Sc.fail;simp only;split<;>(try split)<;>rfl
theorem bZ (t:List UInt8) (k:Int) (s:Sc):(s.cq t k).names=s.names++[t]:=by unfold Sc.cq Sc.fail;simp only;split<;>(try split)<;>rfl
theorem l9 (c k:Int) (s:Sc):(s.fail c k).own=s.own:=by unfold Sc.fail;split<;>rfl
theorem eR (c k:Int) (s:Sc):(s.fail c k).names=s.names:=by unfold Sc.fail;split<;>rfl
theorem BZ (ar:List UInt8->Option Int) (t:List UInt8) (n:Nat) (k:Int) (s:Sc):(s.call ar t n k).own=s.own:=by unfold Sc.call;split<;>(try split)<;>simp [l9]
theorem yb (ar:List UInt8->Option Int) (t:List UInt8) (n:Nat) (k:Int) (s:Sc):(s.call ar t n k).names=s.names:=by unfold Sc.call;split<;>(try split)<;>simp [eR]
def jm (n:Nat) (s s':Sc):Prop:=s'.own=s.own/\∃ l,s'.names=s.names++l/\l.length<=n
theorem jm.refl (n:Nat) (s:Sc):jm n s s:=⟨rfl,[],by simp,by simp⟩
theorem jm.trans {n m:Nat} {s s' s'':Sc} (h:jm n s s') (h':jm m s' s'') (hp:n+m<=p):jm p s s'':=by
 obtain ⟨h1,l,h2,h3⟩:=h;obtain ⟨h1',l',h2',h3'⟩:=h';exact ⟨h1'.trans h1,l++l',by rw [h2',h2,e8],by simp;omega⟩
theorem jm.len {n:Nat} {s s':Sc} (h:jm n s s'):s.names.length<=s'.names.length/\s'.names.length<=s.names.length+n:=by
 obtain ⟨h1,l,h2,h3⟩:=h;rw [h2];simp;omega
theorem nf (ar:List UInt8->Option Int) (kind:Int) (text:List UInt8) (nk:Nat) (ix:Int) (s:Sc):jm 0 s (s.meet ar kind text nk ix):=by
 unfold Sc.meet;split
 ·split
  ·exact ⟨l9 _ _ _,[],by simp [eR],by simp⟩
  ·exact .refl _ _
 ·split
  ·exact ⟨BZ _ _ _ _ _,[],by simp [yb],by simp⟩
  ·exact .refl _ _
theorem sM (text:List UInt8) (ix:Int) (s:Sc):jm 1 s (s.declare text ix):=by
 unfold Sc.declare;split
 ·exact ⟨by rw [fK,l9],[text],by rw [bZ,eR],by simp⟩
 ·exact ⟨by rw [fK],[text],by rw [bZ],by simp⟩
mutual
theorem e9 (ar:List UInt8->Option Int):∀ (t:Tr) (s:Sc),jm t.sz s (t.walk ar s)
 | .mk ix kind n text names kids,s=>by
  unfold Tr.walk;split
  ·exact .refl _ _
  split
  ·exact sy ar text ix s.names.length kids s
  split
  ·obtain ⟨h1,l,h2,h3⟩:=b5 ar kids {s with own:=s.names.length};refine ⟨rfl,[],?_,by simp⟩;simp [h2]
  ·have h2:=(nf ar kind text kids.length ix s).trans (b5 ar kids _) (al _);simp only;split
   ·exact h2.trans (sM text ix _) (by simp [Tr.sz])
   ·exact h2.trans (.refl 1 _) (by simp [Tr.sz])
theorem b5 (ar:List UInt8->Option Int):∀ (l:List Tr) (s:Sc),jm (szs l) s (walks ar l s)
 | [],s=> .refl _ _
 | t::l,s=>by
  unfold walks;exact (e9 ar t s).trans (b5 ar l _) (by simp [szs])
theorem sy (ar:List UInt8->Option Int) (text:List UInt8) (ix:Int) (n:Nat):∀ (l:List Tr) (s:Sc),jm (szs l+1) s (dT ar text ix n l s)
 | [],s=> .refl _ _
 | a::l,s=>by
  unfold dT;exact (e9 ar a s).trans (qy ar text ix l _) (by simp [szs];omega)
theorem qy (ar:List UInt8->Option Int) (text:List UInt8) (ix:Int):∀ (l:List Tr) (s:Sc),jm (szs l+1) s (dV ar text ix l s)
 | [],s=> .refl _ _
 | b::l,s=>by
  unfold dV;obtain ⟨h1,k,h2,h3⟩:=e9 ar b (s.cq text ix);rw [bZ] at h2;rw [fK] at h1;refine ⟨h1,[],?_,by simp⟩;simp only;rw [h2];simp
end
section
variable {C:Ctx} (hP:C.P=Tryz.prog)
include hP
omit hP in
theorem jq (l:List (List UInt8)) (n:Nat):List.take n (bd l)=bd (l.take n):=by simp [bd,List.map_take]
omit hP in
theorem eI (l:List (List UInt8)):(bd l).length=l.length:=by simp [bd]
theorem Hm (s:Sc) (ns:List Nd) (root:Int) (es:List (D×Int)) (nd:Nd) (s1:Sc) (hl:s1.names.length<=1073741824) (hge:s.names.length<=s1.names.length) (hle:s.names.length<=1073741824)
  (hc:Fn C 263 [.ptr 3 0 0,.ptr 4 0 0] [({s with own:=s.names.length}:Sc).enc,bz ns root,.mp es,.st [.ptr 0 0 0],.st (nd.enc.map .d)] (.tup []) [some s1.enc,some (bz ns root),some (.mp es),some (.st [.ptr 0 0 0]),some (.st (nd.enc.map .d))]) :
  Fn C 262 [.ptr 0 0 0,.fn 263 [(3,0,0),(4,0,0)]] [s.enc,bz ns root,.mp es,.st [.ptr 0 0 0],.st (nd.enc.map .d)] (.tup []) [some ({s1 with own:=s.own,names:=s1.names.take s.names.length}:Sc).enc,some (bz ns root),some (.mp es),some (.st [.ptr 0 0 0]),some (.st (nd.enc.map .d))]:=by
 refine eN hP Ip ⟨?_⟩;rw [show List.take (bd s.names).length (List.drop 0 (bd s.names))=bd s.names by rw [aq,b8],eI];refine gC [0,1,2,3,4] hc ⟨gN ?_ ⟨?_⟩⟩
 ·exact ⟨by omega,by rw [eI];omega⟩
 refine lW ⟨⟨?_,rfl,rfl,rfl,rfl,trivial⟩,rfl⟩;(conv=>lhs;whnf);rw [show ct (bd s1.names).length none (some (s.names.length:Int))=s.names.length from rfl,show 0+bH none=0 from rfl,aq,jq];rfl
def mf (C:Ctx) (ns:List Nd) (root:Int) (es:List (D×Int)) (t:Tr):Prop:=∀ (s:Sc) (k:Int),Sub ns t k->t.wf->s.names.length+t.sz<=1073741000->s.own<=s.names.length ->
 Fn C 242 [.ptr 0 0 0,.d (.int .i64 k)] [s.enc,bz ns root,.mp es] (.tup []) [some (t.walk (arM ns es) s).enc,some (bz ns root),some (.mp es)]
omit hP in
theorem gS (ar:List UInt8->Option Int):∀ (l m:List Tr) (s:Sc),walks ar (l++m) s=walks ar m (walks ar l s)
 | [],m,s=>rfl
 | t::l,m,s=>gS ar l m (t.walk ar s)
omit hP in
theorem eX {ns:List Nd}:∀ {ts:List Tr} {ks:List Int} {j:Nat} {t:Tr},dx ns ts ks->ts[j]?=some t->∃ k,ks[j]?=some k/\Sub ns t k
 | t::ts,k::ks,0,u,h,hu=>by cases hu;exact ⟨k,rfl,h.1⟩
 | t::ts,k::ks,j+1,u,h,hu=>eX (ts:=ts) (ks:=ks) h.2 hu
 | [],[],j,u,h,hu=>by simp at hu
 | [],k::ks,j,u,h,hu=>h.elim
 | t::ts,[],j,u,h,hu=>h.elim
theorem Ei (s:Sc) (ns:List Nd) (root:Int) (es:List (D×Int)) (nd:Nd) (ts:List Tr) (hall:∀ t∈ts,mf C ns root es t) (hs:dx ns ts nd.kids) (hw:wfs ts) (hb:s.names.length+szs ts<=1073741000) (ho:s.own<=s.names.length) (hkl:nd.kids.length < 4611686018427387904) :
  Fn C 241 [.ptr 0 0 0,.agg (nd.enc.map .d)] [s.enc,bz ns root,.mp es] (.tup []) [some (walks (arM ns es) ts s).enc,some (bz ns root),some (.mp es)]:=by
 have htl:=eP hs;refine eN hP Dw ⟨?_⟩;rw [show (List.map (fun k=>[D.int IntKind.i64 k]) nd.kids).length=nd.kids.length by simp];refine ah.loop (fun j:Nat=>ts.length - j) (fun j=>j<=ts.length) (fun j=>[(0,.ptr 0 0 0),(7,.d (bJ nd.kids)),(8,.d (.int .i64 (nd.kids.length:Nat))),(9,.d (.int .i64 (j:Nat)))]) (fun j=>[(0,(walks (arM ns es) (ts.take j) s).enc),(1,bz ns root),(2,.mp es)]) 3 ?_ 0 (by omega);intro j hj ih;have hkp:=b5 (arM ns es) (ts.take j) s;generalize hs':walks (arM ns es) (ts.take j) s=s' at hkp ⊢;refine gG ⟨gP (fun h=>⟨?_⟩) fun h=>⟨?_⟩⟩
 ·have hlt:j < ts.length:=by rw [htl];simpa using h
  obtain ⟨k,hk1,hk2⟩:=eX hs (aa hlt);refine ah.exD (row:=[.int .i64 k]) (by simp [hk1]) (by omega) rfl ?_;refine gG ⟨?_⟩;have hsz:szs (ts.take j)+ts[j].sz<=szs ts:=by
   have:=congrArg szs (List.take_append_drop j ts);rw [av hlt,gB] at this;simp only [szs] at this;omega
  have hn:=hkp.len;refine gC [0,1,2] (hall ts[j] (aZ hlt) s' k hk2 (ep hw _ (aZ hlt)) (by omega) (by rw [hkp.1];omega)) ⟨?_⟩;rw [aC (by omega)];refine (ih (j+1) hlt (by omega)).to rfl ?_;rw [aG hlt,gS,hs'];rfl
 ·have hge:ts.length<=j:=by
   have:¬ (j < nd.kids.length):=by simpa using h
   omega
  rw [ae hge] at hs';subst hs';refine lW ⟨⟨?_,rfl,rfl,trivial⟩,rfl⟩;(conv=>lhs;whnf);rfl
theorem Hl (s:Sc) (ns:List Nd) (root:Int) (es:List (D×Int)) (nd:Nd) (ts:List Tr) (hall:∀ t∈ts,mf C ns root es t) (hs:dx ns ts nd.kids) (hw:wfs ts) (hb:s.names.length+szs ts<=1073741000) (ho:s.own<=s.names.length) (hkl:nd.kids.length < 4611686018427387904) :
  Fn C 263 [.ptr 3 0 0,.ptr 4 0 0] [s.enc,bz ns root,.mp es,.st [.ptr 0 0 0],.st (nd.enc.map .d)] (.tup []) [some (walks (arM ns es) ts s).enc,some (bz ns root),some (.mp es),some (.st [.ptr 0 0 0]),some (.st (nd.enc.map .d))]:=by
 exact eN hP Io ⟨gC [0,1,2] (Ei hP s ns root es nd ts hall hs hw hb ho hkl) ⟨lW ⟨⟨rfl,rfl,rfl,rfl,rfl,trivial⟩,rfl⟩⟩⟩
theorem Ho (s:Sc) (ns:List Nd) (root:Int) (es:List (D×Int)) (ix n:Int) (text:List UInt8) (names:List (List UInt8)) (a b:Tr) (ka kb:Int) (h0:0<=ix) (hnd:ns[ix.toNat]?=some ⟨17,n,text,names,[ka,kb]⟩) (ha:mf C ns root es a) (hb:mf C ns root es b) (hsa:Sub ns a ka) (hsb:Sub ns b kb) (hwa:a.wf) (hwb:b.wf)
  (hn:s.names.length+a.sz+b.sz+1<=1073741000) (ho:s.own<=s.names.length) :
  Fn C 261 [.ptr 0 0 0,.d (.int .i64 ix)] [s.enc,bz ns root,.mp es] (.tup []) [some (dT (arM ns es) text ix s.names.length [a,b] s).enc,some (bz ns root),some (.mp es)]:=by
 have hka:=e9 (arM ns es) a s;generalize hs1:a.walk (arM ns es) s=s1 at hka;have hl1:=hka.len;have hkb:=e9 (arM ns es) b (s1.cq text ix);generalize hs2:b.walk (arM ns es) (s1.cq text ix)=s2 at hkb;have hl2:=hkb.len;rw [bZ,aH,aU] at hl2;have c1:=ha s ka hsa hwa (by omega) ho;rw [hs1] at c1;have c2:=hb (s1.cq text ix) kb hsb hwb (by rw [bZ,aH,aU];omega) (by rw [bZ,fK,aH,aU,hka.1];omega);rw [hs2] at c2;have hv:dT (arM ns es) text ix s.names.length [a,b] s={s2 with names:=s2.names.take s1.names.length}:=by
  simp only [dT,dV,hs1,hs2]
 rw [hv];refine eN hP Iq ⟨gD (bM hnd) ⟨?_⟩ h0⟩;refine ah.exD (row:=[.int .i64 ka]) rfl (by omega) rfl ?_;refine gG ⟨gC [0,1,2] c1 ⟨?_⟩⟩;rw [show List.take (bd s1.names).length (List.drop 0 (bd s1.names))=bd s1.names by rw [aq,b8],eI];refine gC [0,1,2] (Ej hP s1 ns root es text ix (by omega)) ⟨?_⟩;refine ah.exD (row:=[.int .i64 kb]) rfl (by omega) rfl ?_;refine gG ⟨gC [0,1,2] c2 ⟨gN ?_ ⟨?_⟩⟩⟩
 ·exact ⟨by omega,by rw [eI];omega⟩
 refine lW ⟨⟨?_,rfl,rfl,trivial⟩,rfl⟩;(conv=>lhs;whnf);rw [show ct (bd s2.names).length none (some (s1.names.length:Int))=s1.names.length from rfl,show 0+bH none=0 from rfl,aq,jq];rfl
theorem Ci (hS:mh C) (ns:List Nd) (root:Int) (es:List (D×Int)) (hf:pv ns es) (ix kind n:Int) (text:List UInt8) (names:List (List UInt8)) (ts:List Tr) (hall:∀ t∈ts,mf C ns root es t):mf C ns root es (.mk ix kind n text names ts):=by
 intro s k hsub hwf hb ho;obtain ⟨hki,kids,h0,hnd,hsubs⟩:=hsub;subst hki;obtain ⟨hsh,hws⟩:=hwf;have htl:=eP hsubs;have hkl:kids.length < 4611686018427387904:=by
  have:∀ l:List Tr,l.length<=szs l:=by
   intro l;induction l with
   | nil=>simp
   | cons t l ih =>
    have:1<=t.sz:=by cases t;simp [Tr.sz]
    simp [szs];omega
  have:=this ts;simp [Tr.sz] at hb;omega
 simp only [Tr.sz] at hb;by_cases h20:kind=20
 ·rw [Tr.walk,aj h20];refine eN hP Ah ⟨gD (bM hnd) ⟨gY ⟨?_⟩ (by simpa using h20)⟩ h0⟩;refine lW ⟨⟨?_,rfl,rfl,trivial⟩,rfl⟩;(conv=>lhs;whnf);rfl
 by_cases h17:kind=17
 ·rw [Tr.walk,ab h20,aj h17];obtain ⟨a,b,rfl⟩:∃ a b,ts=[a,b]:=by
   have:=hsh.2.2;subst h17;simp at this;obtain ⟨_,a,b,h,_⟩:=this;exact ⟨a,b,h⟩
  match kids,hsubs with
  | [ka,kb],hsubs =>
  subst h17;refine eN hP Ah ⟨gD (bM hnd) ⟨gX ⟨gY ⟨?_⟩⟩⟩ h0⟩;refine gC [0,1,2] (Ho hP s ns root es k n text names a b ka kb h0 hnd (hall _ (by simp)) (hall _ (by simp)) hsubs.1 hsubs.2.1 hws.1 hws.2.1 (by simp [szs] at hb;omega) ho) ⟨?_⟩;refine lW ⟨⟨?_,rfl,rfl,trivial⟩,rfl⟩;(conv=>lhs;whnf);rfl
 by_cases h18:kind=18
 ·rw [Tr.walk,ab h20,ab h17,aj h18];simp only;subst h18;have hkp:=b5 (arM ns es) ts {s with own:=s.names.length};have c1:=Hl hP {s with own:=s.names.length} ns root es ⟨18,n,text,names,kids⟩ ts hall hsubs hws (by simp;omega) (by simp) hkl;generalize hs1:walks (arM ns es) ts {s with own:=s.names.length}=s1 at hkp c1 ⊢;have hl:=hkp.len;simp only at hl;refine eN hP Ah ⟨gD (bM hnd) ⟨gX ⟨gX ⟨gY ⟨gC [0,1,2,3,4] (Hm hP s ns root es ⟨18,n,text,names,kids⟩ s1 (by omega) (by omega) (by omega) c1) ⟨?_⟩⟩⟩⟩⟩ h0⟩;refine lW ⟨⟨?_,rfl,rfl,trivial⟩,rfl⟩;(conv=>lhs;whnf);rfl
 rw [Tr.walk,ab h20,ab h17,ab h18];simp only;have hm:=nf (arM ns es) kind text ts.length k s;generalize hs1:s.meet (arM ns es) kind text ts.length k=s1 at hm ⊢;have hkp:=b5 (arM ns es) ts s1;have hl0:=hm.len;have Dw:=Ei hP s1 ns root es ⟨kind,n,text,names,kids⟩ ts hall hsubs hws (by omega) (by rw [hm.1];omega) hkl;generalize hs2:walks (arM ns es) ts s1=s2 at hkp Dw ⊢;have hl:=hkp.len;have tail2:∀ s3:Sc,s3.names.length<=1073741000->b4 C 3 [] (fun v os'=>v= .tup []/\os'=[some (s3.cq text k).enc,some (bz ns root),some (.mp es)])
   (Cfg.dy Ah.l 1 [(1,.d (.int .i64 k)),(2,.ptr 3 0 0),(4,.ptr 4 0 0)] [(0,s3.enc),(1,bz ns root),(2,.mp es),(3,.st [.ptr 0 0 0]),(4,.st ((Nd.enc ⟨kind,n,text,names,kids⟩).map .d))] 5):=by
  intro s3 hs3;refine gT ⟨gC [0,1,2] (Ej hP s3 ns root es text k hs3) ⟨?_⟩⟩;refine lW ⟨⟨?_,rfl,rfl,trivial⟩,rfl⟩;(conv=>lhs;whnf);rfl
 have tail:b4 C 3 [] (fun v os'=>v= .tup []/\os'=[some (if kind=11 then s2.declare text k else s2).enc,some (bz ns root),some (.mp es)])
   (Cfg.dy Ah.l 0 [(1,.d (.int .i64 k)),(2,.ptr 3 0 0),(4,.ptr 4 0 0)] [(0,s1.enc),(1,bz ns root),(2,.mp es),(3,.st [.ptr 0 0 0]),(4,.st ((Nd.enc ⟨kind,n,text,names,kids⟩).map .d))] 5):=by
  refine gT ⟨gC [0,1,2] Dw ⟨?_⟩⟩;by_cases h11:kind=11
  ·rw [aj h11];refine gY ⟨?_⟩ (by simpa using h11);refine gC [0,1,2] (Hj hP s2 ns root es text (by omega) (by rw [hkp.1,hm.1];omega)) ⟨gP (fun h=>⟨?_⟩) fun h=>⟨?_⟩⟩
   ·refine gC [0,1,2] (pV hP s2 ns root es 12 k) ⟨?_⟩;rw [Sc.declare,aj (ai h)];exact (tail2 (s2.fail 12 k) (by rw [eR];omega)).toC rfl rfl
   ·rw [Sc.declare,ab (ao h)];exact (tail2 s2 (by omega)).toC rfl rfl
  ·rw [ab h11];refine gX ⟨?_⟩ (by simpa using h11);refine lW ⟨⟨?_,rfl,rfl,trivial⟩,rfl⟩;(conv=>lhs;whnf);rfl
 refine eN hP Ah ⟨gD (bM hnd) ⟨gX ⟨gX ⟨gX ⟨?_⟩ (by simpa using h18)⟩ (by simpa using h17)⟩ (by simpa using h20)⟩ h0⟩;have slot:kind=5\/kind=12->(au s.names text < 0->s.fail 11 k=s1)/\(¬ au s.names text < 0->s=s1):=by
  intro h;rw [<- hs1,Sc.meet,aj h];exact ⟨fun h=>by rw [aj h],fun h=>by rw [ab h]⟩
 by_cases h5:kind=5
 ·refine gY ⟨gC [0,1,2] (hS.slot s ns root es text (by omega)) ⟨gP (fun h=>⟨?_⟩) fun h=>⟨?_⟩⟩⟩ (by simpa using h5)
  ·refine gC [0,1,2] (pV hP s ns root es 11 k) ⟨?_⟩;rw [(slot (.inl h5)).1 (ai h)];exact tail.toC rfl rfl
  ·rw [<- (slot (.inl h5)).2 (ao h)] at tail;exact tail.toC rfl rfl
 refine gX ⟨?_⟩ (by simpa using h5);by_cases h12:kind=12
 ·refine gY ⟨gC [0,1,2] (hS.slot s ns root es text (by omega)) ⟨gP (fun h=>⟨?_⟩) fun h=>⟨?_⟩⟩⟩ (by simpa using h12)
  ·refine gC [0,1,2] (pV hP s ns root es 11 k) ⟨?_⟩;rw [(slot (.inr h12)).1 (ai h)];exact tail.toC rfl rfl
  ·rw [<- (slot (.inr h12)).2 (ao h)] at tail;exact tail.toC rfl rfl
 refine gX ⟨?_⟩ (by simpa using h12);have h512:¬ (kind=5\/kind=12):=by omega
 by_cases h10:kind=10
 ·refine gY ⟨gC [0,1,2] (Hk hP s ns root es k ⟨kind,n,text,names,kids⟩ h0 hnd hf) ⟨?_⟩⟩ (by simpa using h10);rw [Sc.meet,ab h512,aj h10,htl] at hs1;rw [hs1];exact tail.toC rfl rfl
 ·refine gX ⟨?_⟩ (by simpa using h10);rw [Sc.meet,ab h512,ab h10] at hs1;rw [<- hs1] at tail;exact tail.toC rfl rfl
mutual
theorem vx (hS:mh C) (ns:List Nd) (root:Int) (es:List (D×Int)) (hf:pv ns es):∀ t:Tr,mf C ns root es t
 | .mk ix kind n text names kids=>Ci hP hS ns root es hf ix kind n text names kids (oB hS ns root es hf kids)
theorem oB (hS:mh C) (ns:List Nd) (root:Int) (es:List (D×Int)) (hf:pv ns es):∀ l:List Tr,∀ t∈l,mf C ns root es t
 | []=>by simp
 | a::l=>by
  have h1:=vx hS ns root es hf a;have h2:=oB hS ns root es hf l;intro t h;rcases aQ.1 h with rfl | h
  ·exact h1
  ·exact h2 t h
end
end
end Go.Proofs.YtggoiofammbchaaGreatDoor.Loc
