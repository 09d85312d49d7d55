/- Part 26 of a chain that ends in the statement named in GOCLAIM.json; no condition. -/
import Derived.Test.YtggoiofammbchaaGreatDoorK25
import Derived.Test.YtggoiofammbchaaGreatDoorK24
import Derived.Lib.SmallJoins
import Derived.Lib.ItoaLen
import Derived.Lib.AppendIntMem
import Derived.Lib.QuietBelow
set_option maxRecDepth 100000
set_option maxHeartbeats 2000000
set_option linter.all false
namespace Go.Proofs.YtggoiofammbchaaGreatDoor.Loc
open Go
variable {cs:Array Value} {g:Nat} {name:String} {w w':World}
open Go Go.RowKit Go.Joins Go.Sort
structure Asd (p:Prop):Prop where
 out:p
abbrev Tab (w:World):Prop:=Lib.TabIs Tryz.prog w "internal/strconv.uint64pow10" .u64 Lib.pow10Tab
structure Gl (w:World):Prop where
 tab:Tab w
 syn:∃ tp p,w.var? Tryz.prog "strconv.ErrSyntax"=some #[.iface tp p]
 ran:∃ tp p,w.var? Tryz.prog "strconv.ErrRange"=some #[.iface tp p]
theorem var_stays (hg:Tryz.prog.globalNamed name=some g) (h:w.var? Tryz.prog name=some cs) (hb:w'.heap[g]?=w.heap[g]?):w'.var? Tryz.prog name=some cs:=by
 unfold World.var? at h ⊢;rw [hg] at h ⊢;simp only [bQ] at h ⊢;rw [hb];exact h
theorem At (hg:Tryz.prog.globalNamed name=some g) (h:w.var? Tryz.prog name=some cs):g < w.heap.size:=by
 unfold World.var? at h;rw [hg] at h;simp only [bQ] at h;rcases Nat.lt_or_ge g w.heap.size with h1 | h1
 ·exact h1
 ·rw [Array.getElem?_eq_none h1] at h;cases h
theorem Dm:Tryz.prog.globalNamed "internal/strconv.uint64pow10"=some 0:=by kernel_rfl
theorem zi (h:Tab w) (hb:Below w.heap.size w w'):Tab w':=var_stays Dm h (hb.block 0 (At Dm h))
def pH (n:Int):ByteArray:=⟨(Lib.itoa n).toArray⟩
def ly (s:ByteArray):ByteArray:=⟨(Lib.trimPrefix s.data.toList [45]).toArray⟩
def mJ (s:ByteArray):Int×Bool :=
 match Lib.atoiAll s.data.toList with
 | .ok v=>(v,decide ((ly s).size<=18)&&((pH v).toList == s.toList))
 | .range=>(Lib.atoiSat s.data.toList,false)
 | _=>(0,false)
theorem re (s:ByteArray) (v:Int) (N:Nat) (w w1:World) (hA:Calls Tryz.prog 273 #[.string s] w fun e w'=>∃ N,e= .returned (.tuple #[.int .i64 v,.iface 278 (.pointer (some ⟨N,0,none⟩))])/\Below w.heap.size w w') :
  Calls Tryz.prog 257 #[.string s] w fun e w'=>e= .returned (.tuple #[.int .i64 v,.bool false])/\Below w.heap.size w w':=by
 have HA:=Asd.mk hA;clear hA
 go_enter Tryz.func257,Tryz.ntmps257
 go_wp2_with (go_at_call 273;refine HA.out.mono ?_;rintro e w1 ⟨N,rfl,hb⟩)
 go_ret2
 exact ⟨rfl,hb⟩
theorem wc (s:ByteArray) (v:Int) (w:World) (hA:Calls Tryz.prog 273 #[.string s] w fun e w'=>e= .returned (.tuple #[.int .i64 v,.nilIface])/\Below w.heap.size w w') (hl:18 < (ly s).size) :
  Calls Tryz.prog 257 #[.string s] w fun e w'=>e= .returned (.tuple #[.int .i64 v,.bool false])/\Below w.heap.size w w':=by
 have HA:=Asd.mk hA;have hT:=Tryz.strings_TrimPrefix s ⟨#[45]⟩
 change ∀ w,Calls Tryz.prog 274 #[.string s,.string ⟨#[45]⟩] w fun e w'=>e= .returned (.string (ly s))/\w'=w at hT
 have HT:=Asd.mk hT;generalize ly s=t at hl HT;have c1:decide ((t.size:Int)<=18)=false:=aI (by omega);have c2:decide (t.size<=18)=false:=aI (by omega);clear hA hT hl
 go_enter Tryz.func257,Tryz.ntmps257
 go_wp2_with (first | (go_at_call 273;refine HA.out.mono ?_;(first | rintro e w1 ⟨rfl,hb⟩ | rintro e w1 rfl hb)) | (go_at_call 274;refine (HT.out _).mono ?_;(first | rintro e w2 ⟨rfl,rfl⟩ | rintro e w2 rfl rfl)))
 go_ret2
 exact ⟨rfl,hb⟩
theorem zA (s:ByteArray) (v:Int) (w:World) (hA:Calls Tryz.prog 273 #[.string s] w fun e w'=>e= .returned (.tuple #[.int .i64 v,.nilIface])/\Below w.heap.size w w') (hl:(ly s).size<=18)
  (h0 : -9223372036854775808<=v) (h1:v<=9223372036854775807) (htab:Tab w) :
  Calls Tryz.prog 257 #[.string s] w fun e w'=>e= .returned (.tuple #[.int .i64 v,.bool ((pH v).toList == s.toList)])/\Below w.heap.size w w':=by
 have HA:=Asd.mk hA;have hT:=Tryz.strings_TrimPrefix s ⟨#[45]⟩
 change ∀ w,Calls Tryz.prog 274 #[.string s,.string ⟨#[45]⟩] w fun e w'=>e= .returned (.string (ly s))/\w'=w at hT
 have HT:=Asd.mk hT;generalize ly s=t at hl HT;have c1:decide ((t.size:Int)<=18)=true:=aR (by omega);have c2:decide (t.size<=18)=true:=aR (by omega);have hI:=fun w'=>Tryz.strconv_Itoa v h0 h1 w'
 change ∀ w',Tab w'->Calls Tryz.prog 67 #[.int .i64 v] w' fun e w''=>e= .returned (.string (pH v))/\_ at hI
 generalize pH v=u at hI;have HI:=Asd.mk hI;have HTab:=Asd.mk htab;clear hA hT hl hI htab h0 h1
 go_enter Tryz.func257,Tryz.ntmps257
 go_wp2_with (first | (go_at_call 273;refine HA.out.mono ?_;(first | rintro e w1 ⟨rfl,hb⟩ | rintro e w1 rfl hb);have HB:=Asd.mk hb;clear hb) | (go_at_call 274;refine (HT.out _).mono ?_;(first | rintro e w2 ⟨rfl,rfl⟩ | rintro e w2 rfl rfl)) | (go_at_call 67;refine (HI.out _ (zi HTab.out HB.out)).mono ?_;(first | rintro e w3 ⟨rfl,k,os,rfl⟩ | rintro e w3 rfl k os rfl)))
 go_ret2
 exact ⟨rfl,HB.out.trans ((Go.Lib.below_grow _ _ (al _) k os).mono HB.out.size)⟩
theorem uB (s:ByteArray) (hs:s.size<=281474976710656) (w:World) (hE:Gl w) :
  Calls Tryz.prog 257 #[.string s] w fun e w'=>e= .returned (.tuple #[.int .i64 (mJ s).1,.bool (mJ s).2])/\Below w.heap.size w w':=by
 unfold mJ;cases h:Lib.atoiAll s.data.toList with
 | ok v =>
  have hA:Calls Tryz.prog 273 #[.string s] w fun e w'=>e= .returned (.tuple #[.int .i64 v,.nilIface])/\Below w.heap.size w w' :=
   (Tryz.strconv_Atoi_ok s (by omega) v h w).mono fun e w' ⟨he,hw⟩=>⟨he,by
    rcases hw with rfl | ⟨t,rfl⟩
    ·exact Below.refl _ _
    ·exact Lib.bytesWorld_below w 5 t⟩
  by_cases hl:(ly s).size<=18
  ·refine (zA s v w hA hl ?_ ?_ hE.tab).mono fun e w' ⟨he,hb⟩=>⟨by rw [he];simp [hl],hb⟩
   all_goals
    unfold Lib.atoiAll at h;split at h
    ·cases h
    ·simp only at h;split at h
     ·cases h
     ·cases h
     ·rename_i c r _ u hu;have:=Lib.parseMag_lt hu;split at h
      ·cases h
      ·split at h
       ·cases h
       ·injection h with h
        subst h;split<;>omega
  ·exact (wc s v w hA (by omega)).mono fun e w' ⟨he,hb⟩=>⟨by rw [he];simp [hl],hb⟩
 | range =>
  obtain ⟨tp,p,h1⟩:=hE.ran;exact re s _ 0 w w ((Tryz.strconv_Atoi_range_var s hs h tp p w h1).mono fun e w' ⟨N,he,_,_,hb⟩=>⟨N,he,hb⟩)
 | _ =>
  obtain ⟨tp,p,h1⟩:=hE.syn;exact re s 0 0 w w ((Any.strconv_Atoi_syntax_var Tryz.laysC172 s hs h tp p w h1).mono fun e w' ⟨N,he,_,_,hb⟩=>⟨N,he,hb⟩)
def pd (c:UInt8):Bool:=decide (48<=c.toNat/\c.toNat<=57)
def ko (a:Nat) (r:List UInt8):Nat:=r.foldl (fun a c=>a * 10+(c.toNat - 48)) a
theorem Au (a:Nat):ko a []=a:=rfl
theorem jF (a:Nat) (c:UInt8) (r:List UInt8):ko a (c::r)=ko (a * 10+(c.toNat - 48)) r:=by unfold ko;rw [List.foldl_cons]
theorem py (c:UInt8):∀ (r:List UInt8) (a:Nat),ko a (r++[c])=ko a r * 10+(c.toNat - 48)
 | [],a=>rfl
 | x::r,a=>by rw [cN,jF,jF,py c r]
theorem ue:∀ (r:List UInt8) (a:Nat),a<=ko a r
 | [],a=>al _
 | c::r,a=>by
  have:=ue r (a * 10+(c.toNat - 48));rw [jF];omega
theorem ym:∀ (r:List UInt8) (a:Nat),r.all pd=true->ko a r < (a+1) * 10 ^ r.length
 | [],a,_=>by simp [Au]
 | c::r,a,h=>by
  simp only [List.all_cons,ag] at h;have hc:=ai h.1;have:=ym r (a * 10+(c.toNat - 48)) h.2;rw [jF,aT,Nat.pow_succ];refine eT this ?_;rw [Nat.mul_comm (10 ^ r.length) 10,<- Nat.mul_assoc];exact bw _ (by omega)
theorem vz (c:UInt8) (r:List UInt8) (h:49<=c.toNat):1<=ko 0 (c::r):=by
 have:=ue r (0 * 10+(c.toNat - 48));rw [jF];omega
theorem za (c:UInt8) (h:48<=c.toNat):UInt8.ofNat (48+(c.toNat - 48))=c:=by
 rw [Nat.add_sub_cancel' h];simp
theorem BR (n:Nat):∀ r:List UInt8,r.length=n->r≠[]->r.all pd=true->(r.head?≠some 48\/r=[48])->Lib.decDigits (ko 0 r)=r:=by
 induction n with
 | zero=>intro r hl hne;exact absurd (cI.1 hl) hne
 | succ n ih =>
  intro r hl hne hd hh;obtain ⟨r',c,rfl⟩:∃ r' c,r=r'++[c]:=⟨r.dropLast,r.getLast hne,(List.dropLast_concat_getLast hne).symm⟩
  rw [py];simp only [List.all_append,List.all_cons,List.all_nil,Bool.and_true,ag] at hd;have hc:=ai hd.2;cases r' with
  | nil =>
   rw [show ko 0 []=0 from rfl,Nat.zero_mul,aW,Lib.decDigits_one (by omega),za c hc.1];rfl
  | cons x s =>
   have hx:x≠48:=by
    rcases hh with h | h
    ·simpa using h
    ·simp at h
   have hxd:pd x=true:=by
    have:=hd.1;simp only [List.all_cons,ag] at this;exact this.1
   have hx2:=ai hxd;have hx3:x.toNat≠48:=fun e=>hx (UInt8.toNat_inj.1 (by rw [e];rfl))
   have hp:=vz x s (by omega);have:=ih (x::s) (by simp at hl ⊢;omega) (by simp) hd.1 (.inl (by simpa using hx));generalize ko 0 (x::s)=v at hp this ⊢;rw [Lib.decDigits,dif_neg (by omega),show (v * 10+(c.toNat - 48)) / 10=v by omega,show (v * 10+(c.toNat - 48)) % 10=c.toNat - 48 by omega,this,za c hc.1]
theorem tT (u:Nat):(Lib.decDigits u).all pd=true/\Lib.decDigits u≠[]/\((Lib.decDigits u).head?=some 48->u=0):=by
 induction u using Nat.strongRecOn with
 | _ u ih =>
  by_cases h:u < 10
  ·rw [Lib.decDigits_one h];have hb:(UInt8.ofNat (48+u)).toNat=48+u:=by
    rw [UInt8.toNat_ofNat'];omega
   refine ⟨?_,by simp,?_⟩
   ·simp only [List.all_cons,List.all_nil,Bool.and_true];exact aR (by omega)
   ·intro e;have e:UInt8.ofNat (48+u)=48:=by simpa using e
    have:=congrArg UInt8.toNat e;rw [hb] at this;have h48:(48:UInt8).toNat=48:=rfl;omega
  ·obtain ⟨h1,h2,h3⟩:=ih (u / 10) (by omega);rw [Lib.decDigits,dif_neg h];have hb:(UInt8.ofNat (48+u % 10)).toNat=48+u % 10:=by
    rw [UInt8.toNat_ofNat'];omega
   refine ⟨?_,by simp,?_⟩
   ·rw [List.all_append,h1];simp only [List.all_cons,List.all_nil,Bool.and_true,Bool.true_and];exact aR (by omega)
   ·intro e;obtain ⟨x,s,hs⟩:=List.exists_cons_of_ne_nil h2;rw [hs] at e h3;have:=h3 (by simpa using e);omega
theorem qT:∀ (r:List UInt8) (a:Nat),r.all pd=true->ko a r < 1000000000000000000->Lib.parseUint10 a r= .ok (ko a r)
 | [],a,_,_=>rfl
 | c::r,a,h,hv=>by
  simp only [List.all_cons,ag] at h;have hc:=ai h.1;rw [jF] at hv ⊢;have hg:=ue r (a * 10+(c.toNat - 48));rw [Lib.parseUint10,aj hc,ab (by omega),ab (by omega)];exact qT r _ h.2 hv
def iC (neg:Bool) (r:List UInt8):Bool:=decide (r≠[])&&decide (r.length<=18)&&(decide (r.head?≠some 48) || (decide (r.length=1)&&!neg))&&r.all pd
theorem toList_eq (a b:ByteArray):(a.toList == b.toList)=true↔a.data.toList=b.data.toList:=by
 rw [Lib.toList_data,Lib.toList_data];simp
theorem vD (t:ByteArray) (r:List UInt8) (h:t.data.toList=45::r):(ly t).size=r.length:=by
 unfold ly;rw [h];simp [Lib.trimPrefix,Lib.hasPrefix,ByteArray.size]
theorem Aw (t:ByteArray) (h:t.data.toList.head?≠some 45):(ly t).size=t.data.toList.length:=by
 unfold ly;generalize t.data.toList=l at h;cases l with
 | nil=>simp [Lib.trimPrefix,Lib.hasPrefix,ByteArray.size]
 | cons c r =>
  have:c≠45:=by simpa using h
  simp [Lib.trimPrefix,Lib.hasPrefix,ByteArray.size,Ne.symm this]
theorem tV {neg:Bool} {r:List UInt8} (h:iC neg r=true):r≠[]/\r.length<=18/\r.all pd=true/\ko 0 r < 1000000000000000000/\(r.head?≠some 48\/r=[48])/\(neg=true->1<=ko 0 r):=by
 unfold iC at h;simp only [ag,Bool.or_eq_true,ak,ey] at h;obtain ⟨⟨⟨h1,h2⟩,h3⟩,h4⟩:=h;have hv:=ym r 0 h4;have hp:10 ^ r.length<=10 ^ 18:=Nat.pow_le_pow_right (by decide) h2;refine ⟨h1,h2,h4,by omega,?_,?_⟩
 ·rcases h3 with h | ⟨h,_⟩
  ·exact .inl h
  ·obtain ⟨c,rfl⟩:=List.length_eq_one_iff.1 h;by_cases hc:c=48
   ·subst hc;exact .inr rfl
   ·exact .inl (by simpa using hc)
 ·intro hn;rcases h3 with h | ⟨_,h⟩
  ·obtain ⟨c,s,rfl⟩:=List.exists_cons_of_ne_nil h1;simp only [List.all_cons,ag] at h4;have hc:=ai h4.1;have hx:c.toNat≠48:=fun e=>h (by rw [List.head?_cons,UInt8.toNat_inj.1 (by rw [e];rfl:c.toNat=(48:UInt8).toNat)])
   exact vz c s (by omega)
  ·rw [hn] at h;cases h
theorem tW (u:Nat) (neg:Bool) (hl:(Lib.decDigits u).length<=18) (hn:neg=true->1<=u):iC neg (Lib.decDigits u)=true:=by
 obtain ⟨h1,h2,h3⟩:=tT u;unfold iC;simp only [ag,Bool.or_eq_true,ak,ey];refine ⟨⟨⟨h2,hl⟩,?_⟩,h1⟩;by_cases h:(Lib.decDigits u).head?=some 48
 ·have h0:=h3 h;subst h0;refine .inr ⟨by rw [Lib.decDigits_one (by omega)];rfl,?_⟩;cases neg with
  | false=>rfl
  | true=>have:=hn rfl;omega
 ·exact .inl h
theorem A3 (t:ByteArray) (r:List UInt8) (h:t.data.toList=45::r):(mJ t).2=iC true r/\(iC true r=true->(mJ t).1= -(ko 0 r:Int)):=by
 by_cases hc:iC true r=true
 ·obtain ⟨h1,h2,h3,h4,h5,h6⟩:=tV hc;have hA:Lib.atoiAll t.data.toList= .ok (-(ko 0 r:Int)):=by
   rw [h];simp only [Lib.atoiAll];rw [aj (.inr rfl),Lib.parseMag,ab h1,qT r 0 h3 h4];simp only;rw [ab (fun h=>h.1 rfl),ab (by omega),aj (show UInt8.toNat 45=45 from rfl)]
  unfold mJ;rw [hA,hc];refine ⟨?_,fun _=>rfl⟩;simp only [ag,ak];refine ⟨by rw [vD t r h];exact h2,(toList_eq _ _).2 ?_⟩;rw [h];show (pH _).data.toList=_;unfold pH;rw [Lib.itoa_neg _ (h6 rfl),BR _ r rfl h1 h3 h5]
 ·refine ⟨?_,fun e=>absurd e hc⟩;rw [Bool.eq_false_iff.2 hc];cases hb:(mJ t).2 with
  | false=>rfl
  | true =>
   exfalso;apply hc;unfold mJ at hb;split at hb
   ·rename_i v hv;simp only [ag,ak] at hb;rw [vD t r h] at hb;have he:=(toList_eq _ _).1 hb.2;rw [h] at he
    change Lib.itoa v=45::r at he
    unfold Lib.itoa at he;split at he
    ·injection he with _ he
     rw [<- he];exact tW _ true (by rw [he];exact hb.1) (fun _=>by omega)
    ·obtain ⟨h1,_,_⟩:=tT v.toNat;rw [he] at h1;simp only [List.all_cons,ag] at h1;exact absurd h1.1 (by decide)
   ·cases hb
   ·cases hb
theorem we (t:ByteArray) (h:t.data.toList.head?≠some 45):(mJ t).2=iC false t.data.toList/\(iC false t.data.toList=true->(mJ t).1=(ko 0 t.data.toList:Int)):=by
 have htr:=Aw t h;by_cases hc:iC false t.data.toList=true
 ·obtain ⟨h1,h2,h3,h4,h5,h6⟩:=tV hc;have hA:Lib.atoiAll t.data.toList= .ok (ko 0 t.data.toList:Int):=by
   obtain ⟨c,s,hs⟩:=List.exists_cons_of_ne_nil h1;rw [hs] at h h1 h3 h4 ⊢;have hcd:pd c=true:=by
    simp only [List.all_cons,ag] at h3;exact h3.1
   have hcd:=ai hcd;simp only [Lib.atoiAll];rw [ab (by omega),Lib.parseMag,ab h1,qT _ 0 h3 h4];simp only;rw [ab (by omega),ab (by omega),ab (by omega)]
  unfold mJ;rw [hA,hc];refine ⟨?_,fun _=>rfl⟩;simp only [ag,ak];refine ⟨by rw [htr];exact h2,(toList_eq _ _).2 ?_⟩;show (pH _).data.toList=_;unfold pH;rw [Lib.itoa_nonneg,BR _ _ rfl h1 h3 h5]
 ·refine ⟨?_,fun e=>absurd e hc⟩;rw [Bool.eq_false_iff.2 hc];cases hb:(mJ t).2 with
  | false=>rfl
  | true =>
   exfalso;apply hc;unfold mJ at hb;split at hb
   ·rename_i v hv;simp only [ag,ak] at hb;rw [htr] at hb;have he:=(toList_eq _ _).1 hb.2
    change Lib.itoa v=t.data.toList at he
    unfold Lib.itoa at he;split at he
    ·rw [<- he] at h;exact absurd rfl h
    ·rw [<- he];exact tW _ false (by rw [he];exact hb.1) (fun e=>by cases e)
   ·cases hb
   ·cases hb
theorem CW:∀ l:List UInt8,(mJ ⟨l.toArray⟩).2=dD l/\(dD l=true->(mJ ⟨l.toArray⟩).1=jt l):=by
 have hd:∀ c:UInt8,pd c=dk c.toNat:=by
  intro c;unfold pd dk;exact decide_eq_decide.2 (by omega)
 have hdf:(fun c:UInt8=>dk c.toNat)=pd:=funext fun c=>(hd c).symm
 intro l;cases l with
 | nil=>exact ⟨(we ⟨#[]⟩ (by simp)).1.trans (by decide),fun h=>by simp [dD,gr] at h⟩
 | cons c r =>
  by_cases hc:c=45
  ·subst hc;obtain ⟨h1,h2⟩:=A3 ⟨(45::r).toArray⟩ r (by simp);have e:iC true r=dD (45::r):=by
    simp only [dD,iC,gr,hdf];rw [show decide (1<=r.length/\r.length<=18)=(decide (1<=r.length)&&decide (r.length<=18)) from by simp,show decide (r≠[])=decide (1<=r.length) from decide_eq_decide.2 (by cases r<;>simp)];generalize decide (1<=r.length)=a;generalize decide (r.length<=18)=b;generalize decide (r.head?≠some 48)=c1;generalize decide (r.length=1)=d;generalize r.all pd=f;cases a<;>cases b<;>cases c1<;>cases d<;>cases f<;>rfl
   exact ⟨h1.trans e,fun h=>h2 (e.trans h)⟩
  ·obtain ⟨h1,h2⟩:=we ⟨(c::r).toArray⟩ (by simpa using hc);have e0:dD (c::r)=gr (c::r):=by
    unfold dD;split
    ·rename_i e;simp only [List.cons.injEq] at e;exact absurd e.1 hc
    ·rfl
   have e1:jt (c::r)=oC (c::r):=by
    unfold jt;split
    ·rename_i e;simp only [List.cons.injEq] at e;exact absurd e.1 hc
    ·rfl
   have e:iC false (c::r)=dD (c::r):=by
    rw [e0];simp only [iC,gr,hdf];rw [show decide (1<=(c::r).length/\(c::r).length<=18)=(decide (1<=(c::r).length)&&decide ((c::r).length<=18)) from by simp,show decide ((c::r)≠[])=decide (1<=(c::r).length) from decide_eq_decide.2 (by simp)];generalize decide (1<=(c::r).length)=a;generalize decide ((c::r).length<=18)=b;generalize decide ((c::r).head?≠some 48)=c1;generalize decide ((c::r).length=1)=d;generalize (c::r).all pd=f;cases a<;>cases b<;>cases c1<;>cases d<;>cases f<;>rfl
   rw [e1];exact ⟨h1.trans e,fun h=>h2 (e.trans h)⟩
end Go.Proofs.YtggoiofammbchaaGreatDoor.Loc
