/-
  Part 12 of the proof: what the machine does and what the functions answer.
  Conditions: those that each lemma names.
-/
import Derived.Test.YtihmlbdfcmfbdaaGreatSGzA4K
set_option linter.unusedSimpArgs false
set_option linter.unusedVariables false
set_option maxRecDepth 100000
namespace Gv
open Go Go.Proofs
def zm:List Au→Int→Int
  | [],_=>-1
  | e :: l,s=>if e.sym=s then e.to else zm l s
def E1 (a:List en):Int→List Int→Int × Bool
  | at_,[]=>(at_,true)
  | at_,s :: l=>if 0≤zm (a.getD at_.toNat Hd).fN s∧zm (a.getD at_.toNat Hd).fN s < a.length then E1 a (zm (a.getD at_.toNat Hd).fN s) l else (0,false)
def Ia (a:List en) (at_:Int) (l:List Int):Int × Bool:=if at_ < 0∨(a.length:Int)≤at_ then (0,false) else E1 a at_ l
abbrev Sets:=List (List BV)
def sf (ss:Sets) (i k:Nat):BV:=(ss.getD i []).getD k 0
def CO (ls:List (List cG)) (ss:Sets):Prop:=ss.length=ls.length∧∀ i:Nat,(ss.getD i []).length=(ls.getD i []).length
def tA (a b:Sets):Prop:=a.length=b.length∧(∀ i:Nat,(a.getD i []).length=(b.getD i []).length)∧∀ i k,KF (sf a i k) (sf b i k)
theorem tA.refl {a:Sets} : tA a a:=⟨rfl,fun _=>rfl,fun _ _ _ h=>h⟩
theorem tA.trans {a b c:Sets} (h:tA a b) (k:tA b c):tA a c:=⟨h.1.trans k.1,fun i=>(h.2.1 i).trans (k.2.1 i),fun i j t ht=>k.2.2 i j t (h.2.2 i j t ht)⟩
theorem tA.Em {a b:Sets} (h:tA a b) (k:tA b a):a=b:=by
  refine List.ext_getElem h.1 fun i h1 h2=>?_
  have e1:a.getD i []=a[i]:=by simp[List.getD_eq_getElem?_getD,h1]
  have e2:b.getD i []=b[i]:=by simp[List.getD_eq_getElem?_getD,h2]
  refine List.ext_getElem (by rw[← e1,← e2]; exact h.2.1 i) fun j h3 h4=>?_
  have g1:sf a i j=a[i][j]:=by rw[sf,e1]; simp[List.getD_eq_getElem?_getD,h3]
  have g2:sf b i j=b[i][j]:=by rw[sf,e2]; simp[List.getD_eq_getElem?_getD,h4]
  rw[← g1,← g2]
  refine JD fun t _=>?_
  have p:=h.2.2 i j t
  have q:=k.2.2 i j t
  cases hx:(sf a i j).getLsbD t with
  | true=>rw[p hx]
  | false =>
    cases hy:(sf b i j).getLsbD t with
    | false=>rfl
    | true=>rw[q hy] at hx; exact absurd hx (by simp)
theorem CO.le {ls:List (List cG)} {a b:Sets} (h:CO ls a) (k:tA a b):CO ls b:=⟨k.1.symm.trans h.1,fun i=>(k.2.1 i).symm.trans (h.2 i)⟩
theorem CO.eq {ls:List (List cG)} {a b:Sets} (h:CO ls a) (k:CO ls b):a.length=b.length∧∀ i:Nat,(a.getD i []).length=(b.getD i []).length:=⟨h.1.trans k.1.symm,fun i=>(h.2 i).trans (k.2 i).symm⟩
def Ji (g:ao) (x:cG):List Int:=if 0≤x.aT then (Eo g x.aT).right.drop (x.dot+1).toNat else []
inductive AN (g:ao) (null:List Bool) (a:List en) (ls:List (List cG)):Nat→cG→Nat→Prop
  | start:(⟨-1,0⟩:cG)∈ls.getD 0 []→AN g null a ls 0 ⟨-1,0⟩ g.az.length
  | move {i:Nat} {x:cG} {t:Nat} {s:Int} : AN g null a ls i x t→mz g x=(s,true)→(⟨x.aT,x.dot+1⟩:cG)∈ls.getD (Ia a i [s]).1.toNat []→AN g null a ls (Ia a i [s]).1.toNat ⟨x.aT,x.dot+1⟩ t
  | begin {i:Nat} {x:cG} {t u:Nat} {s:Int} {k:Nat} : AN g null a ls i x t→mz g x=(s,true)→s < 0→k < g.rules.length→(Eo g k).left = -1 - s→(⟨k,0⟩:cG)∈ls.getD i [] →
      (JZ null (JH g null) (BitVec.twoPow 32 t) (Ji g x)).getLsbD u=true→AN g null a ls i ⟨k,0⟩ u
theorem AN.mem {g:ao} {null:List Bool} {a:List en} {ls:List (List cG)} {i:Nat} {x:cG} {t:Nat} (h:AN g null a ls i x t):x∈ls.getD i []:=by
  cases h <;> assumption
section
variable {g:ao} {null:List Bool} {a:List en} {ls:List (List cG)}
end
structure gf where
  aT:Int
  set:BV
  deriving DecidableEq
structure Lx where
  state:Int
  term:Int
  kind:Int
  aT:Int
  other:Int
  deriving DecidableEq
def hasB (s:BV) (n:Int):Bool:=decide (s &&& mG n≠0)
def ed (l:List gf) (n:Int):List Int:=(l.filter fun x=>hasB x.set n).map gf.aT
structure eY (g:ao) (at_ i:Nat) (out:List en):Prop where
  jG:∀ s∈out,ld s.jG∧s.jG≠[]∧∀ x∈s.jG,iy g x
  fN:∀ j s,out[j]?=some s→s.fN.length≤40∧(j=at_→s.fN.length≤i)∧(at_ < j→s.fN=[])
  to:∀ s∈out,∀ e∈s.fN,0≤e.to∧e.to < out.length
  sym:∀ s∈out,∀ e∈s.fN,-1000≤e.sym∧e.sym≤1000
theorem mem_modify {α:Type} {l:List α} {i:Nat} {f:α→α} {y:α} (h:y∈l.modify i f):y∈l∨∃ x,l[i]?=some x∧y=f x:=by
  obtain ⟨j,hj,e⟩:=List.mem_iff_getElem.1 h
  simp only[List.length_modify] at hj
  rw[List.getElem_modify] at e
  split at e
  · rename_i hij
    subst hij
    exact .inr ⟨l[i],List.getElem?_eq_getElem hj,e.symm⟩
  · exact .inl (e ▸ List.getElem_mem hj)
theorem FO (g:ao) (l:List cG) (at_:Nat) (out:List en) (i:Nat):out.length≤(lS g l at_ out i).length∧(lS g l at_ out i).length≤out.length+1:=by
  unfold lS
  split
  · omega
  · split
    · simp
    · simp
theorem eY.put {g:ao} {at_ i:Nat} {out:List en} (h:eY g at_ i out) (hi:i < 40) {s:Int} (hs : -1000≤s∧s≤1000) {to:Int} (ht:0≤to∧to < out.length):eY g at_ (i+1) (out.modify at_ fun x=>(⟨x.jG,x.fN ++ [⟨s,to⟩]⟩:en)):=by
  refine ⟨fun y hy=>?_,fun j y hy=>?_,fun y hy e he=>?_,fun y hy e he=>?_⟩
  rotate_right
  · rcases mem_modify hy with hy | ⟨x,hx,rfl⟩
    · exact h.sym y hy e he
    · rcases List.mem_append.1 he with he | he
      · exact h.sym x (List.mem_of_getElem? hx) e he
      · simp at he; subst he; exact hs
  · rcases mem_modify hy with hy | ⟨x,hx,rfl⟩
    · exact h.jG y hy
    · exact h.jG x (List.mem_of_getElem? hx)
  · rw[List.getElem?_modify] at hy
    cases hx:out[j]? with
    | none=>rw[hx] at hy; simp at hy
    | some x =>
      rw[hx] at hy
      have h1:=h.fN j x hx
      by_cases e:at_=j
      · subst e
        simp at hy
        subst hy
        have:=h1.2.1 rfl
        refine ⟨by simp; omega,fun _=>by simp; omega,fun h=>by omega⟩
      · simp[e] at hy
        subst hy
        exact ⟨h1.1,fun h=>absurd h.symm e,h1.2.2⟩
  · rw[List.length_modify]
    rcases mem_modify hy with hy | ⟨x,hx,rfl⟩
    · exact h.to y hy e he
    · rcases List.mem_append.1 he with he | he
      · exact h.to x (List.mem_of_getElem? hx) e he
      · simp at he; subst he; exact ht
theorem eY.up {g:ao} {at_ i:Nat} {out:List en} (h:eY g at_ i out):eY g at_ (i+1) out :=
  ⟨h.jG,fun j s hs=>by have:=h.fN j s hs; exact ⟨this.1,fun e=>by have:=this.2.1 e; omega,this.2.2⟩,h.to,h.sym⟩
theorem eY.add {g:ao} {at_ i:Nat} {out:List en} (h:eY g at_ i out) {k:List cG} (hk:ld k∧k≠[]∧∀ x∈k,iy g x):eY g at_ i (out ++ [⟨k,[]⟩]):=by
  refine ⟨fun y hy=>?_,fun j y hy=>?_,fun y hy e he=>?_,fun y hy e he=>?_⟩
  rotate_right
  · rcases List.mem_append.1 hy with hy | hy
    · exact h.sym y hy e he
    · simp at hy; subst hy; simp at he
  · rcases List.mem_append.1 hy with hy | hy
    · exact h.jG y hy
    · simp at hy; subst hy; exact hk
  · rcases Nat.lt_or_ge j out.length with hj | hj
    · rw[List.getElem?_append_left hj] at hy; exact h.fN j y hy
    · rw[List.getElem?_append_right hj] at hy
      cases hq:j - out.length with
      | zero=>rw[hq] at hy; simp at hy; subst hy; exact ⟨by simp,fun _=>by simp,fun _=>rfl⟩
      | succ q=>rw[hq] at hy; simp at hy
  · rcases List.mem_append.1 hy with hy | hy
    · have:=h.to y hy e he; simp; omega
    · simp at hy; subst hy; simp at he
theorem eY.step {g:ao} {l:List cG} (hs:ld l) (hl:∀ x∈l,iy g x) {at_ i:Nat} {out:List en} (h:eY g at_ i out) (hi:i < 40):eY g at_ (i+1) (lS g l at_ out i):=by
  unfold lS
  split
  · exact h.up
  · rename_i hne
    have hb : -1000≤ou g i∧ou g i≤1000:=by unfold ou; split <;> omega
    split
    · exact (h.add ⟨Fg _ hs,hne,Hb hl⟩).put hi hb (by simp; omega)
    · have:=AI out (nW g l (ou g i))
      exact h.put hi hb ⟨by omega,this⟩
theorem eY.next {g:ao} {at_ i:Nat} {out:List en} (h:eY g at_ i out):eY g (at_+1) 0 out :=
  ⟨h.jG,fun j s hs=>by
    have:=h.fN j s hs
    exact ⟨this.1,fun e=>by have:=this.2.2 (by omega); simp[this],fun e=>this.2.2 (by omega)⟩,h.to,h.sym⟩
theorem eY.row {g:ao} {l:List cG} (hs:ld l) (hl:∀ x∈l,iy g x) {at_:Nat} {out:List en} (h:eY g at_ 0 out):∀ n:Nat,n≤40→eY g at_ n ((List.range n).foldl (lS g l at_) out)∧out.length≤((List.range n).foldl (lS g l at_) out).length∧((List.range n).foldl (lS g l at_) out).length≤out.length+n
  | 0,_=>⟨h,Nat.le_refl _,Nat.le_refl _⟩
  | n+1,hn=>by
    obtain ⟨h1,h2,h3⟩:=eY.row hs hl h n (by omega)
    rw[List.range_succ,List.foldl_append]
    simp only[List.foldl_cons,List.foldl_nil]
    have:=FO g l at_ ((List.range n).foldl (lS g l at_) out) n
    exact ⟨h1.step hs hl (by omega),by omega,by omega⟩
structure Ko (g:ao) (a:List en):Prop where
  jG:∀ s∈a,ld s.jG∧s.jG≠[]∧∀ x∈s.jG,iy g x
  fN:∀ s∈a,s.fN.length≤40
  to:∀ s∈a,∀ e∈s.fN,0≤e.to∧e.to < a.length
  sym:∀ s∈a,∀ e∈s.fN,-1000≤e.sym∧e.sym≤1000
theorem eY.ok {g:ao} {at_ i:Nat} {out:List en} (h:eY g at_ i out):Ko g out :=
  ⟨h.jG,fun s hs=>by obtain ⟨j,hj,e⟩:=List.mem_iff_getElem.1 hs; exact (h.fN j s (by rw[List.getElem?_eq_getElem hj,e])).1,h.to,h.sym⟩
def Lu (l:List Au):List (List V):=l.map Kj
def Kc (s:en):List V:=[.aF (Kq s.jG),.aF (Lu s.fN)]
def JO (a:List en):V:=.aF (a.map Kc)
abbrev gw (s:BV):V:=.val (.int .u32 s.toNat)
abbrev kM (l:List BV):List (List V):=l.map fun x=>[gw x]
theorem DX {x:Int} (h1:0≤x) (h2:x < 4294967296):IntKind.wrap .u32 x=x:=by
  unfold IntKind.wrap
  have e1:(2:Int) ^ IntKind.u32.bits=4294967296:=by rfl
  have e3:IntKind.u32.signed=false:=by rfl
  simp only[e1,e3,Bool.false_and,decide_eq_true_eq]
  simp
  omega
theorem J7 (s:BV):IntKind.wrap .u32 (s.toNat:Int)=s.toNat:=DX (by omega) (by have:=s.isLt; omega)
theorem FJ (s:BV):BitVec.ofInt IntKind.u32.bits (s.toNat:Int)=s:=by
  show BitVec.ofInt 32 (s.toNat:Int)=s
  rw[BitVec.ofInt_natCast,BitVec.ofNat_toNat,BitVec.setWidth_eq]
theorem Iu (s t:BV):IntKind.wrap .u32 ((BitVec.ofInt IntKind.u32.bits (s.toNat:Int) &&& BitVec.ofInt IntKind.u32.bits (t.toNat:Int)).toNat:Int)=((s &&& t).toNat:Int):=by
  rw[FJ,FJ]; exact J7 (s &&& t)
theorem toNat_zero {s:BV} : ((s.toNat:Nat):Int)=0↔s=0:=by
  constructor
  · intro h; exact BitVec.eq_of_toNat_eq (by simpa using h)
  · rintro rfl; rfl
def jQ:SC :=
  .seq (.seq (ar [aa 11 4,aa 12 0,aM 13 .lss 11 12]) <|
  .cond (.tmp 13) (.skip) (.exit 0)) <|
  .seq (.block 1 (ar [aa 16 3,((some 17),.op (.arith .mul (.tmp 16) (.val (.val (.int .u32 2))))),aa 3 17])) <|
  ar [aa 14 4,av 15 .add 14 1,aa 4 15]
def lI:SF:=⟨.seq (ar [((some 2),.op (.aX (.val (.val (.int .u32 0)))))]) <|
  .seq (.seq (.region false [⟨none,[aa 5 0,av 6 .lss 5 0,aa 7 6]⟩,⟨(some (7,false)),[aa 8 0,av 9 .gtr 8 31]⟩,⟨none,[bU 10 7 9]⟩]) <|
  .cond (.tmp 10) (.seq (ar [((some 2),.op (.aX (.val (.val (.int .u32 0)))))]) <|
  .ret) (.skip)) <|
  .seq (ar [((some 3),.op (.aX (.val (.val (.int .u32 1)))))]) <|
  .seq (.seq (ar [aA 4 0]) <|
  .block 0 (.loop jQ)) <|
  .seq (ar [aa 18 3,aa 2 18]) <|
  .ret,
  [.tmp 2],19⟩
theorem qm:bm Tryz.prog 77 []=some lI:=by kernel_rfl
def lK:SF:=⟨.seq (ar [bd 4 false]) <|
  .seq (ar [aa 5 0,aa 6 1,aD 7 77 [6],aM 8 .and 5 7,((some 9),.op (.arith .neq (.tmp 8) (.val (.val (.int .u32 0))))),aa 4 9]) <|
  .ret,
  [.tmp 4],10⟩
theorem qq:bm Tryz.prog 80 []=some lK:=by kernel_rfl
theorem zV {n:Int} (h:0≤n∧n≤31):(mG n).toNat=2 ^ n.toNat:=by
  rw[mG,if_pos h,BitVec.toNat_twoPow]
  exact Nat.mod_eq_of_lt (Nat.pow_lt_pow_right (by omega) (by omega))
theorem HG (n:Int):aC Tryz.prog 77 [gi n] (gw (mG n)):=by
  refine aC.val (by intro v hv; simp at hv; subst hv; exact .val _) fun H=>?_
  refine aH.of mixed qm ?_
  simp (disch:=omega) only [↓wr,↓reduceIte,wq,ai,ah,an,ab,af,ag,aj,isNil,Nat.reduceEqDiff,Nat.reduceAdd,Nat.reduceLT,Nat.reduceLeDiff,Int.reduceNeg,Int.reduceToNat,reduceCtorEq,lI]
  have bad:¬ (0≤n∧n≤31)→mG n=0:=fun h=>by rw[mG,if_neg h]
  refine ay.dec (fun h1=>?_) (fun h1=>?_)
  · simp (disch:=omega) only [↓wr,↓reduceIte,wq,ai,ah,an,ab,af,ag,aj,isNil,Nat.reduceEqDiff,Nat.reduceAdd,Nat.reduceLT,Nat.reduceLeDiff,Int.reduceNeg,Int.reduceToNat,reduceCtorEq]
    rw[bad (by omega)]; rfl
  simp (disch:=omega) only [↓wr,↓reduceIte,wq,ai,ah,an,ab,af,ag,aj,isNil,Nat.reduceEqDiff,Nat.reduceAdd,Nat.reduceLT,Nat.reduceLeDiff,Int.reduceNeg,Int.reduceToNat,reduceCtorEq]
  refine ay.dec (fun h2=>?_) (fun h2=>?_)
  · simp (disch:=omega) only [↓wr,↓reduceIte,wq,ai,ah,an,ab,af,ag,aj,isNil,Nat.reduceEqDiff,Nat.reduceAdd,Nat.reduceLT,Nat.reduceLeDiff,Int.reduceNeg,Int.reduceToNat,reduceCtorEq]
    rw[bad (by omega)]; rfl
  simp (disch:=omega) only [↓wr,↓reduceIte,wq,ai,ah,an,ab,af,ag,aj,isNil,Nat.reduceEqDiff,Nat.reduceAdd,Nat.reduceLT,Nat.reduceLeDiff,Int.reduceNeg,Int.reduceToNat,reduceCtorEq]
  refine cH.up n.toNat (fun i T H'=>T 0=gi n∧T 3=.val (.int .u32 ((2 ^ i:Nat):Int))∧T 4=gi i) ⟨rfl,rfl,rfl⟩ ?_
  rintro i k T H' hk ⟨t0,t3,t4⟩
  simp (disch:=omega) only [↓wr,↓reduceIte,wq,ai,ah,an,ab,af,ag,aj,isNil,Nat.reduceEqDiff,Nat.reduceAdd,Nat.reduceLT,Nat.reduceLeDiff,Int.reduceNeg,Int.reduceToNat,reduceCtorEq,jQ,t0,t3,t4]
  refine ay.dec (fun hc=>?_) (fun hc=>?_)
  · have h31:2 ^ (i+1)≤2 ^ 31:=Nat.pow_le_pow_right (by omega) (by omega)
    have e:2 ^ (i+1)=2 ^ i * 2:=Nat.pow_succ _ _
    have hw:IntKind.wrap .u32 (((2 ^ i:Nat):Int) * 2)=((2 ^ (i+1):Nat):Int):=by
      rw[e,Int.natCast_mul]
      exact DX (by omega) (by omega)
    simp (disch:=omega) only [↓wr,↓reduceIte,wq,ai,ah,an,ab,af,ag,aj,isNil,Nat.reduceEqDiff,Nat.reduceAdd,Nat.reduceLT,Nat.reduceLeDiff,Int.reduceNeg,Int.reduceToNat,reduceCtorEq,t0,t3,t4,hw]
    exact bO hk (by omega) ⟨t0,rfl,rfl⟩
  · simp (disch:=omega) only [↓wr,↓reduceIte,wq,ai,ah,an,ab,af,ag,aj,isNil,Nat.reduceEqDiff,Nat.reduceAdd,Nat.reduceLT,Nat.reduceLeDiff,Int.reduceNeg,Int.reduceToNat,reduceCtorEq,t0,t3,t4]
    rw[zV (by omega),show i=n.toNat by omega]
theorem HI (s:BV) (n:Int):aC Tryz.prog 80 [gw s,gi n] (gb (hasB s n)):=by
  refine aC.val (by
    intro v hv; simp at hv
    rcases hv with rfl | rfl <;> exact .val _) fun H=>?_
  refine aH.of mixed qq ?_
  simp (disch:=omega) only [↓wr,↓reduceIte,wq,ai,ah,an,ab,af,ag,aj,isNil,Nat.reduceEqDiff,Nat.reduceAdd,Nat.reduceLT,Nat.reduceLeDiff,Int.reduceNeg,Int.reduceToNat,reduceCtorEq,lK]
  refine aJ.pure (HG n) (by kernel_rfl) ?_
  simp (disch:=omega) only [↓wr,↓reduceIte,wq,ai,ah,an,ab,af,ag,aj,isNil,Nat.reduceEqDiff,Nat.reduceAdd,Nat.reduceLT,Nat.reduceLeDiff,Int.reduceNeg,Int.reduceToNat,reduceCtorEq,Iu]
  congr 2
  unfold hasB
  rw[Bool.eq_iff_iff]
  simp only[bne_iff_ne,ne_eq,decide_eq_true_eq,toNat_zero]
instance (g:ao) (x:cG):Decidable (iy g x):=by unfold iy; infer_instance
theorem xZ {α:Type} {l:List α} {p:α→Bool} {i:Nat} {x:α} (h:l[i]?=some x):(l.take (i+1)).filter p=if p x=true then (l.take i).filter p ++ [x] else (l.take i).filter p:=by
  rw[List.take_add_one,h,List.filter_append]
  split
  · rename_i hp; simp[hp]
  · rename_i hp; simp[hp]
def H7 (ls:List (List cG)):List (List V):=ls.map fun l=>[.aF (Kq l)]
def H0 (g:ao) (a:List en) (ul us:V) (more:Bool):List V:=[.aF (g.az.map cq),.aF (g.ax.map fun s=>[gs s]),.aF (g.rules.map bf),gi g.start,JO a,ul,us,gb more]
def uy:List V→Sets→List dz
  | v :: vs,s :: ss=>(v,1,kM s) :: uy vs ss
  | _,_=>[]
structure dX (H:View) (b:Nat) (g:ao) (a:List en) (ul us:V) (vs:List V) (ls:List (List cG)) (ss:Sets) (more:Bool) (L:List dz):Prop where
  len:vs.length=ss.length
  own:bj H ((.sl b 0 1 8,8,[H0 g a ul us more]) :: (ul,1,H7 ls) :: (us,1,vs.map fun v=>[v]) :: (uy vs ss ++ L))
theorem qw:∀ (vs:List V) (ss:Sets) (i:Nat) (v:V),vs.length=ss.length→vs[i]?=some v→∃ P Q,uy vs ss=P ++ (v,1,kM (ss.getD i [])) :: Q∧∀ r,uy vs (ss.set i r)=P ++ (v,1,kM r) :: Q
  | [],_,i,v,_,h=>by simp at h
  | x :: vs,[],i,v,h,_=>by simp at h
  | x :: vs,s :: ss,0,v,_,h=>by
    simp at h; subst h
    exact ⟨[],uy vs ss,rfl,fun r=>rfl⟩
  | x :: vs,s :: ss,i+1,v,hl,h=>by
    obtain ⟨P,Q,h1,h2⟩:=qw vs ss i v (by simpa using hl) (by simpa using h)
    refine ⟨(x,1,kM s) :: P,Q,?_,fun r=>?_⟩
    · simp[uy,h1]
    · simp[uy,h2]
section
variable {H:View} {b:Nat} {g:ao} {a:List en} {ul us:V} {vs:List V} {ls:List (List cG)} {ss:Sets} {more:Bool} {L:List dz}
theorem dX.box (h:dX H b g a ul us vs ls ss more L):H b=.arr 8 [H0 g a ul us more]:=h.own.is 0 rfl (by simp)
theorem dX.lists (h:dX H b g a ul us vs ls ss more L) (hl:0 < ls.length):∃ n,ul=.sl n 0 ls.length 1∧H n=.arr 1 (H7 ls):=by
  obtain ⟨n,h1,h2⟩:=(h.own.own 1 rfl).sl (by simpa [H7] using hl)
  exact ⟨n,by simpa [H7] using h1,h2⟩
theorem dX.fS (h:dX H b g a ul us vs ls ss more L) (hl:0 < ss.length):∃ n,us=.sl n 0 ss.length 1∧H n=.arr 1 (vs.map fun v=>[v]):=by
  obtain ⟨n,h1,h2⟩:=(h.own.own 2 rfl).sl (by simpa [h.len] using hl)
  exact ⟨n,by simpa [h.len] using h1,h2⟩
theorem dX.row (h:dX H b g a ul us vs ls ss more L) {i:Nat} {v:V} (hv:vs[i]?=some v):aV H v 1 (kM (ss.getD i [])):=by
  obtain ⟨P,Q,h1,_⟩:=qw vs ss i v h.len hv
  refine h.own.1 (v,1,kM (ss.getD i [])) (List.mem_cons_of_mem _ (List.mem_cons_of_mem _ (List.mem_cons_of_mem _ (List.mem_append_left _ ?_))))
  rw[h1]; simp
theorem AW {α:Type} {x y z e:α} {P Q L:List α} : (x :: y :: z :: ((P ++ e :: Q) ++ L)).Perm (e :: x :: y :: z :: ((P ++ Q) ++ L)):=by
  have h:((P ++ e :: Q) ++ L).Perm (e :: ((P ++ Q) ++ L)):=by
    simp
  exact (((h.cons z).cons y).cons x).trans (List.perm_middle (a:=e) (l₁:=[x,y,z]) (l₂:=(P ++ Q) ++ L))
theorem dX.put (h:dX H b g a ul us vs ls ss more L) {i n k:Nat} (hv:vs[i]?=some (.sl n 0 k 1)) {r:List BV} (hr:r.length=(ss.getD i []).length) (hk:k=(ss.getD i []).length):dX (H.set n (.arr 1 (kM r))) b g a ul us vs ls (ss.set i r) more L:=by
  obtain ⟨P,Q,h1,h2⟩:=qw vs ss i _ h.len hv
  refine ⟨by rw[List.length_set]; exact h.len,?_⟩
  have o:=h.own
  rw[h1] at o
  have o2:=(o.perm AW).put (es':=kM r) (by simp[hr]) (by simp[hk])
  rw[h2]
  exact o2.perm AW.symm
theorem dX.fresh (h:dX H b g a ul us vs ls ss more L) {n:Nat} {o:br} (hn:H n=.dead):dX (H.set n o) b g a ul us vs ls ss more L:=⟨h.len,h.own.fresh hn⟩
end
theorem Dc {α:Type} {x y z e:α} {Z L:List α} : (x :: y :: z :: (Z ++ e :: L)).Perm (e :: x :: y :: z :: (Z ++ L)) :=
  ((((List.perm_middle (a:=e) (l₁:=Z) (l₂:=L)).cons z).cons y).cons x).trans (List.perm_middle (a:=e) (l₁:=[x,y,z]) (l₂:=Z ++ L))
section
variable {H:View} {b:Nat} {g:ao} {a:List en} {ul us:V} {vs:List V} {ls:List (List cG)} {ss:Sets} {more:Bool} {L:List dz}
theorem dX.drop {e:dz} (h:dX H b g a ul us vs ls ss more (e :: L)):dX H b g a ul us vs ls ss more L :=
  ⟨h.len,(h.own.perm Dc).tail⟩
end
structure Lf (g:ao) (a:List en) (ls:List (List cG)):Prop where
  LD:g.Ok
  right:bz g=true
  len:ls.length=a.length
  Ly:1≤a.length
  short:a.length≤300
  fN:∀ s∈a,aU s.fN∧∀ e∈s.fN,cd e.sym∧cd e.to
  item:∀ l∈ls,l.length≤10000∧∀ x∈l,iy g x
theorem df.nil {H:View} {k:Nat} : df H (.emp k) (encI []):=fun _ _=>.emp k
section
variable {H:View} {b:Nat} {g:ao} {a:List en} {ul us:V} {vs:List V} {ls:List (List cG)} {ss:Sets} {more:Bool} {L:List dz}
theorem dX.emp (h:dX H b g a ul us vs ls ss more L) (k sz:Nat):dX H b g a ul us vs ls ss more ((.emp k,sz,[]) :: L):=⟨h.len,(h.own.emp (k:=k) (sz:=sz)).perm Dc.symm⟩
end
def sO (p:gf):List V:=[gi p.aT,gw p.set]
def mq (l:List gf):List (List V):=l.map sO
theorem xp (l:List gf):Tree (.aF (mq l)):=dZ _ _ fun x _ v hv=>by simp[sO] at hv; rcases hv with rfl | rfl <;> exact .val _
def iX:SC :=
  .seq (.seq (ar [aa 7 6,aa 8 0,aK 9 8,aM 10 .lss 7 9]) <|
  .cond (.tmp 10) (.skip) (.exit 0)) <|
  .seq (.block 1 (.seq (ar [aa 13 0,aa 14 6,aL 15 2 13 14,al 16 1 15,ak 17 16,aa 18 1,aD 19 80 [17,18]]) <|
  .cond (.tmp 19) (ar [aa 20 5,aa 21 0,aa 22 6,aL 23 2 21 22,al 24 0 23,ak 25 24,((some 26),.op (.bg 1 1 [(.val (.int .i64 0))] [(0,(.tmp 25))])),((some 27),.op (.app 1 8 (.tmp 20) (.tmp 26))),aa 5 27]) (.skip))) <|
  ar [aa 11 6,av 12 .add 11 1,aa 6 12]
def jK:SF:=⟨.seq (ar [((some 4),.op (.aX (.val (.emp 1))))]) <|
  .seq (ar [((some 5),.op (.aX (.val (.emp 1))))]) <|
  .seq (.seq (ar [aA 6 0]) <|
  .block 0 (.loop iX)) <|
  .seq (ar [aa 28 5,aa 4 28]) <|
  .ret,
  [.tmp 4],29⟩
theorem oo:bm Tryz.prog 39 []=some jK:=by kernel_rfl
theorem DK (l:List gf) (hl:l.length≤10000) (n:Int):cJ Tryz.prog 39 [.aF (mq l),gi n] (encI (ed l n)):=by
  refine cJ.of (by
    intro v hv; simp at hv
    rcases hv with rfl | rfl
    · exact xp _
    · exact .val _) ?_
  refine aH.of mixed oo ?_
  simp (disch:=omega) only [↓wr,↓reduceIte,wq,ai,ah,an,ab,af,ag,aj,isNil,Nat.reduceEqDiff,Nat.reduceAdd,Nat.reduceLT,Nat.reduceLeDiff,Int.reduceNeg,Int.reduceToNat,reduceCtorEq,jK,mq]
  refine cH.up l.length (fun i T H'=>∃ u:V,aV H' u 1 (cA (ed (l.take i) n))∧T 0=.aF (mq l)∧T 1=gi n∧T 5=u∧T 6=gi i) ⟨.emp 1,.nil,rfl,rfl,rfl,rfl⟩ ?_
  rintro i k T H hk ⟨u,ho,t0,t1,t5,t6⟩
  simp (disch:=omega) only [↓wr,↓reduceIte,wq,ai,ah,an,ab,af,ag,aj,isNil,Nat.reduceEqDiff,Nat.reduceAdd,Nat.reduceLT,Nat.reduceLeDiff,Int.reduceNeg,Int.reduceToNat,reduceCtorEq,iX,t0,t1,t5,t6,mq]
  refine ay.dec (fun hc=>?_) (fun hc=>?_)
  · have hx:l[i]?=some (l[i]'(by omega)):=List.getElem?_eq_getElem (by omega)
    generalize l[i]'(by omega)=x at hx
    have hft:ed (l.take (i+1)) n=if hasB x.set n=true then ed (l.take i) n ++ [x.aT] else ed (l.take i) n:=by
      unfold ed
      rw[xZ hx]
      split <;> simp
    have hfl:(ed (l.take i) n).length≤i:=by
      unfold ed
      have:=List.length_filter_le (fun x:gf=>hasB x.set n) (l.take i)
      simp only[List.length_map,List.length_take] at this ⊢
      omega
    simp (disch:=omega) only [↓wr,↓reduceIte,wq,ai,ah,an,ab,af,ag,aj,isNil,Nat.reduceEqDiff,Nat.reduceAdd,Nat.reduceLT,Nat.reduceLeDiff,Int.reduceNeg,Int.reduceToNat,reduceCtorEq,t0,t1,t5,t6,mq,List.getElem?_map,hx,Option.map_some,sO]
    refine aJ.pure (HI x.set n) (by kernel_rfl) ?_
    simp (disch:=omega) only [↓wr,↓reduceIte,wq,ai,ah,an,ab,af,ag,aj,isNil,Nat.reduceEqDiff,Nat.reduceAdd,Nat.reduceLT,Nat.reduceLeDiff,Int.reduceNeg,Int.reduceToNat,reduceCtorEq,t0,t1,t5,t6]
    refine ay.split (fun he=>?_) (fun he=>?_)
    · simp (disch:=omega) only [↓wr,↓reduceIte,wq,ai,ah,an,ab,af,ag,aj,isNil,Nat.reduceEqDiff,Nat.reduceAdd,Nat.reduceLT,Nat.reduceLeDiff,Int.reduceNeg,Int.reduceToNat,reduceCtorEq,t0,t1,t5,t6,mq,List.getElem?_map,hx,Option.map_some,sO]
      intro q hq
      simp (disch:=omega) only [↓wr,↓reduceIte,wq,ai,ah,an,ab,af,ag,aj,isNil,Nat.reduceEqDiff,Nat.reduceAdd,Nat.reduceLT,Nat.reduceLeDiff,Int.reduceNeg,Int.reduceToNat,reduceCtorEq,e9]
      refine sd (ho.fresh hq) (by simp[aN]) (by unfold aW; simp; omega) (by unfold aW; simp; omega) ?_
      intro u2 H2 o2 _
      simp (disch:=omega) only [↓wr,↓reduceIte,wq,ai,ah,an,ab,af,ag,aj,isNil,Nat.reduceEqDiff,Nat.reduceAdd,Nat.reduceLT,Nat.reduceLeDiff,Int.reduceNeg,Int.reduceToNat,reduceCtorEq,t0,t1,t5,t6]
      rw[if_pos he] at hft
      exact bO hk (by omega) ⟨u2,by rw[hft]; simpa using o2,t0,t1,rfl,rfl⟩
    · simp (disch:=omega) only [↓wr,↓reduceIte,wq,ai,ah,an,ab,af,ag,aj,isNil,Nat.reduceEqDiff,Nat.reduceAdd,Nat.reduceLT,Nat.reduceLeDiff,Int.reduceNeg,Int.reduceToNat,reduceCtorEq,t0,t1,t5,t6]
      rw[if_neg (by rw[he]; simp)] at hft
      exact bO hk (by omega) ⟨u,by rw[hft]; exact ho,t0,t1,t5,rfl⟩
  · rw[List.take_of_length_le (by omega)] at ho
    simp (disch:=omega) only [↓wr,↓reduceIte,wq,ai,ah,an,ab,af,ag,aj,isNil,Nat.reduceEqDiff,Nat.reduceAdd,Nat.reduceLT,Nat.reduceLeDiff,Int.reduceNeg,Int.reduceToNat,reduceCtorEq,t5]
    rintro h' rfl
    exact iH ho
end Gv
