/-
  Part 6 of the proof: what the machine does and what the functions answer.
  Conditions: those that each lemma names.
-/
import Derived.Test.YtihmlbdfcmfbdaaGreatSGzA9E
set_option linter.unusedSimpArgs false
set_option linter.unusedVariables false
set_option maxRecDepth 100000
namespace Gv
open Go Go.Proofs
structure Term where
 name:ByteArray
 level:Int
 assoc:Int
structure bw where
 left:Int
 right:List Int
 prec:Int
structure aw where
 ay:List Term
 az:List ByteArray
 rules:List bw
 start:Int
instance:Inhabited Term:=⟨⟨.empty,0,0⟩⟩
instance:Inhabited bw:=⟨⟨0,[],0⟩⟩
def b6 (t:Term):List V:=[gs t.name,gi t.level,gi t.assoc]
def aO (r:bw):List V:=[gi r.left,encI r.right,gi r.prec]
def encS (l:List ByteArray):V:=.aK (l.map fun s=>[gs s])
def au (g:aw):List V:=[.aK (g.ay.map b6),encS g.az,.aK (g.rules.map aO),gi g.start]
theorem fa {α:Type} (l:List α) (f:α→List V) (h:∀ x∈l,∀ v∈f x,Tree v):Tree (.aK (l.map f)):=by
 refine .aK _ fun i j hi hj=>?_
 simp only[Vg] at hi
 have e:(l.map f).getD i []=f l[i]:=by simp[U8,hi]
 rw[e] at hj ⊢
 have e2:(f l[i]).getD j .any=(f l[i])[j]:=by simp[U8,hj]
 rw[e2]
 exact h _ (Vi _) _ (Vi _)
theorem cI (cs:List V) (h:∀ v∈cs,Tree v):Tree (.agg cs):=by
 refine .agg _ fun i hi=>?_
 have e2:cs.getD i .any=cs[i]:=by simp[U8,hi]
 rw[e2]; exact h _ (Vi _)
theorem zA (l:List ByteArray):Tree (encS l):=fa _ _ fun x _ v hv=>by simp at hv; subst hv; exact .val _
theorem tx (t:Term):∀ v∈b6 t,Tree v:=by intro v hv; simp[b6] at hv; rcases hv with rfl | rfl | rfl <;> exact .val _
theorem gL (r:bw):∀ v∈aO r,Tree v:=by
 intro v hv; simp[aO] at hv; rcases hv with rfl | rfl | rfl
 ·exact .val _
 ·exact eP _
 ·exact .val _
theorem dH (g:aw):∀ v∈au g,Tree v:=by
 intro v hv; simp[au] at hv; rcases hv with rfl | rfl | rfl | rfl
 ·exact fa _ _ fun x _=>tx x
 ·exact zA _
 ·exact fa _ _ fun x _=>gL x
 ·exact .val _
def cm (x:Int):Prop:=-9223372036854775808≤x∧x≤9223372036854775807
structure aw.Ok (g:aw):Prop where
 ay:aS g.ay
 az:aS g.az
 rules:aS g.rules
 start:cm g.start
 term:∀ t∈g.ay,cm t.level∧cm t.assoc
 aF:∀ r∈g.rules,cm r.left∧cm r.prec∧aS r.right∧∀ x∈r.right,cm x
def gu (g:aw) (s:Int):Bool:=if 0≤s then decide (s < g.ay.length) else decide (-1 - s < g.az.length)
def rI:SF:=⟨.seq (ao [cL 2 0,bK 4 false]) <|
 .seq (.seq (ao [aj 5 1,aQ 6 .geq 5 0]) <|
 .cond (.tmp 6) (.seq (ao [aj 7 1,aB 8 0 2,ax 9 8,aX 10 9,bc 11 .lss 7 10,aj 4 11]) <|
 .ret) (.skip)) <|
 .seq (ao [aj 12 1,((some 13),.op (.arith .sub (.val (.val (.int .i64 (-1)))) (.tmp 12))),aB 14 1 2,ax 15 14,aX 16 15,bc 17 .lss 13 16,aj 4 17]) <|
 .ret,
 [.tmp 4],18⟩
theorem w6:aV Tryz.prog 155 [2]=some rI:=by kernel_rfl
theorem Sy (g:aw) (s:Int) (hs:cm s) (H:View):aC Tryz.prog 155 [.agg (au g),gi s] H fun r H'=>r=gb (gu g s)∧H'=H:=by
 refine aC.of mixed w6 ?_
 obtain ⟨h1,h2⟩:=hs
 simp (disch:=omega) only [↓wr,seval,wq,ah,ag,ak,aa,ab,af,ai,ae,rI,au,encS]
 refine av.dec (fun h=>?_) (fun h=>?_)
 ·simp (disch:=omega) only [↓wr,seval,wq,ah,ag,ak,aa,ab,af,ai,ae]
  simp[gu,show (0:Int)≤s from h]
 ·simp (disch:=omega) only [↓wr,seval,wq,ah,ag,ak,aa,ab,af,ai,ae]
  simp[gu,show ¬ (0:Int)≤s from h]
theorem N8 (g:aw) (s:Int) (hs:cm s):aI Tryz.prog 155 [.agg (au g),gi s] (gb (gu g s)) :=
 aI.of (by
  intro v hv; simp at hv
  rcases hv with rfl | rfl
  ·exact cI _ (dH g)
  ·exact .val _) ((Sy g s hs _).mono fun r H' h h' _=>by rw[h.1]; exact .tree _ (.val _))
def kG (g:aw):Bool:=decide (40 < g.ay.length) || decide (40 < g.az.length) || decide (60 < g.rules.length) || g.rules.any fun r=>decide (20 < r.right.length)
def nt:SC :=
 .seq (.seq (ao [aj 20 3,aB 21 2 1,ax 22 21,aX 23 22,bc 24 .lss 20 23]) <|
 .cond (.tmp 24) (.skip) (.exit 0)) <|
 .seq (.block 1 (.seq (ao [aB 27 2 1,ax 28 27,aj 29 3,aP 30 3 28 29,aB 31 1 30,ax 32 31,aX 33 32,aQ 34 .gtr 33 20]) <|
 .cond (.tmp 34) (.seq (ao [bK 2 true]) <|
 .ret) (.skip))) <|
 ao [aj 25 3,aQ 26 .add 25 1,aj 3 26]
def py:SF:=⟨.seq (ao [cL 1 0,bK 2 false]) <|
 .seq (.seq (.region false [⟨none,[aB 4 0 1,ax 5 4,aX 6 5,aQ 7 .gtr 6 40,aj 8 7]⟩,⟨(some (8,false)),[aB 9 1 1,ax 10 9,aX 11 10,aQ 12 .gtr 11 40]⟩,⟨none,[c6 13 8 12,aj 14 13]⟩,⟨(some (14,false)),[aB 15 2 1,ax 16 15,aX 17 16,aQ 18 .gtr 17 60]⟩,⟨none,[c6 19 14 18]⟩]) <|
 .cond (.tmp 19) (.seq (ao [bK 2 true]) <|
 .ret) (.skip)) <|
 .seq (.seq (ao [bj 3 0]) <|
 .block 0 (.loop nt)) <|
 .seq (ao [bK 2 false]) <|
 .ret,
 [.tmp 2],35⟩
theorem uJ:aV Tryz.prog 16 [1]=some py:=by kernel_rfl
theorem PZ (g:aw) (H:View):aC Tryz.prog 16 [.agg (au g)] H fun r H'=>r=gb (kG g)∧H'=H:=by
 refine aC.of mixed uJ ?_
 simp (disch:=omega) only [↓wr,seval,wq,ah,ag,ak,aa,ab,af,ai,ae,py,au,encS]
 refine av.dec (fun h1=>?_) (fun h1=>?_)
 ·simp (disch:=omega) only [↓wr,seval,wq,ah,ag,ak,aa,ab,af,ai,ae]
  simp[kG,show 40 < g.ay.length by omega]
 ·simp (disch:=omega) only [↓wr,seval,wq,ah,ag,ak,aa,ab,af,ai,ae]
  refine av.dec (fun h2=>?_) (fun h2=>?_)
  ·simp (disch:=omega) only [↓wr,seval,wq,ah,ag,ak,aa,ab,af,ai,ae]
   simp[kG,show 40 < g.az.length by omega]
  ·simp (disch:=omega) only [↓wr,seval,wq,ah,ag,ak,aa,ab,af,ai,ae]
   refine av.dec (fun h3=>?_) (fun h3=>?_)
   ·simp (disch:=omega) only [↓wr,seval,wq,ah,ag,ak,aa,ab,af,ai,ae]
    simp[kG,show 60 < g.rules.length by omega]
   ·simp (disch:=omega) only [↓wr,seval,wq,ah,ag,ak,aa,ab,af,ai,ae]
    refine aZ.intro (fun k T H'=>∃ i:Nat,i+k=g.rules.length∧(∀ r∈g.rules.take i,¬ 20 < r.right.length)∧T 1=.aN (au g) 0∧T 3=gi i∧H'=H) g.rules.length ?_ ?_
    ·exact ⟨0,by omega,by simp,rfl,rfl,rfl⟩
    ·rintro k T H' ⟨i,hk,hi,e1,e3,rfl⟩
     simp (disch:=omega) only [↓wr,seval,wq,ah,ag,ak,aa,ab,af,ai,ae,nt,e1,e3,au]
     refine av.dec (fun hc=>?_) (fun hc=>?_)
     ·have hg:g.rules[i]?=some (g.rules[i]'(by omega)):=U9 (by omega)
      simp (disch:=omega) only [↓wr,seval,wq,ah,ag,ak,aa,ab,af,ai,ae,e1,e3,au,aO,encI,Vc,hg,Vh]
      refine av.dec (fun hd=>?_) (fun hd=>?_)
      ·simp (disch:=omega) only [↓wr,seval,wq,ah,ag,ak,aa,ab,af,ai,ae]
       have:g.rules.any (fun r=>decide (20 < r.right.length))=true:=by
        simp only[List.any_eq_true,Vo]
        exact ⟨g.rules[i]'(by omega),Vi _,by omega⟩
       simp[kG,this]
      ·simp (disch:=omega) only [↓wr,seval,wq,ah,ag,ak,aa,ab,af,ai,ae,e1,e3]
       refine ⟨k - 1,by omega,i+1,by omega,?_,rfl,rfl⟩
       intro r hr
       rw[Vx,hg] at hr
       simp only[Option.toList_some,VE,VY] at hr
       rcases hr with hr | rfl
       ·exact hi r hr
       ·omega
     ·simp (disch:=omega) only [↓wr,seval,wq,ah,ag,ak,aa,ab,af,ai,ae,e1,e3]
      have e:i=g.rules.length:=by omega
      rw[Vq (by omega)] at hi
      have:g.rules.any (fun r=>decide (20 < r.right.length))=false:=by
       simp only[List.any_eq_false,Vo]; exact hi
      simp only[kG,this]
      simp; omega
def cQ (l:List Int) (is:List Bool) (ay:Bool):Bool:=l.all fun s=>if 0≤s then ay else is.getD (-1 - s).toNat false
def pk:SC :=
 .seq (.seq (ao [aj 8 7,aj 9 0,aX 10 9,bc 11 .lss 8 10]) <|
 .cond (.tmp 11) (.skip) (.exit 0)) <|
 .seq (.block 1 (.seq (.region false [⟨none,[aj 14 0,aj 15 7,aP 16 1 14 15,ax 17 16,aQ 18 .geq 17 0,aj 19 18]⟩,⟨(some (19,true)),[aj 20 2,dd 21 20]⟩,⟨none,[eF 22 19 21,aj 23 22]⟩,⟨(some (23,false)),[aj 24 0,aj 25 7,aP 26 1 24 25,ax 27 26,aQ 28 .lss 27 0,aj 29 28]⟩,⟨(some (29,true)),[aj 30 1,aj 31 0,aj 32 7,aP 33 1 31 32,ax 34 33,((some 35),.op (.arith .sub (.val (.val (.int .i64 (-1)))) (.tmp 34))),aP 36 1 30 35,ax 37 36,dd 38 37]⟩,⟨(some (23,false)),[eF 39 29 38]⟩,⟨none,[c6 40 23 39]⟩]) <|
 .cond (.tmp 40) (.seq (ao [bK 6 false]) <|
 .ret) (.skip))) <|
 ao [aj 12 7,aQ 13 .add 12 1,aj 7 13]
def rA:SF:=⟨.seq (ao [bK 6 false]) <|
 .seq (.seq (ao [bj 7 0]) <|
 .block 0 (.loop pk)) <|
 .seq (ao [bK 6 true]) <|
 .ret,
 [.tmp 6],41⟩
theorem wU:aV Tryz.prog 117 []=some rA:=by kernel_rfl
theorem S3 (l:List Int) (is:List Bool) (t:Bool) (hl:aS l) (hs:∀ s∈l,cm s∧(s < 0→-1 - s < is.length)) (H:View) :
  aC Tryz.prog 117 [encI l,bP is,gb t] H fun r H'=>r=gb (cQ l is t)∧H'=H:=by
 refine aC.of mixed wU ?_
 unfold aS at hl
 simp (disch:=omega) only [↓wr,seval,wq,ah,ag,ak,aa,ab,af,ai,ae,rA]
 refine aZ.intro (fun k T H'=>∃ i:Nat,i+k=l.length∧cQ (l.take i) is t=true∧T 0=encI l∧T 1=bP is∧T 2=gb t∧T 7=gi i∧H'=H) l.length ?_ ?_
 ·exact ⟨0,by omega,by simp[cQ],rfl,rfl,rfl,rfl,rfl⟩
 ·rintro k T H' ⟨i,hk,hi,h0,h1,h2,h7,rfl⟩
  simp (disch:=omega) only [↓wr,seval,wq,ah,ag,ak,aa,ab,af,ai,ae,pk,h0,h1,h2,h7,encI]
  refine av.dec (fun hc=>?_) (fun hc=>?_)
  ·have hg:l[i]?=some (l[i]'(by omega)):=U9 (by omega)
   have hm:l[i]'(by omega)∈l:=Vi _
   generalize l[i]'(by omega)=s at hg hm
   obtain ⟨⟨hs1,hs2⟩,hs3⟩:=hs s hm
   have hstep:cQ (l.take (i+1)) is t=(if 0≤s then t else is.getD (-1 - s).toNat false):=by
    rw[Vx,hg]
    simp only[cQ,Option.toList_some,List.all_append,Wn,List.all_nil,Bool.and_true] at hi ⊢
    rw[hi,Wo]
   have hfail:(if 0≤s then t else is.getD (-1 - s).toNat false)=false→cQ l is t=false:=by
    intro hb
    simp only[cQ,List.all_eq_false]
    exact ⟨s,hm,by simpa using hb⟩
   simp (disch:=omega) only [↓wr,seval,wq,ah,ag,ak,aa,ab,af,ai,ae,h0,h1,h2,h7,encI,Vc,hg,Vh]
   refine av.dec (fun hd=>?_) (fun hd=>?_)
   ·rw[Vd (show 0≤s from hd)] at hstep hfail
    cases t with
    | true =>
     simp (disch:=omega) only [↓wr,seval,wq,ah,ag,ak,aa,ab,af,ai,ae,h0,h1,h2,h7,encI,Vc,hg,Vh]
     refine av.dec (fun hn=>absurd hn (by omega)) (fun _=>?_)
     simp (disch:=omega) only [↓wr,seval,wq,ah,ag,ak,aa,ab,af,ai,ae,h0,h1,h2,h7,encI,bP,Vc,hg,Vh]
     exact ⟨k - 1,by omega,i+1,by omega,hstep,rfl⟩
    | false =>
     simp (disch:=omega) only [↓wr,seval,wq,ah,ag,ak,aa,ab,af,ai,ae,h0,h1,h2,h7,encI,Vc,hg,Vh]
     rw[hfail rfl]
   ·rw[Va (show ¬ 0≤s from hd)] at hstep hfail
    simp (disch:=omega) only [↓wr,seval,wq,ah,ag,ak,aa,ab,af,ai,ae,h0,h1,h2,h7,encI,Vc,hg,Vh]
    refine av.dec (fun hn=>?_) (fun hn=>absurd hn (by omega))
    have hb:is[(-1 - s).toNat]?=some (is[(-1 - s).toNat]'(by omega)):=U9 (by omega)
    have hbd:is.getD (-1 - s).toNat false=is[(-1 - s).toNat]'(by omega):=by simp[U8,hb]
    rw[hbd] at hstep hfail
    generalize is[(-1 - s).toNat]'(by omega)=b at hb hstep hfail
    simp (disch:=omega) only [↓wr,seval,wq,ah,ag,ak,aa,ab,af,ai,ae,h0,h1,h2,h7,encI,bP,Vc,hg,hb,Vh]
    cases b with
    | true =>
     simp (disch:=omega) only [↓wr,seval,wq,ah,ag,ak,aa,ab,af,ai,ae,h0,h1,h2,h7,encI,bP,Vc,hg,hb,Vh]
     exact ⟨k - 1,by omega,i+1,by omega,hstep,rfl⟩
    | false =>
     simp (disch:=omega) only [↓wr,seval,wq,ah,ag,ak,aa,ab,af,ai,ae,h0,h1,h2,h7,encI,bP,Vc,hg,hb,Vh]
     rw[hfail rfl]
  ·simp (disch:=omega) only [↓wr,seval,wq,ah,ag,ak,aa,ab,af,ai,ae,h0,h1,h2,h7]
   have e:i=l.length:=by omega
   rw[Vq (by omega)] at hi
   rw[hi]
abbrev gy (x:Int):V:=.val (.int .u8 x)
def vZ (c:Int):Bool:=(decide (97≤c) && decide (c≤122)) || (decide (65≤c) && decide (c≤90)) || c == 95
def nN (c:Int):Bool:=vZ c || (decide (48≤c) && decide (c≤57)) || c == 46
def oZ:SF:=⟨.seq (ao [bK 2 false]) <|
 .seq (.region false [⟨none,[aj 3 0,((some 4),.op (.arith .geq (.tmp 3) (.val (.val (.int .u8 97))))),aj 5 4]⟩,⟨(some (5,true)),[aj 6 0,((some 7),.op (.arith .leq (.tmp 6) (.val (.val (.int .u8 122)))))]⟩,⟨none,[eF 8 5 7,aj 9 8]⟩,⟨(some (9,false)),[aj 10 0,((some 11),.op (.arith .geq (.tmp 10) (.val (.val (.int .u8 65))))),aj 12 11]⟩,⟨(some (12,true)),[aj 13 0,((some 14),.op (.arith .leq (.tmp 13) (.val (.val (.int .u8 90)))))]⟩,⟨(some (9,false)),[eF 15 12 14]⟩,⟨none,[c6 16 9 15,aj 17 16]⟩,⟨(some (17,false)),[aj 18 0,((some 19),.op (.arith .eql (.tmp 18) (.val (.val (.int .u8 95)))))]⟩,⟨none,[c6 20 17 19,aj 2 20]⟩]) <|
 .ret,
 [.tmp 2],21⟩
theorem uL:aV Tryz.prog 193 []=some oZ:=by kernel_rfl
def pw:SF:=⟨.seq (ao [bK 2 false]) <|
 .seq (.region false [⟨none,[aj 3 0,bC 4 193 [3],aj 5 4]⟩,⟨(some (5,false)),[aj 6 0,((some 7),.op (.arith .geq (.tmp 6) (.val (.val (.int .u8 48))))),aj 8 7]⟩,⟨(some (8,true)),[aj 9 0,((some 10),.op (.arith .leq (.tmp 9) (.val (.val (.int .u8 57)))))]⟩,⟨(some (5,false)),[eF 11 8 10]⟩,⟨none,[c6 12 5 11,aj 13 12]⟩,⟨(some (13,false)),[aj 14 0,((some 15),.op (.arith .eql (.tmp 14) (.val (.val (.int .u8 46)))))]⟩,⟨none,[c6 16 13 15,aj 2 16]⟩]) <|
 .ret,
 [.tmp 2],17⟩
theorem uD:aV Tryz.prog 194 []=some pw:=by kernel_rfl
theorem Pl (c:Int) (H:View):aC Tryz.prog 193 [gy c] H fun r H'=>r=gb (vZ c)∧H'=H:=by
 refine aC.of mixed uL ?_
 repeat' (first | (refine av.dec (fun _=>?_) (fun _=>?_)) | (refine av.eq (fun _=>?_) (fun _=>?_)) | (refine av.ne (fun _=>?_) (fun _=>?_)) | (refine av.split (fun _=>?_) (fun _=>?_)) | (simp (disch:=omega) only [↓wr,seval,wq,ah,ag,ak,aa,ab,af,ai,ae,oZ]))
 all_goals (congr 2; simp only[vZ]; grind)
theorem G5 (c:Int):aI Tryz.prog 193 [gy c] (gb (vZ c)) :=
 aI.of (by intro v hv; simp at hv; subst hv; exact .val _) ((Pl c _).mono fun r H' h h' _=>by rw[h.1]; exact .tree _ (.val _))
theorem QF (c:Int) (H:View):aC Tryz.prog 194 [gy c] H fun r H'=>r=gb (nN c)∧H'=H:=by
 refine aC.of mixed uD ?_
 repeat' (first | (refine av.dec (fun _=>?_) (fun _=>?_)) | (refine av.eq (fun _=>?_) (fun _=>?_)) | (refine av.ne (fun _=>?_) (fun _=>?_)) | (refine av.split (fun _=>?_) (fun _=>?_)) | (simp (disch:=omega) only [↓wr,seval,wq,ah,ag,ak,aa,ab,af,ai,ae,pw]))
 refine aD.pure (G5 c) (by kernel_rfl) ?_
 repeat' (first | (refine av.dec (fun _=>?_) (fun _=>?_)) | (refine av.eq (fun _=>?_) (fun _=>?_)) | (refine av.ne (fun _=>?_) (fun _=>?_)) | (refine av.split (fun _=>?_) (fun _=>?_)) | (simp (disch:=omega) only [↓wr,seval,wq,ah,ag,ak,aa,ab,af,ai,ae]))
 all_goals (congr 2; simp only[nN]; grind)
theorem QP (c:Int):aI Tryz.prog 194 [gy c] (gb (nN c)) :=
 aI.of (by intro v hv; simp at hv; subst hv; exact .val _) ((QF c _).mono fun r H' h h' _=>by rw[h.1]; exact .tree _ (.val _))
def gC (l:List Int):Bool:=decide (0 < l.length) && decide (l.length≤20) && (match l with | c :: _=>vZ c | []=>false) && l.all nN
def oN:SC :=
 .seq (.seq (ao [aj 18 3,aj 19 0,((some 20),.op (.pO (.tmp 19))),bc 21 .lss 18 20]) <|
 .cond (.tmp 21) (.skip) (.exit 0)) <|
 .seq (.block 1 (.seq (ao [aj 24 0,aj 25 3,((some 26),.op (.iC (.tmp 24) (.tmp 25))),bC 27 194 [26],dd 28 27]) <|
 .cond (.tmp 28) (.seq (ao [bK 2 false]) <|
 .ret) (.skip))) <|
 ao [aj 22 3,aQ 23 .add 22 1,aj 3 23]
def qI:SF:=⟨.seq (ao [bK 2 false]) <|
 .seq (.seq (.region false [⟨none,[aj 4 0,((some 5),.op (.pO (.tmp 4))),aQ 6 .eql 5 0,aj 7 6]⟩,⟨(some (7,false)),[aj 8 0,((some 9),.op (.pO (.tmp 8))),aQ 10 .gtr 9 20]⟩,⟨none,[c6 11 7 10,aj 12 11]⟩,⟨(some (12,false)),[aj 13 0,((some 14),.op (.iC (.tmp 13) (.val (.val (.int .i64 0))))),bC 15 193 [14],dd 16 15]⟩,⟨none,[c6 17 12 16]⟩]) <|
 .cond (.tmp 17) (.seq (ao [bK 2 false]) <|
 .ret) (.skip)) <|
 .seq (.seq (ao [bj 3 0]) <|
 .block 0 (.loop oN)) <|
 .seq (ao [bK 2 true]) <|
 .ret,
 [.tmp 2],29⟩
theorem vc:aV Tryz.prog 154 []=some qI:=by kernel_rfl
theorem Nq (s:ByteArray) (H:View):aC Tryz.prog 154 [gs s] H fun r H'=>r=gb (gC (fJ s))∧H'=H:=by
 refine aC.of mixed vc ?_
 repeat' (first | (refine av.dec (fun _=>?_) (fun _=>?_)) | (refine av.eq (fun _=>?_) (fun _=>?_)) | (refine av.ne (fun _=>?_) (fun _=>?_)) | (refine av.split (fun _=>?_) (fun _=>?_)) | (simp (disch:=omega) only [↓wr,seval,wq,ah,ag,ak,aa,ab,af,ai,ae,qI,eV]))
 ·rename_i h
  congr 2; simp[gC,show (fJ s).length=0 by omega]
 ·rename_i h
  congr 2; simp[gC,show ¬ (fJ s).length≤20 by omega]
 ·rename_i h1 h2
  cases hb:fJ s with
  | nil=>simp[hb] at h1
  | cons c l =>
   repeat' (first | (refine av.dec (fun _=>?_) (fun _=>?_)) | (refine av.eq (fun _=>?_) (fun _=>?_)) | (refine av.ne (fun _=>?_) (fun _=>?_)) | (refine av.split (fun _=>?_) (fun _=>?_)) | (simp (disch:=omega) only [↓wr,seval,wq,ah,ag,ak,aa,ab,af,ai,ae,hb,VG,eV]))
   refine aD.pure (G5 c) (by kernel_rfl) ?_
   repeat' (first | (refine av.dec (fun _=>?_) (fun _=>?_)) | (refine av.eq (fun _=>?_) (fun _=>?_)) | (refine av.ne (fun _=>?_) (fun _=>?_)) | (refine av.split (fun _=>?_) (fun _=>?_)) | (simp (disch:=omega) only [↓wr,seval,wq,ah,ag,ak,aa,ab,af,ai,ae,hb,VG,eV]))
   ·rename_i hf
    refine aZ.intro (fun k T H'=>∃ i:Nat,i+k=(c :: l).length∧((c :: l).take i).all nN=true∧T 0=gs s∧T 3=gi i∧H'=H) (c :: l).length ?_ ?_
    ·exact ⟨0,by omega,by simp,rfl,rfl,rfl⟩
    ·rintro k T H' ⟨i,hk,hi,h0,h3,rfl⟩
     rw[hb] at h1 h2
     simp (disch:=omega) only [↓wr,seval,wq,ah,ag,ak,aa,ab,af,ai,ae,oN,h0,h3,eV,hb]
     refine av.dec (fun hc=>?_) (fun hc=>?_)
     ·simp only[Vr] at hc hk h2
      have hg:(c :: l)[i]?=some ((c :: l)[i]'(by simp; omega)):=U9 (by simp; omega)
      have hm:(c :: l)[i]'(by simp; omega)∈c :: l:=Vi _
      generalize (c :: l)[i]'(by simp; omega)=d at hg hm
      simp (disch:=omega) only [↓wr,seval,wq,ah,ag,ak,aa,ab,af,ai,ae,h0,h3,eV,hb,hg]
      refine aD.pure (QP d) (by kernel_rfl) ?_
      repeat' (first | (refine av.dec (fun _=>?_) (fun _=>?_)) | (refine av.eq (fun _=>?_) (fun _=>?_)) | (refine av.ne (fun _=>?_) (fun _=>?_)) | (refine av.split (fun _=>?_) (fun _=>?_)) | (simp (disch:=omega) only [↓wr,seval,wq,ah,ag,ak,aa,ab,af,ai,ae,h0,h3,eV,hb,hg]))
      ·rename_i hd
       refine ⟨k - 1,by omega,i+1,by omega,?_,rfl⟩
       rw[Vx,hg]
       simp only[Option.toList_some,List.all_append,hi,Wn,hd,List.all_nil,Bool.and_self]
      ·rename_i hd
       congr 2
       have:(c :: l).all nN=false:=by
        rw[List.all_eq_false]; exact ⟨d,hm,by simp[hd]⟩
       simp only[gC,this,Bool.and_false]
     ·simp (disch:=omega) only [↓wr,seval,wq,ah,ag,ak,aa,ab,af,ai,ae,h0,h3]
      simp only[Vr] at hc hk h2
      rw[Vq (by simp; omega)] at hi
      congr 2
      simp only[gC,hi,Vr]
      simp[hf]; omega
   ·rename_i hf
    congr 2; simp[gC,hf]
def mL:List Int→Bool
 | [a,b,c]=>a == 39 && c == 39 && decide (32≤b) && decide (b≤126) && b != 39 && b != 92
 | [a,b,c,d]=>a == 39 && d == 39 && b == 92 && (c == 110 || c == 116 || c == 92 || c == 39)
 | _=>false
theorem P8 {l:List Int} (h3:l.length≠3) (h4:l.length≠4):mL l=false:=by
 match l,h3,h4 with
 | [],_,_=>rfl
 | [_],_,_=>rfl
 | [_,_],_,_=>rfl
 | [_,_,_],h3,_=>exact absurd rfl h3
 | [_,_,_,_],_,h4=>exact absurd rfl h4
 | _ :: _ :: _ :: _ :: _ :: _,_,_=>rfl
theorem Ug {α:Type} {l:List α} (h:l.length=3):∃ a b c,l=[a,b,c]:=by
 match l,h with
 | [a,b,c],_=>exact ⟨a,b,c,rfl⟩
theorem Us {α:Type} {l:List α} (h:l.length=4):∃ a b c d,l=[a,b,c,d]:=by
 match l,h with
 | [a,b,c,d],_=>exact ⟨a,b,c,d,rfl⟩
def nz:SF:=⟨.seq (ao [bK 2 false]) <|
 .seq (.seq (ao [aj 3 0,((some 4),.op (.pO (.tmp 3))),aQ 5 .eql 4 3]) <|
 .cond (.tmp 5) (.seq (.region false [⟨none,[aj 6 0,((some 7),.op (.iC (.tmp 6) (.val (.val (.int .i64 0))))),((some 8),.op (.arith .eql (.tmp 7) (.val (.val (.int .u8 39))))),aj 9 8]⟩,⟨(some (9,true)),[aj 10 0,((some 11),.op (.iC (.tmp 10) (.val (.val (.int .i64 2))))),((some 12),.op (.arith .eql (.tmp 11) (.val (.val (.int .u8 39)))))]⟩,⟨none,[eF 13 9 12,aj 14 13]⟩,⟨(some (14,true)),[aj 15 0,((some 16),.op (.iC (.tmp 15) (.val (.val (.int .i64 1))))),((some 17),.op (.arith .geq (.tmp 16) (.val (.val (.int .u8 32)))))]⟩,⟨none,[eF 18 14 17,aj 19 18]⟩,⟨(some (19,true)),[aj 20 0,((some 21),.op (.iC (.tmp 20) (.val (.val (.int .i64 1))))),((some 22),.op (.arith .leq (.tmp 21) (.val (.val (.int .u8 126)))))]⟩,⟨none,[eF 23 19 22,aj 24 23]⟩,⟨(some (24,true)),[aj 25 0,((some 26),.op (.iC (.tmp 25) (.val (.val (.int .i64 1))))),((some 27),.op (.arith .neq (.tmp 26) (.val (.val (.int .u8 39)))))]⟩,⟨none,[eF 28 24 27,aj 29 28]⟩,⟨(some (29,true)),[aj 30 0,((some 31),.op (.iC (.tmp 30) (.val (.val (.int .i64 1))))),((some 32),.op (.arith .neq (.tmp 31) (.val (.val (.int .u8 92)))))]⟩,⟨none,[eF 33 29 32,aj 2 33]⟩]) <|
 .ret) (.skip)) <|
 .seq (.region false [⟨none,[aj 34 0,((some 35),.op (.pO (.tmp 34))),aQ 36 .eql 35 4,aj 37 36]⟩,⟨(some (37,true)),[aj 38 0,((some 39),.op (.iC (.tmp 38) (.val (.val (.int .i64 0))))),((some 40),.op (.arith .eql (.tmp 39) (.val (.val (.int .u8 39)))))]⟩,⟨none,[eF 41 37 40,aj 42 41]⟩,⟨(some (42,true)),[aj 43 0,((some 44),.op (.iC (.tmp 43) (.val (.val (.int .i64 3))))),((some 45),.op (.arith .eql (.tmp 44) (.val (.val (.int .u8 39)))))]⟩,⟨none,[eF 46 42 45,aj 47 46]⟩,⟨(some (47,true)),[aj 48 0,((some 49),.op (.iC (.tmp 48) (.val (.val (.int .i64 1))))),((some 50),.op (.arith .eql (.tmp 49) (.val (.val (.int .u8 92)))))]⟩,⟨none,[eF 51 47 50,aj 52 51]⟩,⟨(some (52,true)),[aj 53 0,((some 54),.op (.iC (.tmp 53) (.val (.val (.int .i64 2))))),((some 55),.op (.arith .eql (.tmp 54) (.val (.val (.int .u8 110))))),aj 56 55]⟩,⟨(some (56,false)),[aj 57 0,((some 58),.op (.iC (.tmp 57) (.val (.val (.int .i64 2))))),((some 59),.op (.arith .eql (.tmp 58) (.val (.val (.int .u8 116)))))]⟩,⟨(some (52,true)),[c6 60 56 59,aj 61 60]⟩,⟨(some (61,false)),[aj 62 0,((some 63),.op (.iC (.tmp 62) (.val (.val (.int .i64 2))))),((some 64),.op (.arith .eql (.tmp 63) (.val (.val (.int .u8 92)))))]⟩,⟨(some (52,true)),[c6 65 61 64,aj 66 65]⟩,⟨(some (66,false)),[aj 67 0,((some 68),.op (.iC (.tmp 67) (.val (.val (.int .i64 2))))),((some 69),.op (.arith .eql (.tmp 68) (.val (.val (.int .u8 39)))))]⟩,⟨(some (52,true)),[c6 70 66 69]⟩,⟨none,[eF 71 52 70,aj 2 71]⟩]) <|
 .ret,
 [.tmp 2],72⟩
theorem sR:aV Tryz.prog 192 []=some nz:=by kernel_rfl
def oT:SF:=⟨.seq (ao [bK 2 false]) <|
 .seq (.region false [⟨none,[aj 3 0,bC 4 154 [3],aj 5 4]⟩,⟨(some (5,false)),[aj 6 0,bC 7 192 [6]]⟩,⟨none,[c6 8 5 7,aj 2 8]⟩]) <|
 .ret,
 [.tmp 2],9⟩
theorem uG:aV Tryz.prog 151 []=some oT:=by kernel_rfl
set_option maxHeartbeats 1000000 in
theorem Qo (s:ByteArray) (H:View):aC Tryz.prog 192 [gs s] H fun r H'=>r=gb (mL (fJ s))∧H'=H:=by
 refine aC.of mixed sR ?_
 simp (disch:=omega) only [↓wr,seval,wq,ah,ag,ak,aa,ab,af,ai,ae,nz,eV]
 refine av.eq (fun h=>?_) (fun h=>?_)
 ·obtain ⟨a,b,c,hb⟩:=Ug (l:=fJ s) (by omega)
  repeat' (first | (refine av.dec (fun _=>?_) (fun _=>?_)) | (refine av.eq (fun _=>?_) (fun _=>?_)) | (refine av.ne (fun _=>?_) (fun _=>?_)) | (refine av.split (fun _=>?_) (fun _=>?_)) | (simp (disch:=omega) only [↓wr,seval,wq,ah,ag,ak,aa,ab,af,ai,ae,hb,VG,VU]))
  all_goals (congr 2; simp only[mL]; grind)
 ·simp (disch:=omega) only [↓wr,seval,wq,ah,ag,ak,aa,ab,af,ai,ae,eV]
  refine av.eq (fun h4=>?_) (fun h4=>?_)
  ·obtain ⟨a,b,c,d,hb⟩:=Us (l:=fJ s) (by omega)
   repeat' (first | (refine av.dec (fun _=>?_) (fun _=>?_)) | (refine av.eq (fun _=>?_) (fun _=>?_)) | (refine av.ne (fun _=>?_) (fun _=>?_)) | (refine av.split (fun _=>?_) (fun _=>?_)) | (simp (disch:=omega) only [↓wr,seval,wq,ah,ag,ak,aa,ab,af,ai,ae,hb,VG,VU]))
   all_goals (congr 2; simp only[mL]; grind)
  ·repeat' (first | (refine av.dec (fun _=>?_) (fun _=>?_)) | (refine av.eq (fun _=>?_) (fun _=>?_)) | (refine av.ne (fun _=>?_) (fun _=>?_)) | (refine av.split (fun _=>?_) (fun _=>?_)) | (simp (disch:=omega) only [↓wr,seval,wq,ah,ag,ak,aa,ab,af,ai,ae,eV]))
   rw[P8 (by omega) (by omega)]
theorem pM (s:ByteArray):∀ v∈[gs s],Tree v:=by intro v hv; simp at hv; subst hv; exact .val _
theorem EF (s:ByteArray):aI Tryz.prog 154 [gs s] (gb (gC (fJ s))) :=
 aI.of (pM s) ((Nq s _).mono fun r H' h h' _=>by rw[h.1]; exact .tree _ (.val _))
theorem Py (s:ByteArray):aI Tryz.prog 192 [gs s] (gb (mL (fJ s))) :=
 aI.of (pM s) ((Qo s _).mono fun r H' h h' _=>by rw[h.1]; exact .tree _ (.val _))
def qK (l:List Int):Bool:=gC l || mL l
theorem KM (s:ByteArray) (H:View):aC Tryz.prog 151 [gs s] H fun r H'=>r=gb (qK (fJ s))∧H'=H:=by
 refine aC.of mixed uG ?_
 simp (disch:=omega) only [↓wr,seval,wq,ah,ag,ak,aa,ab,af,ai,ae,oT]
 refine aD.pure (EF s) (by kernel_rfl) ?_
 repeat' (first | (refine av.dec (fun _=>?_) (fun _=>?_)) | (refine av.eq (fun _=>?_) (fun _=>?_)) | (refine av.ne (fun _=>?_) (fun _=>?_)) | (refine av.split (fun _=>?_) (fun _=>?_)) | (simp (disch:=omega) only [↓wr,seval,wq,ah,ag,ak,aa,ab,af,ai,ae]))
 ·rename_i h; simp[qK,h]
 ·rename_i h
  refine aD.pure (Py s) (by kernel_rfl) ?_
  repeat' (first | (refine av.dec (fun _=>?_) (fun _=>?_)) | (refine av.eq (fun _=>?_) (fun _=>?_)) | (refine av.ne (fun _=>?_) (fun _=>?_)) | (refine av.split (fun _=>?_) (fun _=>?_)) | (simp (disch:=omega) only [↓wr,seval,wq,ah,ag,ak,aa,ab,af,ai,ae]))
  simp[qK,h]
theorem KL (s:ByteArray):aI Tryz.prog 151 [gs s] (gb (qK (fJ s))) :=
 aI.of (pM s) ((KM s _).mono fun r H' h h' _=>by rw[h.1]; exact .tree _ (.val _))
def oB (s:ByteArray):List ByteArray→Int→Int
 | [],_=>-1
 | x :: l,i=>if ja x s=true then i else oB s l (i+1)
def mF (g:aw) (s:ByteArray):Int:=oB s (g.ay.map Term.name) 0
def zn (g:aw) (s:ByteArray):Int:=oB s g.az 0
theorem eW {α:Type} {l:List α} {i:Nat} (h:i < l.length):l.drop i=l[i] :: l.drop (i+1):=VT h
theorem Hr (g:aw) (s:ByteArray):∀ v∈[V.agg (au g),gs s],Tree v:=by
 intro v hv; simp at hv
 rcases hv with rfl | rfl
 ·exact cI _ (dH g)
 ·exact .val _
theorem dZ (g:aw):∀ v∈[V.agg (au g)],Tree v:=by intro v hv; simp at hv; subst hv; exact cI _ (dH g)
theorem GJ (g:aw) (x:Int):∀ v∈[V.agg (au g),gi x],Tree v:=by
 intro v hv; simp at hv
 rcases hv with rfl | rfl
 ·exact cI _ (dH g)
 ·exact .val _
theorem aI.val {P:Program} {f:FuncId} {vs:List V} {x:Value} (ht:∀ v∈vs,Tree v) (h:∀ H,aC P f vs H fun r _=>r=.val x):aI P f vs (.val x) :=
 aI.of ht ((h _).mono fun r H' e h' _=>by rw[e]; exact .tree _ (.val _))
def oz:SC :=
 .seq (.seq (ao [aj 6 5,aB 7 0 2,ax 8 7,aX 9 8,bc 10 .lss 6 9]) <|
 .cond (.tmp 10) (.skip) (.exit 0)) <|
 .seq (.block 1 (.seq (ao [aB 13 0 2,ax 14 13,aj 15 5,aP 16 3 14 15,aB 17 0 16,ax 18 17,aj 19 1,((some 20),.op (.xN .eql (.tmp 18) (.tmp 19)))]) <|
 .cond (.tmp 20) (.seq (ao [aj 21 5,aj 4 21]) <|
 .ret) (.skip))) <|
 ao [aj 11 5,aQ 12 .add 11 1,aj 5 12]
def qY:SF:=⟨.seq (ao [cL 2 0,bj 4 0]) <|
 .seq (.seq (ao [bj 5 0]) <|
 .block 0 (.loop oz)) <|
 .seq (ao [bj 4 (-1)]) <|
 .ret,
 [.tmp 4],22⟩
theorem vK:aV Tryz.prog 152 [2]=some qY:=by kernel_rfl
def pc:SC :=
 .seq (.seq (ao [aj 6 5,aB 7 1 2,ax 8 7,aX 9 8,bc 10 .lss 6 9]) <|
 .cond (.tmp 10) (.skip) (.exit 0)) <|
 .seq (.block 1 (.seq (ao [aB 13 1 2,ax 14 13,aj 15 5,aP 16 1 14 15,ax 17 16,aj 18 1,((some 19),.op (.xN .eql (.tmp 17) (.tmp 18)))]) <|
 .cond (.tmp 19) (.seq (ao [aj 20 5,aj 4 20]) <|
 .ret) (.skip))) <|
 ao [aj 11 5,aQ 12 .add 11 1,aj 5 12]
def rz:SF:=⟨.seq (ao [cL 2 0,bj 4 0]) <|
 .seq (.seq (ao [bj 5 0]) <|
 .block 0 (.loop pc)) <|
 .seq (ao [bj 4 (-1)]) <|
 .ret,
 [.tmp 4],21⟩
theorem xp:aV Tryz.prog 139 [2]=some rz:=by kernel_rfl
def nF:SC :=
 .seq (.seq (ao [aj 8 6,aB 9 0 2,ax 10 9,aX 11 10,bc 12 .lss 8 11]) <|
 .cond (.tmp 12) (.skip) (.exit 0)) <|
 .seq (.block 1 (.seq (.region false [⟨none,[aB 15 0 2,ax 16 15,aj 17 6,aP 18 3 16 17,bp 19 3 18,((some 7),.op (.alloc [(.val (.string ⟨#[]⟩)),(.val (.int .i64 0)),(.val (.int .i64 0))])),(none,.op (.store 3 (.tmp 7) (.tmp 19)))]⟩]) <|
 .seq (.seq (ao [aB 20 1 7,ax 21 20,aj 22 1,bc 23 .neq 21 22]) <|
 .cond (.tmp 23) (.exit 1) (.skip)) <|
 .seq (.seq (.region false [⟨none,[aj 24 5,aQ 25 .neq 24 0,aj 26 25]⟩,⟨(some (26,true)),[aj 27 5,aB 28 2 7,ax 29 28,bc 30 .neq 27 29]⟩,⟨none,[eF 31 26 30]⟩]) <|
 .cond (.tmp 31) (.seq (ao [bK 4 false]) <|
 .ret) (.skip)) <|
 ao [aB 32 2 7,ax 33 32,aj 5 33])) <|
 ao [aj 13 6,aQ 14 .add 13 1,aj 6 14]
def pa:SF:=⟨.seq (ao [cL 2 0,bK 4 false]) <|
 .seq (ao [bj 5 0]) <|
 .seq (.seq (ao [bj 6 0]) <|
 .block 0 (.loop nF)) <|
 .seq (ao [aj 34 5,aQ 35 .neq 34 0,aj 4 35]) <|
 .ret,
 [.tmp 4],36⟩
theorem uu:aV Tryz.prog 153 [2]=some pa:=by kernel_rfl
theorem Nh (g:aw) (hg:g.Ok) (s:ByteArray) (H:View):aC Tryz.prog 152 [.agg (au g),gs s] H fun r _=>r=gi (mF g s):=by
 refine aC.of mixed vK ?_
 have hs:g.ay.length < 4611686018427387904:=hg.ay
 simp (disch:=omega) only [↓wr,seval,wq,ah,ag,ak,aa,ab,af,ai,ae,qY,au,encS]
 refine aZ.intro (fun k T _=>∃ i:Nat,i+k=g.ay.length∧oB s ((g.ay.drop i).map Term.name) i=mF g s∧T 1=gs s∧T 2=.aN (au g) 0∧T 5=gi i) g.ay.length ?_ ?_
 ·exact ⟨0,by omega,rfl,rfl,rfl,rfl⟩
 ·rintro k T H' ⟨i,hk,hi,h1,h2,h5⟩
  simp (disch:=omega) only [↓wr,seval,wq,ah,ag,ak,aa,ab,af,ai,ae,oz,h1,h2,h5,au]
  refine av.dec (fun hc=>?_) (fun hc=>?_)
  ·have hg2:g.ay[i]?=some (g.ay[i]'(by omega)):=U9 (by omega)
   rw[eW (show i < g.ay.length by omega)] at hi
   generalize g.ay[i]'(by omega)=t at hg2 hi
   simp only[VC,oB] at hi
   simp (disch:=omega) only [↓wr,seval,wq,ah,ag,ak,aa,ab,af,ai,ae,h1,h2,h5,au,b6,Vc,hg2,Vh]
   refine av.split (fun hd=>?_) (fun hd=>?_)
   ·rw[Vd hd] at hi
    simp (disch:=omega) only [↓wr,seval,wq,ah,ag,ak,aa,ab,af,ai,ae,h1,h2,h5]
    rw[hi]
   ·rw[hd,Va (by simp)] at hi
    simp (disch:=omega) only [↓wr,seval,wq,ah,ag,ak,aa,ab,af,ai,ae,h1,h2,h5]
    exact ⟨k - 1,by omega,i+1,by omega,by push_cast; exact hi,rfl,rfl⟩
  ·rw[VD (by omega)] at hi
   simp only[WM,oB] at hi
   simp (disch:=omega) only [↓wr,seval,wq,ah,ag,ak,aa,ab,af,ai,ae,h1,h2,h5]
   rw[hi]
theorem Ea (g:aw) (hg:g.Ok) (s:ByteArray):aI Tryz.prog 152 [.agg (au g),gs s] (gi (mF g s)):=aI.val (Hr g s) (Nh g hg s)
theorem Ps (g:aw) (hg:g.Ok) (s:ByteArray) (H:View):aC Tryz.prog 139 [.agg (au g),gs s] H fun r _=>r=gi (zn g s):=by
 refine aC.of mixed xp ?_
 have hs:g.az.length < 4611686018427387904:=hg.az
 simp (disch:=omega) only [↓wr,seval,wq,ah,ag,ak,aa,ab,af,ai,ae,rz,au,encS]
 refine aZ.intro (fun k T _=>∃ i:Nat,i+k=g.az.length∧oB s (g.az.drop i) i=zn g s∧T 1=gs s∧T 2=.aN (au g) 0∧T 5=gi i) g.az.length ?_ ?_
 ·exact ⟨0,by omega,rfl,rfl,rfl,rfl⟩
 ·rintro k T H' ⟨i,hk,hi,h1,h2,h5⟩
  simp (disch:=omega) only [↓wr,seval,wq,ah,ag,ak,aa,ab,af,ai,ae,pc,h1,h2,h5,au,encS]
  refine av.dec (fun hc=>?_) (fun hc=>?_)
  ·have hg2:g.az[i]?=some (g.az[i]'(by omega)):=U9 (by omega)
   rw[eW (show i < g.az.length by omega)] at hi
   generalize g.az[i]'(by omega)=t at hg2 hi
   simp only[VC,oB] at hi
   simp (disch:=omega) only [↓wr,seval,wq,ah,ag,ak,aa,ab,af,ai,ae,h1,h2,h5,au,encS,Vc,hg2,Vh]
   refine av.split (fun hd=>?_) (fun hd=>?_)
   ·rw[Vd hd] at hi
    simp (disch:=omega) only [↓wr,seval,wq,ah,ag,ak,aa,ab,af,ai,ae,h1,h2,h5]
    rw[hi]
   ·rw[hd,Va (by simp)] at hi
    simp (disch:=omega) only [↓wr,seval,wq,ah,ag,ak,aa,ab,af,ai,ae,h1,h2,h5]
    exact ⟨k - 1,by omega,i+1,by omega,by push_cast; exact hi,rfl,rfl⟩
  ·rw[VD (by omega)] at hi
   simp only[WM,oB] at hi
   simp (disch:=omega) only [↓wr,seval,wq,ah,ag,ak,aa,ab,af,ai,ae,h1,h2,h5]
   rw[hi]
theorem QS (g:aw) (hg:g.Ok) (s:ByteArray):aI Tryz.prog 139 [.agg (au g),gs s] (gi (zn g s)):=aI.val (Hr g s) (Ps g hg s)
def jx (n:Int):List Term→Int→Option Int
 | [],way=>some way
 | t :: r,way=>if t.level=n then (if way≠0∧way≠t.assoc then none else jx n r t.assoc) else jx n r way
def ie (l:List Term) (n:Int):Bool:=match jx n l 0 with
 | some w=>w != 0
 | none=>false
theorem Lv (g:aw) (hg:g.Ok) (n:Int) (H:View):aC Tryz.prog 153 [.agg (au g),gi n] H fun r _=>r=gb (ie g.ay n):=by
 refine aC.of mixed uu ?_
 have hs:g.ay.length < 4611686018427387904:=hg.ay
 simp (disch:=omega) only [↓wr,seval,wq,ah,ag,ak,aa,ab,af,ai,ae,pa,au,encS]
 refine aZ.intro (fun k T _=>∃ (i:Nat) (w:Int),i+k=g.ay.length∧jx n (g.ay.drop i) w=jx n g.ay 0∧T 1=gi n∧T 2=.aN (au g) 0∧T 5=gi w∧T 6=gi i) g.ay.length ?_ ?_
 ·exact ⟨0,0,by omega,rfl,rfl,rfl,rfl,rfl⟩
 ·rintro k T H' ⟨i,w,hk,hi,h1,h2,h5,h6⟩
  simp (disch:=omega) only [↓wr,seval,wq,ah,ag,ak,aa,ab,af,ai,ae,nF,h1,h2,h5,h6,au]
  refine av.dec (fun hc=>?_) (fun hc=>?_)
  ·have hg2:g.ay[i]?=some (g.ay[i]'(by omega)):=U9 (by omega)
   rw[eW (show i < g.ay.length by omega)] at hi
   generalize g.ay[i]'(by omega)=t at hg2 hi
   simp only[jx] at hi
   simp (disch:=omega) only [↓wr,seval,wq,ah,ag,ak,aa,ab,af,ai,ae,h1,h2,h5,h6,au,b6,Vc,hg2,Vh]
   intro m hm
   try simp (disch:=omega) only [↓wr,seval,wq,ah,ag,ak,aa,ab,af,ai,ae,h1,h2,h5,h6]
   refine av.ne (fun hd=>?_) (fun hd=>?_)
   ·rw[Va hd] at hi
    simp (disch:=omega) only [↓wr,seval,wq,ah,ag,ak,aa,ab,af,ai,ae,h1,h2,h5,h6]
    exact ⟨k - 1,by omega,i+1,w,by omega,hi,by first | rfl | exact ⟨rfl,rfl⟩ | exact ⟨rfl,rfl,rfl⟩⟩
   ·rw[Vd hd] at hi
    repeat' (first | (refine av.dec (fun _=>?_) (fun _=>?_)) | (refine av.eq (fun _=>?_) (fun _=>?_)) | (refine av.ne (fun _=>?_) (fun _=>?_)) | (refine av.split (fun _=>?_) (fun _=>?_)) | (simp (disch:=omega) only [↓wr,seval,wq,ah,ag,ak,aa,ab,af,ai,ae,h1,h2,h5,h6]))
    ·rename_i a b
     rw[Vd ⟨a,b⟩] at hi
     simp only[ie,← hi]
    ·rename_i a b
     rw[Va (fun e=>e.2 b)] at hi
     exact ⟨k - 1,by omega,i+1,_,by omega,hi,by first | rfl | exact ⟨rfl,rfl⟩ | exact ⟨rfl,rfl,rfl⟩⟩
    ·rename_i a
     rw[Va (fun e=>e.1 a)] at hi
     exact ⟨k - 1,by omega,i+1,_,by omega,hi,by first | rfl | exact ⟨rfl,rfl⟩ | exact ⟨rfl,rfl,rfl⟩⟩
  ·rw[VD (by omega)] at hi
   simp only[jx] at hi
   simp (disch:=omega) only [↓wr,seval,wq,ah,ag,ak,aa,ab,af,ai,ae,h1,h2,h5,h6]
   simp only[ie,← hi]
theorem LH (g:aw) (hg:g.Ok) (n:Int):aI Tryz.prog 153 [.agg (au g),gi n] (gb (ie g.ay n)):=aI.val (GJ g n) (Lv g hg n)
def rO (g:aw) (t:Term):Bool:=(List.range t.level.toNat).all fun k=>ie g.ay ((k:Int)+1)
def kp (g:aw) (i:Int) (t:Term):Bool :=
 qK (fJ t.name) && (mF g t.name == i) && decide (0≤t.level) && decide (t.level≤24) && decide (0≤t.assoc) && decide (t.assoc≤3) && ((t.level == 0) == (t.assoc == 0)) && rO g t
def j5 (g:aw):List Term→Int→Bool
 | [],_=>true
 | t :: r,i=>kp g i t && j5 g r (i+1)
def j7 (g:aw):Bool:=decide (g.ay.length≤24) && j5 g g.ay 0
def nK:SC :=
 .seq (.seq (ao [aj 63 5,aB 64 1 4,ax 65 64,bc 66 .leq 63 65]) <|
 .cond (.tmp 66) (.skip) (.exit 2)) <|
 .seq (.block 3 (.seq (ao [bp 69 4 1,aj 70 5,bC 71 153 [69,70],dd 72 71]) <|
 .cond (.tmp 72) (.seq (ao [bK 2 false]) <|
 .ret) (.skip))) <|
 ao [aj 67 5,aQ 68 .add 67 1,aj 5 68]
def np:SC :=
 .seq (.seq (ao [aj 10 3,aB 11 0 1,ax 12 11,aX 13 12,bc 14 .lss 10 13]) <|
 .cond (.tmp 14) (.skip) (.exit 0)) <|
 .seq (.block 1 (.seq (.region false [⟨none,[aB 17 0 1,ax 18 17,aj 19 3,aP 20 3 18 19,bp 21 3 20,((some 4),.op (.alloc [(.val (.string ⟨#[]⟩)),(.val (.int .i64 0)),(.val (.int .i64 0))])),(none,.op (.store 3 (.tmp 4) (.tmp 21)))]⟩]) <|
 .seq (.seq (.region false [⟨none,[aB 22 0 4,ax 23 22,bC 24 151 [23],dd 25 24,aj 26 25]⟩,⟨(some (26,false)),[bp 27 4 1,aB 28 0 4,ax 29 28,bC 30 152 [27,29],aj 31 3,bc 32 .neq 30 31]⟩,⟨none,[c6 33 26 32,aj 34 33]⟩,⟨(some (34,false)),[aB 35 1 4,ax 36 35,aQ 37 .lss 36 0]⟩,⟨none,[c6 38 34 37,aj 39 38]⟩,⟨(some (39,false)),[aB 40 1 4,ax 41 40,aQ 42 .gtr 41 24]⟩,⟨none,[c6 43 39 42,aj 44 43]⟩,⟨(some (44,false)),[aB 45 2 4,ax 46 45,aQ 47 .lss 46 0]⟩,⟨none,[c6 48 44 47,aj 49 48]⟩,⟨(some (49,false)),[aB 50 2 4,ax 51 50,aQ 52 .gtr 51 3]⟩,⟨none,[c6 53 49 52,aj 54 53]⟩,⟨(some (54,false)),[aB 55 1 4,ax 56 55,aQ 57 .eql 56 0,aB 58 2 4,ax 59 58,aQ 60 .eql 59 0,((some 61),.op (.beq false (.tmp 57) (.tmp 60)))]⟩,⟨none,[c6 62 54 61]⟩]) <|
 .cond (.tmp 62) (.seq (ao [bK 2 false]) <|
 .ret) (.skip)) <|
 .seq (ao [bj 5 1]) <|
 .block 2 (.loop nK))) <|
 ao [aj 15 3,aQ 16 .add 15 1,aj 3 16]
def oY:SF:=⟨.seq (ao [cL 1 0,bK 2 false]) <|
 .seq (.seq (ao [aB 6 0 1,ax 7 6,aX 8 7,aQ 9 .gtr 8 24]) <|
 .cond (.tmp 9) (.seq (ao [bK 2 false]) <|
 .ret) (.skip)) <|
 .seq (.seq (ao [bj 3 0]) <|
 .block 0 (.loop np)) <|
 .seq (ao [bK 2 true]) <|
 .ret,
 [.tmp 2],73⟩
theorem uA:aV Tryz.prog 104 [1]=some oY:=by kernel_rfl
def ox:SC :=
 .seq (.seq (ao [aj 14 3,aB 15 1 1,ax 16 15,aX 17 16,bc 18 .lss 14 17]) <|
 .cond (.tmp 18) (.skip) (.exit 0)) <|
 .seq (.block 1 (.seq (.region false [⟨none,[aB 21 1 1,ax 22 21,aj 23 3,aP 24 1 22 23,ax 25 24,bC 26 154 [25],dd 27 26,aj 28 27]⟩,⟨(some (28,false)),[bp 29 4 1,aB 30 1 1,ax 31 30,aj 32 3,aP 33 1 31 32,ax 34 33,bC 35 139 [29,34],aj 36 3,bc 37 .neq 35 36]⟩,⟨none,[c6 38 28 37,aj 39 38]⟩,⟨(some (39,false)),[bp 40 4 1,aB 41 1 1,ax 42 41,aj 43 3,aP 44 1 42 43,ax 45 44,bC 46 152 [40,45],aQ 47 .geq 46 0]⟩,⟨none,[c6 48 39 47]⟩]) <|
 .cond (.tmp 48) (.seq (ao [bK 2 false]) <|
 .ret) (.skip))) <|
 ao [aj 19 3,aQ 20 .add 19 1,aj 3 20]
def qP:SF:=⟨.seq (ao [cL 1 0,bK 2 false]) <|
 .seq (.seq (.region false [⟨none,[aB 4 1 1,ax 5 4,aX 6 5,aQ 7 .lss 6 1,aj 8 7]⟩,⟨(some (8,false)),[aB 9 1 1,ax 10 9,aX 11 10,aQ 12 .gtr 11 16]⟩,⟨none,[c6 13 8 12]⟩]) <|
 .cond (.tmp 13) (.seq (ao [bK 2 false]) <|
 .ret) (.skip)) <|
 .seq (.seq (ao [bj 3 0]) <|
 .block 0 (.loop ox)) <|
 .seq (ao [bK 2 true]) <|
 .ret,
 [.tmp 2],49⟩
theorem vB:aV Tryz.prog 105 [1]=some qP:=by kernel_rfl
def nR:SC :=
 .seq (.seq (ao [aj 23 5,aB 24 1 3,ax 25 24,aX 26 25,bc 27 .lss 23 26]) <|
 .cond (.tmp 27) (.skip) (.exit 0)) <|
 .seq (.block 1 (.seq (.region false [⟨none,[bp 30 4 2,aB 31 1 3,ax 32 31,aj 33 5,aP 34 1 32 33,ax 35 34,bC 36 155 [30,35],dd 37 36,aj 38 37]⟩,⟨(some (38,false)),[aB 39 1 3,ax 40 39,aj 41 5,aP 42 1 40 41,ax 43 42,aQ 44 .geq 43 0,aj 45 44]⟩,⟨(some (45,true)),[aB 46 2 3,ax 47 46,aQ 48 .eql 47 (-1)]⟩,⟨(some (38,false)),[eF 49 45 48]⟩,⟨none,[c6 50 38 49]⟩]) <|
 .cond (.tmp 50) (.seq (ao [bK 4 false]) <|
 .ret) (.skip))) <|
 ao [aj 28 5,aQ 29 .add 28 1,aj 5 29]
def qO:SF:=⟨.seq (ao [cL 2 0,cL 3 1,bK 4 false]) <|
 .seq (.seq (.region false [⟨none,[aB 6 1 3,ax 7 6,aX 8 7,aQ 9 .gtr 8 6,aj 10 9]⟩,⟨(some (10,false)),[aB 11 2 3,ax 12 11,aQ 13 .lss 12 (-1)]⟩,⟨none,[c6 14 10 13,aj 15 14]⟩,⟨(some (15,false)),[aB 16 2 3,ax 17 16,aB 18 0 2,ax 19 18,aX 20 19,bc 21 .geq 17 20]⟩,⟨none,[c6 22 15 21]⟩]) <|
 .cond (.tmp 22) (.seq (ao [bK 4 false]) <|
 .ret) (.skip)) <|
 .seq (.seq (ao [bj 5 0]) <|
 .block 0 (.loop nR)) <|
 .seq (ao [bK 4 true]) <|
 .ret,
 [.tmp 4],51⟩
theorem ve:aV Tryz.prog 106 [2,3]=some qO:=by kernel_rfl
def ng:SC :=
 .seq (.seq (ao [aj 39 4,aB 40 2 1,ax 41 40,aX 42 41,bc 43 .lss 39 42]) <|
 .cond (.tmp 43) (.skip) (.exit 0)) <|
 .seq (.block 1 (.seq (ao [aB 46 2 1,ax 47 46,aj 48 4,aP 49 3 47 48,bp 50 3 49,((some 5),.op (.alloc [(.val (.int .i64 0)),(.emp 1),(.val (.int .i64 0))])),(none,.op (.store 3 (.tmp 5) (.tmp 50)))]) <|
 .seq (.seq (.region false [⟨none,[aB 51 0 5,ax 52 51,aQ 53 .lss 52 0,aj 54 53]⟩,⟨(some (54,false)),[aB 55 0 5,ax 56 55,aj 57 3,aQ 58 .add 57 1,bc 59 .gtr 56 58]⟩,⟨none,[c6 60 54 59,aj 61 60]⟩,⟨(some (61,false)),[bp 62 4 1,bp 63 3 5,bC 64 106 [62,63],dd 65 64]⟩,⟨none,[c6 66 61 65]⟩]) <|
 .cond (.tmp 66) (.seq (ao [bK 2 false]) <|
 .ret) (.skip)) <|
 .seq (ao [aB 67 0 5,ax 68 67,aj 69 3,bc 70 .gtr 68 69]) <|
 .cond (.tmp 70) (ao [aB 71 0 5,ax 72 71,aj 3 72]) (.skip))) <|
 ao [aj 44 4,aQ 45 .add 44 1,aj 4 45]
def oU:SF:=⟨.seq (ao [cL 1 0,bK 2 false]) <|
 .seq (.seq (.region false [⟨none,[bp 6 4 1,bC 7 104 [6],dd 8 7,aj 9 8]⟩,⟨(some (9,false)),[bp 10 4 1,bC 11 105 [10],dd 12 11]⟩,⟨none,[c6 13 9 12,aj 14 13]⟩,⟨(some (14,false)),[aB 15 2 1,ax 16 15,aX 17 16,aQ 18 .lss 17 1]⟩,⟨none,[c6 19 14 18,aj 20 19]⟩,⟨(some (20,false)),[aB 21 2 1,ax 22 21,aX 23 22,aQ 24 .gtr 23 40]⟩,⟨none,[c6 25 20 24,aj 26 25]⟩,⟨(some (26,false)),[aB 27 3 1,ax 28 27,aQ 29 .lss 28 0]⟩,⟨none,[c6 30 26 29,aj 31 30]⟩,⟨(some (31,false)),[aB 32 3 1,ax 33 32,aB 34 1 1,ax 35 34,aX 36 35,bc 37 .geq 33 36]⟩,⟨none,[c6 38 31 37]⟩]) <|
 .cond (.tmp 38) (.seq (ao [bK 2 false]) <|
 .ret) (.skip)) <|
 .seq (ao [bj 3 (-1)]) <|
 .seq (.seq (ao [bj 4 0]) <|
 .block 0 (.loop ng)) <|
 .seq (ao [aj 73 3,aB 74 1 1,ax 75 74,aX 76 75,aQ 77 .sub 76 1,bc 78 .eql 73 77,aj 2 78]) <|
 .ret,
 [.tmp 2],79⟩
theorem uQ:aV Tryz.prog 54 [1]=some oU:=by kernel_rfl
set_option maxHeartbeats 2000000 in
theorem LA (g:aw) (hg:g.Ok) (H:View):aC Tryz.prog 104 [.agg (au g)] H fun r _=>r=gb (j7 g):=by
 refine aC.of mixed uA ?_
 simp (disch:=omega) only [↓wr,seval,wq,ah,ag,ak,aa,ab,af,ai,ae,oY,au,encS]
 refine av.dec (fun h=>?_) (fun h=>?_)
 ·simp (disch:=omega) only [↓wr,seval,wq,ah,ag,ak,aa,ab,af,ai,ae]
  simp[j7,show ¬ g.ay.length≤24 by omega]
 ·have hle:g.ay.length≤24:=by omega
  simp (disch:=omega) only [↓wr,seval,wq,ah,ag,ak,aa,ab,af,ai,ae]
  refine aZ.intro (fun k T _=>∃ i:Nat,i+k=g.ay.length∧j5 g (g.ay.drop i) i=j5 g g.ay 0∧T 1=.aN (au g) 0∧T 3=gi i) g.ay.length ?_ ?_
  ·exact ⟨0,by omega,rfl,rfl,rfl⟩
  ·rintro k T H' ⟨i,hk,hi,h1,h3⟩
   simp (disch:=omega) only [↓wr,seval,wq,ah,ag,ak,aa,ab,af,ai,ae,np,h1,h3,au]
   refine av.dec (fun hc=>?_) (fun hc=>?_)
   ·have hg2:g.ay[i]?=some (g.ay[i]'(by omega)):=U9 (by omega)
    rw[eW (show i < g.ay.length by omega)] at hi
    have hmem:g.ay[i]'(by omega)∈g.ay:=Vi _
    generalize g.ay[i]'(by omega)=t at hg2 hi hmem
    obtain ⟨⟨hl1,hl2⟩,⟨ha1,ha2⟩⟩:=hg.term t hmem
    simp only[j5] at hi
    have hbad:kp g i t=false→gb false=gb (j7 g):=fun e=>by rw[e,WN] at hi; simp[j7,← hi]
    simp (disch:=omega) only [↓wr,seval,wq,ah,ag,ak,aa,ab,af,ai,ae,h1,h3,au,b6,Vc,hg2,Vh]
    intro m hm
    try simp (disch:=omega) only [↓wr,seval,wq,ah,ag,ak,aa,ab,af,ai,ae,h1,h3]
    refine aD.pure (KL t.name) (by kernel_rfl) ?_
    repeat' (first | (refine av.dec (fun _=>?_) (fun _=>?_)) | (refine av.eq (fun _=>?_) (fun _=>?_)) | (refine av.ne (fun _=>?_) (fun _=>?_)) | (refine av.split (fun _=>?_) (fun _=>?_)) | (simp (disch:=omega) only [↓wr,seval,wq,ah,ag,ak,aa,ab,af,ai,ae,h1,h3,au]))
    all_goals try (refine hbad ?_; simp[kp, *]; done)
    rename_i hnm
    refine aD.pure (Ea g hg t.name) (by kernel_rfl) ?_
    repeat' (first | (refine av.dec (fun _=>?_) (fun _=>?_)) | (refine av.eq (fun _=>?_) (fun _=>?_)) | (refine av.ne (fun _=>?_) (fun _=>?_)) | (refine av.split (fun _=>?_) (fun _=>?_)) | (simp (disch:=omega) only [↓wr,seval,wq,ah,ag,ak,aa,ab,af,ai,ae,h1,h3,au]))
    all_goals try (refine hbad ?_; simp[kp, *]; done)
    all_goals try (refine hbad ?_; simp[kp]; grind)
    rename_i e1 e2 e3 e4 e5 e6
    have hpre:kp g i t=rO g t:=by
     have e6':((t.level == 0) == (t.assoc == 0))=true:=by simpa using e6
     simp[kp,hnm,e1,e6',show (0:Int)≤t.level by omega,show t.level≤24 by omega,show (0:Int)≤t.assoc by omega,show t.assoc≤3 by omega]
    refine aZ.intro (fun k' T H''=>∃ j:Nat,1≤j∧j+k'=t.level.toNat+1∧(∀ q:Nat,q+1 < j→ie g.ay ((q:Int)+1)=true)∧T 1=.aN (au g) 0∧T 3=gi i∧T 4=.ptr m 0 0∧H'' m=.arr 3 [[gs t.name,gi t.level,gi t.assoc]]∧T 5=gi j) t.level.toNat ?_ ?_
    ·refine ⟨1,by omega,by omega,fun q hq=>by omega,?_⟩
     simp (disch:=omega) only [↓wr,↓reduceIte,wq,ah,ag,ak,aa,ab,af,ai,ae,Nat.reduceEqDiff,Nat.reduceAdd,Nat.reduceLT,Nat.reduceLeDiff,Int.reduceNeg,Int.reduceToNat,reduceCtorEq,h1,h3,au]
     rfl
    ·rintro k' T' H'' ⟨j,hj1,hj2,hj3,f1,f3,f4,fm,f5⟩
     simp (disch:=omega) only [↓wr,seval,wq,ah,ag,ak,aa,ab,af,ai,ae,nK,f1,f3,f4,f5,fm]
     refine av.dec (fun hd=>?_) (fun hd=>?_)
     ·simp (disch:=omega) only [↓wr,seval,wq,ah,ag,ak,aa,ab,af,ai,ae,f1,f3,f4,f5,fm,au]
      refine aD.pure (LH g hg j) (by kernel_rfl) ?_
      repeat' (first | (refine av.dec (fun _=>?_) (fun _=>?_)) | (refine av.eq (fun _=>?_) (fun _=>?_)) | (refine av.ne (fun _=>?_) (fun _=>?_)) | (refine av.split (fun _=>?_) (fun _=>?_)) | (simp (disch:=omega) only [↓wr,seval,wq,ah,ag,ak,aa,ab,af,ai,ae,f1,f3,f4,f5,fm,au]))
      ·rename_i hb
       refine ⟨k' - 1,by omega,j+1,by omega,by omega,fun q hq=>?_,by first | rfl | exact ⟨rfl,rfl⟩ | exact ⟨rfl,rfl,rfl⟩⟩
       by_cases e:q+1=j
       ·have:(q:Int)+1=j:=by omega
        rw[this]; exact hb
       ·exact hj3 q (by omega)
      ·rename_i hb
       refine hbad ?_
       rw[hpre,rO,List.all_eq_false]
       refine ⟨j - 1,by simp; omega,?_⟩
       have:((j - 1:Nat):Int)+1=j:=by omega
       rw[this,hb]; simp
     ·simp (disch:=omega) only [↓wr,seval,wq,ah,ag,ak,aa,ab,af,ai,ae,f1,f3,f4,f5,fm]
      refine ⟨k - 1,by omega,i+1,by omega,?_,by first | rfl | exact ⟨rfl,rfl⟩ | exact ⟨rfl,rfl,rfl⟩⟩
      have hlv:rO g t=true:=by
       rw[rO,VK]
       intro q hq
       exact hj3 q (by simp at hq; omega)
      rw[hpre,hlv,Wo] at hi
      push_cast; exact hi
   ·rw[VD (by omega)] at hi
    simp only[j5] at hi
    simp (disch:=omega) only [↓wr,seval,wq,ah,ag,ak,aa,ab,af,ai,ae,h1,h3]
    simp[j7,hle,← hi]
theorem Lb (g:aw) (hg:g.Ok):aI Tryz.prog 104 [.agg (au g)] (gb (j7 g)):=aI.val (dZ g) (LA g hg)
def lY (g:aw) (i:Int) (s:ByteArray):Bool:=gC (fJ s) && (zn g s == i) && decide (mF g s < 0)
def rQ (g:aw):List ByteArray→Int→Bool
 | [],_=>true
 | s :: r,i=>lY g i s && rQ g r (i+1)
def kR (g:aw):Bool:=decide (1≤g.az.length) && decide (g.az.length≤16) && rQ g g.az 0
set_option maxHeartbeats 1000000 in
theorem OH (g:aw) (hg:g.Ok) (H:View):aC Tryz.prog 105 [.agg (au g)] H fun r _=>r=gb (kR g):=by
 refine aC.of mixed vB ?_
 repeat' (first | (refine av.dec (fun _=>?_) (fun _=>?_)) | (refine av.eq (fun _=>?_) (fun _=>?_)) | (refine av.ne (fun _=>?_) (fun _=>?_)) | (refine av.split (fun _=>?_) (fun _=>?_)) | (simp (disch:=omega) only [↓wr,seval,wq,ah,ag,ak,aa,ab,af,ai,ae,qP,au,encS]))
 ·simp[kR,show ¬ 1≤g.az.length by omega]
 ·simp[kR,show ¬ g.az.length≤16 by omega]
 ·have hle:g.az.length≤16:=by omega
  refine aZ.intro (fun k T _=>∃ i:Nat,i+k=g.az.length∧rQ g (g.az.drop i) i=rQ g g.az 0∧T 1=.aN (au g) 0∧T 3=gi i) g.az.length ?_ ?_
  ·exact ⟨0,by omega,rfl,rfl,rfl⟩
  ·rintro k T H' ⟨i,hk,hi,h1,h3⟩
   simp (disch:=omega) only [↓wr,seval,wq,ah,ag,ak,aa,ab,af,ai,ae,ox,h1,h3,au,encS]
   refine av.dec (fun hc=>?_) (fun hc=>?_)
   ·have hg2:g.az[i]?=some (g.az[i]'(by omega)):=U9 (by omega)
    rw[eW (show i < g.az.length by omega)] at hi
    generalize g.az[i]'(by omega)=t at hg2 hi
    simp only[rQ] at hi
    have hbad:lY g i t=false→gb false=gb (kR g):=fun e=>by rw[e,WN] at hi; simp[kR,← hi]
    simp (disch:=omega) only [↓wr,seval,wq,ah,ag,ak,aa,ab,af,ai,ae,h1,h3,au,encS,Vc,hg2,Vh]
    refine aD.pure (EF t) (by kernel_rfl) ?_
    repeat' (first | (refine av.dec (fun _=>?_) (fun _=>?_)) | (refine av.eq (fun _=>?_) (fun _=>?_)) | (refine av.ne (fun _=>?_) (fun _=>?_)) | (refine av.split (fun _=>?_) (fun _=>?_)) | (simp (disch:=omega) only [↓wr,seval,wq,ah,ag,ak,aa,ab,af,ai,ae,h1,h3,au,encS,Vc,hg2,Vh]))
    all_goals try (refine hbad ?_; simp[lY, *]; done)
    rename_i hnm
    refine aD.pure (QS g hg t) (by kernel_rfl) ?_
    repeat' (first | (refine av.dec (fun _=>?_) (fun _=>?_)) | (refine av.eq (fun _=>?_) (fun _=>?_)) | (refine av.ne (fun _=>?_) (fun _=>?_)) | (refine av.split (fun _=>?_) (fun _=>?_)) | (simp (disch:=omega) only [↓wr,seval,wq,ah,ag,ak,aa,ab,af,ai,ae,h1,h3,au,encS,Vc,hg2,Vh]))
    all_goals try (refine hbad ?_; simp[lY, *]; done)
    rename_i hno
    refine aD.pure (Ea g hg t) (by kernel_rfl) ?_
    repeat' (first | (refine av.dec (fun _=>?_) (fun _=>?_)) | (refine av.eq (fun _=>?_) (fun _=>?_)) | (refine av.ne (fun _=>?_) (fun _=>?_)) | (refine av.split (fun _=>?_) (fun _=>?_)) | (simp (disch:=omega) only [↓wr,seval,wq,ah,ag,ak,aa,ab,af,ai,ae,h1,h3,au,encS]))
    all_goals try (refine hbad ?_; simp[lY, *]; done)
    rename_i hte
    refine ⟨k - 1,by omega,i+1,by omega,?_,by first | rfl | exact ⟨rfl,rfl⟩ | exact ⟨rfl,rfl,rfl⟩⟩
    have:lY g i t=true:=by simp[lY,hnm,hno,show mF g t < 0 by omega]
    rw[this,Wo] at hi
    push_cast; exact hi
   ·rw[VD (by omega)] at hi
    simp only[rQ] at hi
    simp (disch:=omega) only [↓wr,seval,wq,ah,ag,ak,aa,ab,af,ai,ae,h1,h3]
    simp[kR,hle,show 1≤g.az.length by omega,← hi]
theorem Ns (g:aw) (hg:g.Ok):aI Tryz.prog 105 [.agg (au g)] (gb (kR g)):=aI.val (dZ g) (OH g hg)
def mT (g:aw) (prec s:Int):Bool:=gu g s && !(decide (0≤s) && prec == -1)
def iM (g:aw) (r:bw):Bool:=decide (r.right.length≤6) && decide (-1≤r.prec) && decide (r.prec < g.ay.length) && r.right.all (mT g r.prec)
theorem Is (g:aw) (r:bw):∀ v∈[V.agg (au g),V.agg (aO r)],Tree v:=by
 intro v hv; simp at hv
 rcases hv with rfl | rfl
 ·exact cI _ (dH g)
 ·exact cI _ (gL r)
set_option maxHeartbeats 1000000 in
theorem NA (g:aw) (r:bw) (hr:aS r.right∧∀ x∈r.right,cm x) (H:View):aC Tryz.prog 106 [.agg (au g),.agg (aO r)] H fun v _=>v=gb (iM g r):=by
 refine aC.of mixed ve ?_
 repeat' (first | (refine av.dec (fun _=>?_) (fun _=>?_)) | (refine av.eq (fun _=>?_) (fun _=>?_)) | (refine av.ne (fun _=>?_) (fun _=>?_)) | (refine av.split (fun _=>?_) (fun _=>?_)) | (simp (disch:=omega) only [↓wr,seval,wq,ah,ag,ak,aa,ab,af,ai,ae,qO,au,encS,aO,encI]))
 ·simp[iM,show ¬ r.right.length≤6 by omega]
 ·simp[iM,show ¬ -1≤r.prec by omega]
 ·simp[iM,show ¬ r.prec < g.ay.length by omega]
 ·have hle:r.right.length≤6:=by omega
  have hp1 : -1≤r.prec:=by omega
  have hp2:r.prec < g.ay.length:=by omega
  refine aZ.intro (fun k T _=>∃ i:Nat,i+k=r.right.length∧(r.right.drop i).all (mT g r.prec)=r.right.all (mT g r.prec)∧T 2=.aN (au g) 0∧T 3=.aN (aO r) 0∧T 5=gi i) r.right.length ?_ ?_
  ·exact ⟨0,by omega,rfl,rfl,rfl,rfl⟩
  ·rintro k T H' ⟨i,hk,hi,h2,h3,h5⟩
   simp (disch:=omega) only [↓wr,seval,wq,ah,ag,ak,aa,ab,af,ai,ae,nR,h2,h3,h5,aO,encI]
   refine av.dec (fun hc=>?_) (fun hc=>?_)
   ·have hg2:r.right[i]?=some (r.right[i]'(by omega)):=U9 (by omega)
    rw[eW (show i < r.right.length by omega)] at hi
    have hmem:r.right[i]'(by omega)∈r.right:=Vi _
    generalize r.right[i]'(by omega)=t at hg2 hi hmem
    have hin:=hr.2 t hmem
    simp only[Wn] at hi
    have hbad:mT g r.prec t=false→gb false=gb (iM g r):=fun e=>by rw[e,WN] at hi; simp only[iM,← hi,Bool.and_false]
    have hok:mT g r.prec t=true→(r.right.drop (i+1)).all (mT g r.prec)=r.right.all (mT g r.prec):=fun e=>by rw[e,Wo] at hi; exact hi
    simp (disch:=omega) only [↓wr,seval,wq,ah,ag,ak,aa,ab,af,ai,ae,h2,h3,h5,au,encS,aO,encI,Vc,hg2,Vh]
    refine aD.pure (N8 g t hin) (by kernel_rfl) ?_
    repeat' (first | (refine av.dec (fun _=>?_) (fun _=>?_)) | (refine av.eq (fun _=>?_) (fun _=>?_)) | (refine av.ne (fun _=>?_) (fun _=>?_)) | (refine av.split (fun _=>?_) (fun _=>?_)) | (simp (disch:=omega) only [↓wr,seval,wq,ah,ag,ak,aa,ab,af,ai,ae,h2,h3,h5,au,encS,aO,encI,Vc,hg2,Vh]))
    all_goals first
     | (refine hbad ?_; simp[mT, *]; done)
     | (refine ⟨k - 1,by omega,i+1,by omega,hok (by simp[mT, *]; done),by first | rfl | exact ⟨rfl,rfl⟩ | exact ⟨rfl,rfl,rfl⟩⟩)
     | skip
   ·rw[VD (by omega)] at hi
    simp only[List.all_nil] at hi
    simp (disch:=omega) only [↓wr,seval,wq,ah,ag,ak,aa,ab,af,ai,ae,h2,h3,h5]
    simp only[iM,hle,hp1,hp2,decide_true,Wo,← hi]
theorem NU (g:aw) (r:bw) (hr:aS r.right∧∀ x∈r.right,cm x):aI Tryz.prog 106 [.agg (au g),.agg (aO r)] (gb (iM g r)):=aI.val (Is g r) (NA g r hr)
def ic (g:aw):List bw→Int→Bool
 | [],top=>top == (g.az.length:Int) - 1
 | r :: l,top=>decide (0≤r.left) && decide (r.left≤top+1) && iM g r && ic g l (if r.left > top then r.left else top)
def bS (g:aw):Bool :=
 j7 g && kR g && decide (1≤g.rules.length) && decide (g.rules.length≤40) && decide (0≤g.start) && decide (g.start < g.az.length) && ic g g.rules (-1)
set_option maxHeartbeats 1000000 in
theorem KX (g:aw) (hg:g.Ok) (H:View):aC Tryz.prog 54 [.agg (au g)] H fun r _=>r=gb (bS g):=by
 refine aC.of mixed uQ ?_
 have hn:=hg.az
 unfold aS at hn
 simp (disch:=omega) only [↓wr,seval,wq,ah,ag,ak,aa,ab,af,ai,ae,oU,au,encS]
 refine aD.pure (Lb g hg) (by kernel_rfl) ?_
 repeat' (first | (refine av.dec (fun _=>?_) (fun _=>?_)) | (refine av.eq (fun _=>?_) (fun _=>?_)) | (refine av.ne (fun _=>?_) (fun _=>?_)) | (refine av.split (fun _=>?_) (fun _=>?_)) | (simp (disch:=omega) only [↓wr,seval,wq,ah,ag,ak,aa,ab,af,ai,ae,au,encS]))
 ·rename_i h1
  refine aD.pure (Ns g hg) (by kernel_rfl) ?_
  repeat' (first | (refine av.dec (fun _=>?_) (fun _=>?_)) | (refine av.eq (fun _=>?_) (fun _=>?_)) | (refine av.ne (fun _=>?_) (fun _=>?_)) | (refine av.split (fun _=>?_) (fun _=>?_)) | (simp (disch:=omega) only [↓wr,seval,wq,ah,ag,ak,aa,ab,af,ai,ae,au,encS]))
  all_goals try (simp[bS, *]; done)
  all_goals try (simp[bS]; omega)
  rename_i h2 h3 h4 h5 h6
  have hle:g.rules.length≤40:=by omega
  have hpre:∀ b,ic g g.rules (-1)=b→gb b=gb (bS g):=fun b e=>by
   simp[bS,h1,h2,show 1≤g.rules.length by omega,hle,show 0≤g.start by omega,show g.start < g.az.length by omega,e]
  refine aZ.intro (fun k T _=>∃ (i:Nat) (w:Int),i+k=g.rules.length∧-1≤w∧w < i∧ic g (g.rules.drop i) w=ic g g.rules (-1)∧T 1=.aN (au g) 0∧T 3=gi w∧T 4=gi i) g.rules.length ?_ ?_
  ·exact ⟨0,-1,by omega,by omega,by omega,rfl,rfl,rfl,rfl⟩
  ·rintro k T H' ⟨i,w,hk,hw1,hw2,hi,f1,f3,f4⟩
   simp (disch:=omega) only [↓wr,seval,wq,ah,ag,ak,aa,ab,af,ai,ae,ng,f1,f3,f4,au]
   refine av.dec (fun hc=>?_) (fun hc=>?_)
   ·have hg2:g.rules[i]?=some (g.rules[i]'(by omega)):=U9 (by omega)
    rw[eW (show i < g.rules.length by omega)] at hi
    have hmem:g.rules[i]'(by omega)∈g.rules:=Vi _
    generalize g.rules[i]'(by omega)=t at hg2 hi hmem
    obtain ⟨⟨hl1,hl2⟩,hp,hr1,hr2⟩:=hg.aF t hmem
    simp only[ic] at hi
    simp (disch:=omega) only [↓wr,seval,wq,ah,ag,ak,aa,ab,af,ai,ae,f1,f3,f4,au,encS,aO,encI,Vc,hg2,Vh]
    intro m hm
    try simp (disch:=omega) only [↓wr,seval,wq,ah,ag,ak,aa,ab,af,ai,ae,f1,f3,f4]
    repeat' (first | (refine av.dec (fun _=>?_) (fun _=>?_)) | (refine av.eq (fun _=>?_) (fun _=>?_)) | (refine av.ne (fun _=>?_) (fun _=>?_)) | (refine av.split (fun _=>?_) (fun _=>?_)) | (simp (disch:=omega) only [↓wr,seval,wq,ah,ag,ak,aa,ab,af,ai,ae,f1,f3,f4,au,encS,aO,encI]))
    all_goals try (refine hpre _ ?_; simp only[← hi]; simp; omega)
    rename_i e1 e2
    refine aD.pure (NU g t ⟨hr1,hr2⟩) (by kernel_rfl) ?_
    repeat' (first | (refine av.dec (fun _=>?_) (fun _=>?_)) | (refine av.eq (fun _=>?_) (fun _=>?_)) | (refine av.ne (fun _=>?_) (fun _=>?_)) | (refine av.split (fun _=>?_) (fun _=>?_)) | (simp (disch:=omega) only [↓wr,seval,wq,ah,ag,ak,aa,ab,af,ai,ae,f1,f3,f4,au,encS,aO,encI]))
    all_goals simp only[show 0≤t.left by omega,show t.left≤w+1 by omega,decide_true,Wo] at hi
    ·rename_i e3 e4
     rw[e3,Wo,Vd e4] at hi
     exact ⟨k - 1,by omega,i+1,_,by omega,by omega,by push_cast; omega,hi,by first | rfl | exact ⟨rfl,rfl⟩ | exact ⟨rfl,rfl,rfl⟩⟩
    ·rename_i e3 e4
     rw[e3,Wo,Va e4] at hi
     exact ⟨k - 1,by omega,i+1,_,by omega,by omega,by push_cast; omega,hi,by first | rfl | exact ⟨rfl,rfl⟩ | exact ⟨rfl,rfl,rfl⟩⟩
    ·rename_i e3
     rw[e3,WN] at hi
     exact hpre _ hi.symm
   ·rw[VD (by omega)] at hi
    simp only[ic] at hi
    simp (disch:=omega) only [↓wr,seval,wq,ah,ag,ak,aa,ab,af,ai,ae,f1,f3,f4,au,encS]
    exact hpre _ hi.symm
 ·rename_i h1; simp[bS,h1]
theorem lH (g:aw) (hg:g.Ok):aI Tryz.prog 54 [.agg (au g)] (gb (bS g)):=aI.val (dZ g) (KX g hg)
inductive cK (α:Type) where
 | nil
 | node (v:α) (l r:cK α)
noncomputable def cK.get {α:Type} (z:α) (t:cK α):Nat→α :=
 cK.rec (motive:=fun _=>Nat→α) (fun _=>z) (fun v _ _ gl gr i=>Bool.rec (Bool.rec (gr (i / 2 - 1)) (gl (i / 2)) (Nat.beq (i % 2) 1)) v (Nat.beq i 0)) t
theorem cK.get_nil {α:Type} (z:α) (i:Nat):cK.get z .nil i=z:=rfl
theorem cK.QI {α:Type} (z v:α) (l r:cK α) (i:Nat):cK.get z (.node v l r) i=match Nat.beq i 0 with
  | true=>v
  | false=>match Nat.beq (i % 2) 1 with
   | true=>cK.get z l (i / 2)
   | false=>cK.get z r (i / 2 - 1):=by
 change (Bool.rec (motive:=fun _=>α) _ _ _:α)=_
 cases Nat.beq i 0 with
 | true=>rfl
 | false=>cases Nat.beq (i % 2) 1 <;> rfl
def cK.val {α:Type} (z:α):cK α→α
 | .nil=>z
 | .node v _ _=>v
def cK.left {α:Type} : cK α→cK α
 | .nil=>.nil
 | .node _ l _=>l
def cK.right {α:Type} : cK α→cK α
 | .nil=>.nil
 | .node _ _ r=>r
noncomputable def cK.put {α:Type} (z:α) (x:α) (d:Nat):cK α→Nat→cK α :=
 Nat.rec (motive:=fun _=>cK α→Nat→cK α) (fun t _=>t) (fun _ pd t i =>
  Bool.rec (Bool.rec (.node (t.val z) t.left (pd t.right (i / 2 - 1))) (.node (t.val z) (pd t.left (i / 2)) t.right) (Nat.beq (i % 2) 1)) (.node x t.left t.right) (Nat.beq i 0)) d
theorem cK.PG {α:Type} (z x:α) (d:Nat) (t:cK α) (i:Nat):cK.put z x (d+1) t i=match Nat.beq i 0 with
  | true=>.node x t.left t.right
  | false=>match Nat.beq (i % 2) 1 with
   | true=>.node (t.val z) (cK.put z x d t.left (i / 2)) t.right
   | false=>.node (t.val z) t.left (cK.put z x d t.right (i / 2 - 1)):=by
 change (Bool.rec (motive:=fun _=>cK α) _ _ _:cK α)=_
 cases Nat.beq i 0 with
 | true=>rfl
 | false=>cases Nat.beq (i % 2) 1 <;> rfl
theorem cK.nJ {α:Type} (z:α) (t:cK α) (j:Nat):t.get z j=if j=0 then t.val z else if j % 2=1 then t.left.get z (j / 2) else t.right.get z (j / 2 - 1):=by
 cases t with
 | nil=>simp[cK.get_nil,cK.val,cK.left,cK.right]
 | node v l r =>
  simp only[cK.QI,cK.val,cK.left,cK.right]
  by_cases h:j=0
  ·subst h; rfl
  ·have:Nat.beq j 0=false:=by cases e:Nat.beq j 0 with | true=>exact absurd (Xc e) h | false=>rfl
   rw[this,Va h]
   simp only
   by_cases h2:j % 2=1
   ·have:Nat.beq (j % 2) 1=true:=by rw[h2]; rfl
    rw[this,Vd h2]
   ·have:Nat.beq (j % 2) 1=false:=by cases e:Nat.beq (j % 2) 1 with | true=>exact absurd (Xc e) h2 | false=>rfl
    rw[this,Va h2]
theorem cK.nG {α:Type} (z x:α):∀ (d:Nat) (t:cK α) (i j:Nat),i+1 < 2 ^ d→(cK.put z x d t i).get z j=if j=i then x else t.get z j
 | 0,t,i,j,h=>by simp at h
 | d+1,t,i,j,h=>by
  rw[Nat.pow_succ] at h
  simp only[cK.PG]
  by_cases hi:i=0
  ·subst hi
   have:Nat.beq 0 0=true:=rfl
   rw[this]
   simp only
   rw[cK.nJ,cK.nJ z t]
   simp only[cK.val,cK.left,cK.right]
   by_cases hj:j=0
   ·rw[Vd hj,Vd hj]
   ·rw[Va hj,Va hj,Va hj]
  ·have:Nat.beq i 0=false:=by cases e:Nat.beq i 0 with | true=>exact absurd (Xc e) hi | false=>rfl
   rw[this]
   simp only
   by_cases h2:i % 2=1
   ·have:Nat.beq (i % 2) 1=true:=by rw[h2]; rfl
    rw[this]
    simp only
    rw[cK.nJ,cK.nJ z t]
    simp only[cK.val,cK.left,cK.right]
    by_cases hj:j=0
    ·subst hj; rw[Vd rfl,Va (fun e=>hi e.symm),Vd rfl]
    ·rw[Va hj,Va hj]
     by_cases hj2:j % 2=1
     ·rw[Vd hj2,Vd hj2,cK.nG z x d _ _ _ (by omega)]
      by_cases e:j=i
      ·subst e; simp
      ·rw[Va e,Va (by omega)]
     ·rw[Va hj2,Va hj2,Va (fun e=>hj2 (by rw[e]; exact h2))]
   ·have:Nat.beq (i % 2) 1=false:=by cases e:Nat.beq (i % 2) 1 with | true=>exact absurd (Xc e) h2 | false=>rfl
    rw[this]
    simp only
    rw[cK.nJ,cK.nJ z t]
    simp only[cK.val,cK.left,cK.right]
    by_cases hj:j=0
    ·subst hj; rw[Vd rfl,Va (fun e=>hi e.symm),Vd rfl]
    ·rw[Va hj,Va hj]
     by_cases hj2:j % 2=1
     ·rw[Vd hj2,Vd hj2,Va (fun e=>h2 (by rw[← e]; exact hj2))]
     ·rw[Va hj2,Va hj2,cK.nG z x d _ _ _ (by omega)]
      by_cases e:j=i
      ·subst e; simp
      ·rw[Va e,Va (by omega)]
abbrev deep:Nat:=13
structure ES where
 L:cK V
 H:cK cZ
 n:Nat
 w:List Nat
noncomputable def ES.T (s:ES):Env:=s.L.get .any
noncomputable def ES.V (s:ES):View:=s.H.get .dead
noncomputable def ES.put (s:ES) (d:Option Nat) (v:Gv.V):ES:=match d with
 | some t=>⟨s.L.put .any v deep t,s.H,s.n,s.w⟩
 | none=>s
theorem ES.Rk {s:ES} {d:Option Nat} {v:Gv.V} (h:∀ t,d=some t→t < 8000):(s.put d v).T=s.T.put d v:=by
 cases d with
 | none=>rfl
 | some t =>
  funext k
  have:=h t rfl
  simp only[ES.put,ES.T,Env.put]
  rw[cK.nG _ _ _ _ _ _ (by simp[deep]; omega)]
noncomputable def HC (v:V) (eff:bG) (rd:List Nat) (s:ES):Option (V × ES × Rec):=match eff with
 | .none=>some (v,s,⟨rd,[],false,s.n,s.n⟩)
 | .new o=>match Nat.ble s.n 8000 with
  | true=>some (v,⟨s.L,s.H.put .dead o deep s.n,s.n+1,s.w⟩,⟨rd,[],false,s.n,s.n+1⟩)
  | false=>none
 | .fj id o=>match Nat.ble id 8000 with
  | true=>some (v,⟨s.L,s.H.put .dead o deep id,s.n,id :: s.w⟩,⟨rd,[id],false,s.n,s.n⟩)
  | false=>none
 | .bL id o=>match Nat.ble s.n 8000,Nat.ble id 8000 with
  | true,true=>some (v,⟨s.L,(s.H.put .dead .dead deep id).put .dead o deep s.n,s.n+1,id :: s.w⟩,⟨rd,[id],false,s.n,s.n+1⟩)
  | _,_=>none
noncomputable def UH (x:SX) (_:Program) (T:Env) (_:View) (_:Nat):Out:=some (x.at T,.none,[])
noncomputable def TN (c a b:SX) (_:Program) (T:Env) (_:View) (_:Nat):Out:=match c.at T with
 | .val (.bool t)=>some (if t then a.at T else b.at T,.none,[])
 | _=>none
noncomputable def TJ (sz:Option Nat) (a:SX) (_:Program) (T:Env) (H:View) (_:Nat):Out:=xu sz (a.at T) H
noncomputable def Td (sz:Nat) (a x:SX) (_:Program) (T:Env) (H:View) (_:Nat):Out:=BW sz (a.at T) (x.at T) H
noncomputable def TP (off:Nat) (x:SX) (_:Program) (T:Env) (_:View) (_:Nat):Out:=z8 off (x.at T)
noncomputable def Uv (sz:Nat) (x i:SX) (_:Program) (T:Env) (_:View) (_:Nat):Out:=DI sz (x.at T) (i.at T)
noncomputable def Ux (x:SX) (_:Program) (T:Env) (_:View) (_:Nat):Out:=(cH (x.at T)).map fun n=>(ak n,.none,[])
noncomputable def Tq (op:BinOp) (x y:SX) (_:Program) (T:Env) (_:View) (_:Nat):Out:=zx op (x.at T) (y.at T)
noncomputable def Ut (op:BinOp) (x y:SX) (_:Program) (T:Env) (_:View) (_:Nat):Out:=Bg op (x.at T) (y.at T)
noncomputable def Uw (x:SX) (_:Program) (T:Env) (_:View) (_:Nat):Out:=match x.at T with
 | .val (.bool t)=>some (.val (.bool (!t)),.none,[])
 | _=>none
noncomputable def Ud (i:Nat) (x:SX) (_:Program) (T:Env) (_:View) (_:Nat):Out:=match x.at T with
 | .bI vs=>if i < vs.length then some (vs.getD i .any,.none,[]) else none
 | _=>none
noncomputable def TV (x:SX) (_:Program) (T:Env) (_:View) (_:Nat):Out:=match x.at T with
 | .ptr id i j=>some (.ptr id i j,.none,[])
 | .aN e j=>some (.aN e j,.none,[])
 | .fn f a b=>some (.fn f a b,.none,[])
 | _=>none
noncomputable def eI (s:SI):Program→Env→View→Nat→Out:=match s with
 | .bL x=>UH x
 | .pick c a b=>TN c a b
 | .load sz a=>TJ sz a
 | .store sz a x=>Td sz a x
 | .addr o x=>TP o x
 | .idx sz x i=>Uv sz x i
 | .len x=>Ux x
 | .arith op x y=>Tq op x y
 | .xN op x y=>Ut op x y
 | .not x=>Uw x
 | .ext i x=>Ud i x
 | .Bb x=>TV x
 | s=>fun P T H n=>sI P s T H n
theorem Lq (s:SI) (P:Program) (T:Env) (H:View) (n:Nat):eI s P T H n=sI P s T H n:=by
 cases s <;> rfl
abbrev iE:=FuncId→List V→ES→Option (V × ES)
noncomputable def MH (P:Program) (s:SI) (e:ES):Option (V × ES × Rec):=match eI s P e.T e.V e.n with
 | some (v,eff,rd)=>HC v eff rd e
 | none=>none
noncomputable def O1 (call:iE) (f:SX) (args:List SX) (e:ES):Option (V × ES × Rec):=match f.at e.T with
 | .fn g first cap=>match call g (first ++ args.map (SX.at e.T) ++ cap) e with
  | some (v,e')=>some (v,⟨e.L,e'.H,e'.n,e'.w ++ e.w⟩,⟨[],e'.w,true,e.n,e'.n⟩)
  | none=>none
 | _=>none
noncomputable def eB (P:Program) (call:iE) (b:SB):ES→Option (V × ES × Rec):=match b with
 | .op s=>MH P s
 | .call f args=>O1 call f args
 | .Aa ..=>fun _=>none
noncomputable def JI (P:Program) (call:iE):List (Option Nat × SB)→List Rec→ES→Option (ES × List Rec)
 | [],a,e=>some (e,a)
 | (d,b) :: r,a,e=>match eB P call b e with
  | some (v,e',c)=>JI P call r (a ++ [c]) (e'.put d v)
  | none=>none
noncomputable def Ro (e:ES):Rec:=⟨[],[],false,e.n,e.n⟩
noncomputable def xo:List (Option Nat × SB)→List Rec→ES→ES × List Rec
 | [],a,e=>(e,a)
 | (d,_) :: r,a,e=>xo r (a ++ [Ro e]) (e.put d (.bI []))
noncomputable def Nt (P:Program) (call:iE) (ops:List (Option Nat × SB)) (want:Bool) (v:V) (a:List Rec) (e:ES):Option (ES × List Rec):=match v with
 | .val (.bool b)=>match xor b want with
  | true=>some (xo ops a e)
  | false=>JI P call ops a e
 | .bI []=>some (xo ops a e)
 | _=>none
noncomputable def eG (P:Program) (call:iE) (g:SG) (a:List Rec) (e:ES):Option (ES × List Rec):=match g.guard with
 | none=>JI P call g.ops a e
 | some (d,want)=>Nt P call g.ops want (e.T d) a e
noncomputable def M6 (P:Program) (call:iE):List SG→List Rec→ES→Option (ES × List Rec)
 | [],a,e=>some (e,a)
 | g :: r,a,e=>match eG P call g a e with
  | some (e',a')=>M6 P call r a' e'
  | none=>none
inductive DC where
 | skip
 | region (ps:List (Nat × Nat)) (gs:List SG)
 | seq (x y:DC)
 | cond (c:SX) (x y:DC)
 | block (id:Nat) (c:DC)
 | loop (c:DC)
 | exit (id:Nat)
 | ret
 deriving Inhabited
def Mg (recs:List Rec) (ps:List (Nat × Nat)):Bool:=ps.all fun (i,k)=>match recs[i]?,recs[k]? with
 | some a,some b=>DW a b
 | _,_=>false
abbrev ER:=Option (Exit × ES)
abbrev xS:=DC→ES→ER
noncomputable def MQ:ES→ER:=fun e=>some (.normal,e)
noncomputable def Jz (P:Program) (call:iE) (ps:List (Nat × Nat)) (gs:List SG) (e:ES):ER:=match M6 P call gs [] e with
 | some (e',recs)=>match Mg recs ps with
  | true=>some (.normal,e')
  | false=>none
 | none=>none
noncomputable def SY (run:xS) (x y:DC) (e:ES):ER:=match run x e with
 | some (.normal,e')=>run y e'
 | r=>r
noncomputable def Rl (run:xS) (c:SX) (x y:DC) (e:ES):ER:=match c.at e.T with
 | .val (.bool true)=>run x e
 | .val (.bool false)=>run y e
 | _=>none
noncomputable def O5 (run:xS) (id:Nat) (c:DC) (e:ES):ER:=match run c e with
 | some (r,e')=>some (pX id r,e')
 | none=>none
noncomputable def Rf (run:xS) (c:DC) (e:ES):ER:=match run c e with
 | some (.normal,e')=>run (.loop c) e'
 | r=>r
noncomputable def mC (P:Program) (call:iE) (run:xS) (c:DC):ES→ER:=match c with
 | .skip=>MQ
 | .region ps gs=>Jz P call ps gs
 | .seq x y=>SY run x y
 | .cond c x y=>Rl run c x y
 | .block id c=>O5 run id c
 | .loop c=>Rf run c
 | .exit id=>fun e=>some (.exit id,e)
 | .ret=>fun e=>some (.ret,e)
noncomputable def PE (r:SR) (e:ES):Option V:=match r with
 | .tmp t=>some (e.T t)
 | .cell t sz=>match e.T t with
  | .ptr id i j=>match e.V id with
   | .arr _ es=>if i < es.length then mz sz (es.getD i []) j else none
   | _=>none
  | .aN e j=>mz sz e j
  | _=>none
noncomputable def wj:List SR→ES→Option (List V)
 | [],_=>some []
 | r :: l,e=>match PE r e,wj l e with
  | some v,some vs=>some (v :: vs)
  | _,_=>none
noncomputable def mW:List V→Nat→cK V→cK V
 | [],_,t=>t
 | v :: vs,i,t=>mW vs (i+1) (t.put .any v deep i)
structure DF where
 code:DC
 res:List SR
 n:Nat
noncomputable def SN (l:List SR) (r:ER):Option (V × ES):=match r with
 | some (.ret,e)=>(wj l e).map fun vs=>(ah vs,e)
 | some (.normal,e)=>(wj l e).map fun vs=>(ah vs,e)
 | _=>none
noncomputable def SU (m:Nat) (r:Option (V × ES)):Option (V × ES):=match r with
 | some (v,e)=>some (v,⟨e.L,e.H,e.n,e.w.filter fun id=>Nat.blt id m⟩)
 | none=>none
noncomputable def Tw (run:xS) (F:DF) (vs:List V) (e:ES):Option (V × ES):=match Nat.ble vs.length F.n,Nat.ble F.n 8000 with
 | true,true=>SU e.n (SN F.res (run F.code ⟨mW vs 0 .nil,e.H,e.n,[]⟩))
 | _,_=>none
abbrev zw:=FuncId→List V→View→Option V
noncomputable def FX (P:Program) (tab:List (FuncId × DF)) (ext:zw) (run:xS) (g:FuncId) (vs:List V) (e:ES):Option (V × ES):=match ext g vs e.V with
 | some t=>some (t,⟨e.L,e.H,e.n,[]⟩)
 | none=>match tab.find? (fun p=>Nat.beq p.1 g) with
  | some (_,F)=>Tw run F vs e
  | none=>none
noncomputable def HF (P:Program) (tab:List (FuncId × DF)) (ext:zw):Nat→xS
 | 0=>fun _ _=>none
 | k+1=>mC P (FX P tab ext (HF P tab ext k)) (HF P tab ext k)
def CU (all:List Oper) (ls:List Nat):List (Nat × Nat) :=
 let b:=fN all []
 (ls.zipIdx.map fun (x,i)=>(ls.zipIdx.filter fun (y,k)=>decide (i < k) && !(ordered b i k || x == 0 || y == 0 || (decide (x≤1) && decide (y≤1)))).map fun (_,k)=>(i,k)).flatten
def Hp (P:Program) (n:Nat) (fz:List Nat) (ops:List Oper) (draw:Bool):Option DC:=match dM P n ops ⟨fz,false⟩ ops with
 | none=>none
 | some l=>if !(group l).all tY then none else
  if draw then (if ma ops then some (.region (CU ops (l.map fun s=>jf P false s.b)) (group l)) else none) else some (.region [] (group l))
def jn (P:Program) (n:Nat) (fz:List Nat):Code→Option DC
 | .skip=>some .skip
 | .region _ ops draw=>Hp P n fz ops.toList draw
 | .seq x y=>match jn P n fz x,jn P n fz y with
  | some a,some b=>some (.seq a b)
  | _,_=>none
 | .cond c x y=>match jn P n fz x,jn P n fz y with
  | some a,some b=>some (.cond (SX.of c) a b)
  | _,_=>none
 | .block id c=>(jn P n fz c).map (.block id)
 | .loop c=>(jn P n fz c).map .loop
 | .exit id=>some (.exit id)
 | .ret=>some .ret
 | _=>none
abbrev U7 (l:List (Option Nat × SB)):DC:=.region [] [⟨none,l⟩]
def Hn (P:Program) (f:FuncId) (fz:List Nat):Option DF:=match P.funcs[f]? with
 | some fn=>match fn.body with
  | some c=>match jn P fn.ntmps fz c,fO P fn.results.toList,dJ P f with
   | some sc,some rs,true=>some ⟨sc,rs,fn.ntmps⟩
   | _,_,_=>none
  | none=>none
 | none=>none
end Gv
