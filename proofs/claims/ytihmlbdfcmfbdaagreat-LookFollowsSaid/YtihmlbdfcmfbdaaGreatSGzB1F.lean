/-
  Part 6 of the proof: what the machine does and what the functions answer.
  Conditions: those that each lemma names.
-/
import Derived.Test.YtihmlbdfcmfbdaaGreatSGzB1E
set_option linter.unusedSimpArgs false
set_option linter.unusedVariables false
set_option maxRecDepth 100000
namespace Gv
open Go Go.Proofs
def bZ (l:List Int) (is:List Bool) (av:Bool):Bool:=l.all fun s=>if 0≤s then av else is.getD (-1 - s).toNat false
def np:SC :=
 .seq (.seq (an [aj 8 7,aj 9 0,bj 10 9,bz 11 .lss 8 10]) <|
 .cond (.tmp 11) (.skip) (.exit 0)) <|
 .seq (.block 1 (.seq (.region false [⟨none,[aj 14 0,aj 15 7,aY 16 1 14 15,ay 17 16,aR 18 .geq 17 0,aj 19 18]⟩,⟨(some (19,true)),[aj 20 2,dm 21 20]⟩,⟨none,[gA 22 19 21,aj 23 22]⟩,⟨(some (23,false)),[aj 24 0,aj 25 7,aY 26 1 24 25,ay 27 26,aR 28 .lss 27 0,aj 29 28]⟩,⟨(some (29,true)),[aj 30 1,aj 31 0,aj 32 7,aY 33 1 31 32,ay 34 33,((some 35),.op (.arith .sub (.val (.val (.int .i64 (-1)))) (.tmp 34))),aY 36 1 30 35,ay 37 36,dm 38 37]⟩,⟨(some (23,false)),[gA 39 29 38]⟩,⟨none,[cU 40 23 39]⟩]) <|
 .cond (.tmp 40) (.seq (an [bK 6 false]) <|
 .ret) (.skip))) <|
 an [aj 12 7,aR 13 .add 12 1,aj 7 13]
def pn:SF:=⟨.seq (an [bK 6 false]) <|
 .seq (.seq (an [bA 7 0]) <|
 .block 0 (.loop np)) <|
 .seq (an [bK 6 true]) <|
 .ret,
 [.tmp 6],41⟩
theorem tG:aU Tryz.prog 117 []=some pn:=by kernel_rfl
theorem Pz (l:List Int) (is:List Bool) (t:Bool) (hl:aV l) (hs:∀ s∈l,cm s∧(s < 0→-1 - s < is.length)) (H:View) :
  aB Tryz.prog 117 [encI l,bG is,gb t] H fun r H'=>r=gb (bZ l is t)∧H'=H:=by
 refine aB.of mixed tG ?_
 unfold aV at hl
 simp (disch:=omega) only [↓wr,seval,wq,ah,ag,ak,aa,ab,af,ai,ae,pn]
 refine bg.intro (fun k T H'=>∃ i:Nat,i+k=l.length∧bZ (l.take i) is t=true∧T 0=encI l∧T 1=bG is∧T 2=gb t∧T 7=gi i∧H'=H) l.length ?_ ?_
 ·exact ⟨0,by omega,by simp[bZ],rfl,rfl,rfl,rfl,rfl⟩
 ·rintro k T H' ⟨i,hk,hi,h0,h1,h2,h7,rfl⟩
  simp (disch:=omega) only [↓wr,seval,wq,ah,ag,ak,aa,ab,af,ai,ae,np,h0,h1,h2,h7,encI]
  refine aq.dec (fun hc=>?_) (fun hc=>?_)
  ·have hg:l[i]?=some (l[i]'(by omega)):=Q7 (by omega)
   have hm:l[i]'(by omega)∈l:=Rj _
   generalize l[i]'(by omega)=s at hg hm
   obtain ⟨⟨hs1,hs2⟩,hs3⟩:=hs s hm
   have hstep:bZ (l.take (i+1)) is t=(if 0≤s then t else is.getD (-1 - s).toNat false):=by
    rw[RG,hg]
    simp only[bZ,Option.toList_some,List.all_append,Sn,List.all_nil,Bool.and_true] at hi ⊢
    rw[hi,Sq]
   have hfail:(if 0≤s then t else is.getD (-1 - s).toNat false)=false→bZ l is t=false:=by
    intro hb
    simp only[bZ,List.all_eq_false]
    exact ⟨s,hm,by simpa using hb⟩
   simp (disch:=omega) only [↓wr,seval,wq,ah,ag,ak,aa,ab,af,ai,ae,h0,h1,h2,h7,encI,Rc,hg,Rk]
   refine aq.dec (fun hd=>?_) (fun hd=>?_)
   ·rw[Ra (show 0≤s from hd)] at hstep hfail
    cases t with
    | true =>
     simp (disch:=omega) only [↓wr,seval,wq,ah,ag,ak,aa,ab,af,ai,ae,h0,h1,h2,h7,encI,Rc,hg,Rk]
     refine aq.dec (fun hn=>absurd hn (by omega)) (fun _=>?_)
     simp (disch:=omega) only [↓wr,seval,wq,ah,ag,ak,aa,ab,af,ai,ae,h0,h1,h2,h7,encI,bG,Rc,hg,Rk]
     exact ⟨k - 1,by omega,i+1,by omega,hstep,rfl⟩
    | false =>
     simp (disch:=omega) only [↓wr,seval,wq,ah,ag,ak,aa,ab,af,ai,ae,h0,h1,h2,h7,encI,Rc,hg,Rk]
     rw[hfail rfl]
   ·rw[Q9 (show ¬ 0≤s from hd)] at hstep hfail
    simp (disch:=omega) only [↓wr,seval,wq,ah,ag,ak,aa,ab,af,ai,ae,h0,h1,h2,h7,encI,Rc,hg,Rk]
    refine aq.dec (fun hn=>?_) (fun hn=>absurd hn (by omega))
    have hb:is[(-1 - s).toNat]?=some (is[(-1 - s).toNat]'(by omega)):=Q7 (by omega)
    have hbd:is.getD (-1 - s).toNat false=is[(-1 - s).toNat]'(by omega):=by simp[Q6,hb]
    rw[hbd] at hstep hfail
    generalize is[(-1 - s).toNat]'(by omega)=b at hb hstep hfail
    simp (disch:=omega) only [↓wr,seval,wq,ah,ag,ak,aa,ab,af,ai,ae,h0,h1,h2,h7,encI,bG,Rc,hg,hb,Rk]
    cases b with
    | true =>
     simp (disch:=omega) only [↓wr,seval,wq,ah,ag,ak,aa,ab,af,ai,ae,h0,h1,h2,h7,encI,bG,Rc,hg,hb,Rk]
     exact ⟨k - 1,by omega,i+1,by omega,hstep,rfl⟩
    | false =>
     simp (disch:=omega) only [↓wr,seval,wq,ah,ag,ak,aa,ab,af,ai,ae,h0,h1,h2,h7,encI,bG,Rc,hg,hb,Rk]
     rw[hfail rfl]
  ·simp (disch:=omega) only [↓wr,seval,wq,ah,ag,ak,aa,ab,af,ai,ae,h0,h1,h2,h7]
   have e:i=l.length:=by omega
   rw[Rz (by omega)] at hi
   rw[hi]
abbrev gy (x:Int):V:=.val (.int .u8 x)
def sZ (c:Int):Bool:=(decide (97≤c) && decide (c≤122)) || (decide (65≤c) && decide (c≤90)) || c == 95
def mM (c:Int):Bool:=sZ c || (decide (48≤c) && decide (c≤57)) || c == 46
def nf:SF:=⟨.seq (an [bK 2 false]) <|
 .seq (.region false [⟨none,[aj 3 0,((some 4),.op (.arith .geq (.tmp 3) (.val (.val (.int .u8 97))))),aj 5 4]⟩,⟨(some (5,true)),[aj 6 0,((some 7),.op (.arith .leq (.tmp 6) (.val (.val (.int .u8 122)))))]⟩,⟨none,[gA 8 5 7,aj 9 8]⟩,⟨(some (9,false)),[aj 10 0,((some 11),.op (.arith .geq (.tmp 10) (.val (.val (.int .u8 65))))),aj 12 11]⟩,⟨(some (12,true)),[aj 13 0,((some 14),.op (.arith .leq (.tmp 13) (.val (.val (.int .u8 90)))))]⟩,⟨(some (9,false)),[gA 15 12 14]⟩,⟨none,[cU 16 9 15,aj 17 16]⟩,⟨(some (17,false)),[aj 18 0,((some 19),.op (.arith .eql (.tmp 18) (.val (.val (.int .u8 95)))))]⟩,⟨none,[cU 20 17 19,aj 2 20]⟩]) <|
 .ret,
 [.tmp 2],21⟩
theorem rQ:aU Tryz.prog 193 []=some nf:=by kernel_rfl
def mU:SF:=⟨.seq (an [bK 2 false]) <|
 .seq (.region false [⟨none,[aj 3 0,bJ 4 193 [3],aj 5 4]⟩,⟨(some (5,false)),[aj 6 0,((some 7),.op (.arith .geq (.tmp 6) (.val (.val (.int .u8 48))))),aj 8 7]⟩,⟨(some (8,true)),[aj 9 0,((some 10),.op (.arith .leq (.tmp 9) (.val (.val (.int .u8 57)))))]⟩,⟨(some (5,false)),[gA 11 8 10]⟩,⟨none,[cU 12 5 11,aj 13 12]⟩,⟨(some (13,false)),[aj 14 0,((some 15),.op (.arith .eql (.tmp 14) (.val (.val (.int .u8 46)))))]⟩,⟨none,[cU 16 13 15,aj 2 16]⟩]) <|
 .ret,
 [.tmp 2],17⟩
theorem rP:aU Tryz.prog 194 []=some mU:=by kernel_rfl
theorem MO (c:Int) (H:View):aB Tryz.prog 193 [gy c] H fun r H'=>r=gb (sZ c)∧H'=H:=by
 refine aB.of mixed rQ ?_
 repeat' (first | (refine aq.dec (fun _=>?_) (fun _=>?_)) | (refine aq.eq (fun _=>?_) (fun _=>?_)) | (refine aq.ne (fun _=>?_) (fun _=>?_)) | (refine aq.split (fun _=>?_) (fun _=>?_)) | (simp (disch:=omega) only [↓wr,seval,wq,ah,ag,ak,aa,ab,af,ai,ae,nf]))
 all_goals (congr 2; simp only[sZ]; grind)
theorem Ft (c:Int):aG Tryz.prog 193 [gy c] (gb (sZ c)) :=
 aG.of (by intro v hv; simp at hv; subst hv; exact .val _) ((MO c _).mono fun r H' h h' _=>by rw[h.1]; exact .tree _ (.val _))
theorem MA (c:Int) (H:View):aB Tryz.prog 194 [gy c] H fun r H'=>r=gb (mM c)∧H'=H:=by
 refine aB.of mixed rP ?_
 repeat' (first | (refine aq.dec (fun _=>?_) (fun _=>?_)) | (refine aq.eq (fun _=>?_) (fun _=>?_)) | (refine aq.ne (fun _=>?_) (fun _=>?_)) | (refine aq.split (fun _=>?_) (fun _=>?_)) | (simp (disch:=omega) only [↓wr,seval,wq,ah,ag,ak,aa,ab,af,ai,ae,mU]))
 refine aF.pure (Ft c) (by kernel_rfl) ?_
 repeat' (first | (refine aq.dec (fun _=>?_) (fun _=>?_)) | (refine aq.eq (fun _=>?_) (fun _=>?_)) | (refine aq.ne (fun _=>?_) (fun _=>?_)) | (refine aq.split (fun _=>?_) (fun _=>?_)) | (simp (disch:=omega) only [↓wr,seval,wq,ah,ag,ak,aa,ab,af,ai,ae]))
 all_goals (congr 2; simp only[mM]; grind)
theorem Nu (c:Int):aG Tryz.prog 194 [gy c] (gb (mM c)) :=
 aG.of (by intro v hv; simp at hv; subst hv; exact .val _) ((MA c _).mono fun r H' h h' _=>by rw[h.1]; exact .tree _ (.val _))
def fI (l:List Int):Bool:=decide (0 < l.length) && decide (l.length≤20) && (match l with | c :: _=>sZ c | []=>false) && l.all mM
def mE:SC :=
 .seq (.seq (an [aj 18 3,aj 19 0,((some 20),.op (.nK (.tmp 19))),bz 21 .lss 18 20]) <|
 .cond (.tmp 21) (.skip) (.exit 0)) <|
 .seq (.block 1 (.seq (an [aj 24 0,aj 25 3,((some 26),.op (.gU (.tmp 24) (.tmp 25))),bJ 27 194 [26],dm 28 27]) <|
 .cond (.tmp 28) (.seq (an [bK 2 false]) <|
 .ret) (.skip))) <|
 an [aj 22 3,aR 23 .add 22 1,aj 3 23]
def oL:SF:=⟨.seq (an [bK 2 false]) <|
 .seq (.seq (.region false [⟨none,[aj 4 0,((some 5),.op (.nK (.tmp 4))),aR 6 .eql 5 0,aj 7 6]⟩,⟨(some (7,false)),[aj 8 0,((some 9),.op (.nK (.tmp 8))),aR 10 .gtr 9 20]⟩,⟨none,[cU 11 7 10,aj 12 11]⟩,⟨(some (12,false)),[aj 13 0,((some 14),.op (.gU (.tmp 13) (.val (.val (.int .i64 0))))),bJ 15 193 [14],dm 16 15]⟩,⟨none,[cU 17 12 16]⟩]) <|
 .cond (.tmp 17) (.seq (an [bK 2 false]) <|
 .ret) (.skip)) <|
 .seq (.seq (an [bA 3 0]) <|
 .block 0 (.loop mE)) <|
 .seq (an [bK 2 true]) <|
 .ret,
 [.tmp 2],29⟩
theorem sG:aU Tryz.prog 154 []=some oL:=by kernel_rfl
theorem KS (s:ByteArray) (H:View):aB Tryz.prog 154 [gs s] H fun r H'=>r=gb (fI (eO s))∧H'=H:=by
 refine aB.of mixed sG ?_
 repeat' (first | (refine aq.dec (fun _=>?_) (fun _=>?_)) | (refine aq.eq (fun _=>?_) (fun _=>?_)) | (refine aq.ne (fun _=>?_) (fun _=>?_)) | (refine aq.split (fun _=>?_) (fun _=>?_)) | (simp (disch:=omega) only [↓wr,seval,wq,ah,ag,ak,aa,ab,af,ai,ae,oL,ef]))
 ·rename_i h
  congr 2; simp[fI,show (eO s).length=0 by omega]
 ·rename_i h
  congr 2; simp[fI,show ¬ (eO s).length≤20 by omega]
 ·rename_i h1 h2
  cases hb:eO s with
  | nil=>simp[hb] at h1
  | cons c l =>
   repeat' (first | (refine aq.dec (fun _=>?_) (fun _=>?_)) | (refine aq.eq (fun _=>?_) (fun _=>?_)) | (refine aq.ne (fun _=>?_) (fun _=>?_)) | (refine aq.split (fun _=>?_) (fun _=>?_)) | (simp (disch:=omega) only [↓wr,seval,wq,ah,ag,ak,aa,ab,af,ai,ae,hb,RA,ef]))
   refine aF.pure (Ft c) (by kernel_rfl) ?_
   repeat' (first | (refine aq.dec (fun _=>?_) (fun _=>?_)) | (refine aq.eq (fun _=>?_) (fun _=>?_)) | (refine aq.ne (fun _=>?_) (fun _=>?_)) | (refine aq.split (fun _=>?_) (fun _=>?_)) | (simp (disch:=omega) only [↓wr,seval,wq,ah,ag,ak,aa,ab,af,ai,ae,hb,RA,ef]))
   ·rename_i hf
    refine bg.intro (fun k T H'=>∃ i:Nat,i+k=(c :: l).length∧((c :: l).take i).all mM=true∧T 0=gs s∧T 3=gi i∧H'=H) (c :: l).length ?_ ?_
    ·exact ⟨0,by omega,by simp,rfl,rfl,rfl⟩
    ·rintro k T H' ⟨i,hk,hi,h0,h3,rfl⟩
     rw[hb] at h1 h2
     simp (disch:=omega) only [↓wr,seval,wq,ah,ag,ak,aa,ab,af,ai,ae,mE,h0,h3,ef,hb]
     refine aq.dec (fun hc=>?_) (fun hc=>?_)
     ·simp only[Rp] at hc hk h2
      have hg:(c :: l)[i]?=some ((c :: l)[i]'(by simp; omega)):=Q7 (by simp; omega)
      have hm:(c :: l)[i]'(by simp; omega)∈c :: l:=Rj _
      generalize (c :: l)[i]'(by simp; omega)=d at hg hm
      simp (disch:=omega) only [↓wr,seval,wq,ah,ag,ak,aa,ab,af,ai,ae,h0,h3,ef,hb,hg]
      refine aF.pure (Nu d) (by kernel_rfl) ?_
      repeat' (first | (refine aq.dec (fun _=>?_) (fun _=>?_)) | (refine aq.eq (fun _=>?_) (fun _=>?_)) | (refine aq.ne (fun _=>?_) (fun _=>?_)) | (refine aq.split (fun _=>?_) (fun _=>?_)) | (simp (disch:=omega) only [↓wr,seval,wq,ah,ag,ak,aa,ab,af,ai,ae,h0,h3,ef,hb,hg]))
      ·rename_i hd
       refine ⟨k - 1,by omega,i+1,by omega,?_,rfl⟩
       rw[RG,hg]
       simp only[Option.toList_some,List.all_append,hi,Sn,hd,List.all_nil,Bool.and_self]
      ·rename_i hd
       congr 2
       have:(c :: l).all mM=false:=by
        rw[List.all_eq_false]; exact ⟨d,hm,by simp[hd]⟩
       simp only[fI,this,Bool.and_false]
     ·simp (disch:=omega) only [↓wr,seval,wq,ah,ag,ak,aa,ab,af,ai,ae,h0,h3]
      simp only[Rp] at hc hk h2
      rw[Rz (by simp; omega)] at hi
      congr 2
      simp only[fI,hi,Rp]
      simp[hf]; omega
   ·rename_i hf
    congr 2; simp[fI,hf]
def lB:List Int→Bool
 | [a,b,c]=>a == 39 && c == 39 && decide (32≤b) && decide (b≤126) && b != 39 && b != 92
 | [a,b,c,d]=>a == 39 && d == 39 && b == 92 && (c == 110 || c == 116 || c == 92 || c == 39)
 | _=>false
theorem Nf {l:List Int} (h3:l.length≠3) (h4:l.length≠4):lB l=false:=by
 match l,h3,h4 with
 | [],_,_=>rfl
 | [_],_,_=>rfl
 | [_,_],_,_=>rfl
 | [_,_,_],h3,_=>exact absurd rfl h3
 | [_,_,_,_],_,h4=>exact absurd rfl h4
 | _ :: _ :: _ :: _ :: _ :: _,_,_=>rfl
theorem Qw {α:Type} {l:List α} (h:l.length=3):∃ a b c,l=[a,b,c]:=by
 match l,h with
 | [a,b,c],_=>exact ⟨a,b,c,rfl⟩
theorem Qx {α:Type} {l:List α} (h:l.length=4):∃ a b c d,l=[a,b,c,d]:=by
 match l,h with
 | [a,b,c,d],_=>exact ⟨a,b,c,d,rfl⟩
def lM:SF:=⟨.seq (an [bK 2 false]) <|
 .seq (.seq (an [aj 3 0,((some 4),.op (.nK (.tmp 3))),aR 5 .eql 4 3]) <|
 .cond (.tmp 5) (.seq (.region false [⟨none,[aj 6 0,((some 7),.op (.gU (.tmp 6) (.val (.val (.int .i64 0))))),((some 8),.op (.arith .eql (.tmp 7) (.val (.val (.int .u8 39))))),aj 9 8]⟩,⟨(some (9,true)),[aj 10 0,((some 11),.op (.gU (.tmp 10) (.val (.val (.int .i64 2))))),((some 12),.op (.arith .eql (.tmp 11) (.val (.val (.int .u8 39)))))]⟩,⟨none,[gA 13 9 12,aj 14 13]⟩,⟨(some (14,true)),[aj 15 0,((some 16),.op (.gU (.tmp 15) (.val (.val (.int .i64 1))))),((some 17),.op (.arith .geq (.tmp 16) (.val (.val (.int .u8 32)))))]⟩,⟨none,[gA 18 14 17,aj 19 18]⟩,⟨(some (19,true)),[aj 20 0,((some 21),.op (.gU (.tmp 20) (.val (.val (.int .i64 1))))),((some 22),.op (.arith .leq (.tmp 21) (.val (.val (.int .u8 126)))))]⟩,⟨none,[gA 23 19 22,aj 24 23]⟩,⟨(some (24,true)),[aj 25 0,((some 26),.op (.gU (.tmp 25) (.val (.val (.int .i64 1))))),((some 27),.op (.arith .neq (.tmp 26) (.val (.val (.int .u8 39)))))]⟩,⟨none,[gA 28 24 27,aj 29 28]⟩,⟨(some (29,true)),[aj 30 0,((some 31),.op (.gU (.tmp 30) (.val (.val (.int .i64 1))))),((some 32),.op (.arith .neq (.tmp 31) (.val (.val (.int .u8 92)))))]⟩,⟨none,[gA 33 29 32,aj 2 33]⟩]) <|
 .ret) (.skip)) <|
 .seq (.region false [⟨none,[aj 34 0,((some 35),.op (.nK (.tmp 34))),aR 36 .eql 35 4,aj 37 36]⟩,⟨(some (37,true)),[aj 38 0,((some 39),.op (.gU (.tmp 38) (.val (.val (.int .i64 0))))),((some 40),.op (.arith .eql (.tmp 39) (.val (.val (.int .u8 39)))))]⟩,⟨none,[gA 41 37 40,aj 42 41]⟩,⟨(some (42,true)),[aj 43 0,((some 44),.op (.gU (.tmp 43) (.val (.val (.int .i64 3))))),((some 45),.op (.arith .eql (.tmp 44) (.val (.val (.int .u8 39)))))]⟩,⟨none,[gA 46 42 45,aj 47 46]⟩,⟨(some (47,true)),[aj 48 0,((some 49),.op (.gU (.tmp 48) (.val (.val (.int .i64 1))))),((some 50),.op (.arith .eql (.tmp 49) (.val (.val (.int .u8 92)))))]⟩,⟨none,[gA 51 47 50,aj 52 51]⟩,⟨(some (52,true)),[aj 53 0,((some 54),.op (.gU (.tmp 53) (.val (.val (.int .i64 2))))),((some 55),.op (.arith .eql (.tmp 54) (.val (.val (.int .u8 110))))),aj 56 55]⟩,⟨(some (56,false)),[aj 57 0,((some 58),.op (.gU (.tmp 57) (.val (.val (.int .i64 2))))),((some 59),.op (.arith .eql (.tmp 58) (.val (.val (.int .u8 116)))))]⟩,⟨(some (52,true)),[cU 60 56 59,aj 61 60]⟩,⟨(some (61,false)),[aj 62 0,((some 63),.op (.gU (.tmp 62) (.val (.val (.int .i64 2))))),((some 64),.op (.arith .eql (.tmp 63) (.val (.val (.int .u8 92)))))]⟩,⟨(some (52,true)),[cU 65 61 64,aj 66 65]⟩,⟨(some (66,false)),[aj 67 0,((some 68),.op (.gU (.tmp 67) (.val (.val (.int .i64 2))))),((some 69),.op (.arith .eql (.tmp 68) (.val (.val (.int .u8 39)))))]⟩,⟨(some (52,true)),[cU 70 66 69]⟩,⟨none,[gA 71 52 70,aj 2 71]⟩]) <|
 .ret,
 [.tmp 2],72⟩
theorem qD:aU Tryz.prog 192 []=some lM:=by kernel_rfl
def nr:SF:=⟨.seq (an [bK 2 false]) <|
 .seq (.region false [⟨none,[aj 3 0,bJ 4 154 [3],aj 5 4]⟩,⟨(some (5,false)),[aj 6 0,bJ 7 192 [6]]⟩,⟨none,[cU 8 5 7,aj 2 8]⟩]) <|
 .ret,
 [.tmp 2],9⟩
theorem rL:aU Tryz.prog 151 []=some nr:=by kernel_rfl
set_option maxHeartbeats 1000000 in
theorem Nt (s:ByteArray) (H:View):aB Tryz.prog 192 [gs s] H fun r H'=>r=gb (lB (eO s))∧H'=H:=by
 refine aB.of mixed qD ?_
 simp (disch:=omega) only [↓wr,seval,wq,ah,ag,ak,aa,ab,af,ai,ae,lM,ef]
 refine aq.eq (fun h=>?_) (fun h=>?_)
 ·obtain ⟨a,b,c,hb⟩:=Qw (l:=eO s) (by omega)
  repeat' (first | (refine aq.dec (fun _=>?_) (fun _=>?_)) | (refine aq.eq (fun _=>?_) (fun _=>?_)) | (refine aq.ne (fun _=>?_) (fun _=>?_)) | (refine aq.split (fun _=>?_) (fun _=>?_)) | (simp (disch:=omega) only [↓wr,seval,wq,ah,ag,ak,aa,ab,af,ai,ae,hb,RA,RS]))
  all_goals (congr 2; simp only[lB]; grind)
 ·simp (disch:=omega) only [↓wr,seval,wq,ah,ag,ak,aa,ab,af,ai,ae,ef]
  refine aq.eq (fun h4=>?_) (fun h4=>?_)
  ·obtain ⟨a,b,c,d,hb⟩:=Qx (l:=eO s) (by omega)
   repeat' (first | (refine aq.dec (fun _=>?_) (fun _=>?_)) | (refine aq.eq (fun _=>?_) (fun _=>?_)) | (refine aq.ne (fun _=>?_) (fun _=>?_)) | (refine aq.split (fun _=>?_) (fun _=>?_)) | (simp (disch:=omega) only [↓wr,seval,wq,ah,ag,ak,aa,ab,af,ai,ae,hb,RA,RS]))
   all_goals (congr 2; simp only[lB]; grind)
  ·repeat' (first | (refine aq.dec (fun _=>?_) (fun _=>?_)) | (refine aq.eq (fun _=>?_) (fun _=>?_)) | (refine aq.ne (fun _=>?_) (fun _=>?_)) | (refine aq.split (fun _=>?_) (fun _=>?_)) | (simp (disch:=omega) only [↓wr,seval,wq,ah,ag,ak,aa,ab,af,ai,ae,ef]))
   rw[Nf (by omega) (by omega)]
theorem nN (s:ByteArray):∀ v∈[gs s],Tree v:=by intro v hv; simp at hv; subst hv; exact .val _
theorem Ca (s:ByteArray):aG Tryz.prog 154 [gs s] (gb (fI (eO s))) :=
 aG.of (nN s) ((KS s _).mono fun r H' h h' _=>by rw[h.1]; exact .tree _ (.val _))
theorem MJ (s:ByteArray):aG Tryz.prog 192 [gs s] (gb (lB (eO s))) :=
 aG.of (nN s) ((Nt s _).mono fun r H' h h' _=>by rw[h.1]; exact .tree _ (.val _))
def oK (l:List Int):Bool:=fI l || lB l
theorem Iv (s:ByteArray) (H:View):aB Tryz.prog 151 [gs s] H fun r H'=>r=gb (oK (eO s))∧H'=H:=by
 refine aB.of mixed rL ?_
 simp (disch:=omega) only [↓wr,seval,wq,ah,ag,ak,aa,ab,af,ai,ae,nr]
 refine aF.pure (Ca s) (by kernel_rfl) ?_
 repeat' (first | (refine aq.dec (fun _=>?_) (fun _=>?_)) | (refine aq.eq (fun _=>?_) (fun _=>?_)) | (refine aq.ne (fun _=>?_) (fun _=>?_)) | (refine aq.split (fun _=>?_) (fun _=>?_)) | (simp (disch:=omega) only [↓wr,seval,wq,ah,ag,ak,aa,ab,af,ai,ae]))
 ·rename_i h; simp[oK,h]
 ·rename_i h
  refine aF.pure (MJ s) (by kernel_rfl) ?_
  repeat' (first | (refine aq.dec (fun _=>?_) (fun _=>?_)) | (refine aq.eq (fun _=>?_) (fun _=>?_)) | (refine aq.ne (fun _=>?_) (fun _=>?_)) | (refine aq.split (fun _=>?_) (fun _=>?_)) | (simp (disch:=omega) only [↓wr,seval,wq,ah,ag,ak,aa,ab,af,ai,ae]))
  simp[oK,h]
theorem Ia (s:ByteArray):aG Tryz.prog 151 [gs s] (gb (oK (eO s))) :=
 aG.of (nN s) ((Iv s _).mono fun r H' h h' _=>by rw[h.1]; exact .tree _ (.val _))
def mB (s:ByteArray):List ByteArray→Int→Int
 | [],_=>-1
 | x :: l,i=>if ir x s=true then i else mB s l (i+1)
def lh (g:ao) (s:ByteArray):Int:=mB s (g.av.map Term.name) 0
def vM (g:ao) (s:ByteArray):Int:=mB s g.az 0
theorem eC {α:Type} {l:List α} {i:Nat} (h:i < l.length):l.drop i=l[i] :: l.drop (i+1):=RX h
theorem Fg (g:ao) (s:ByteArray):∀ v∈[V.agg (aw g),gs s],Tree v:=by
 intro v hv; simp at hv
 rcases hv with rfl | rfl
 ·exact dS _ (eX g)
 ·exact .val _
theorem eU (g:ao):∀ v∈[V.agg (aw g)],Tree v:=by intro v hv; simp at hv; subst hv; exact dS _ (eX g)
theorem D3 (g:ao) (x:Int):∀ v∈[V.agg (aw g),gi x],Tree v:=by
 intro v hv; simp at hv
 rcases hv with rfl | rfl
 ·exact dS _ (eX g)
 ·exact .val _
theorem aG.val {P:Program} {f:FuncId} {vs:List V} {x:Value} (ht:∀ v∈vs,Tree v) (h:∀ H,aB P f vs H fun r _=>r=.val x):aG P f vs (.val x) :=
 aG.of ht ((h _).mono fun r H' e h' _=>by rw[e]; exact .tree _ (.val _))
def mG:SC :=
 .seq (.seq (an [aj 6 5,aC 7 0 2,ay 8 7,bj 9 8,bz 10 .lss 6 9]) <|
 .cond (.tmp 10) (.skip) (.exit 0)) <|
 .seq (.block 1 (.seq (an [aC 13 0 2,ay 14 13,aj 15 5,aY 16 3 14 15,aC 17 0 16,ay 18 17,aj 19 1,((some 20),.op (.uU .eql (.tmp 18) (.tmp 19)))]) <|
 .cond (.tmp 20) (.seq (an [aj 21 5,aj 4 21]) <|
 .ret) (.skip))) <|
 an [aj 11 5,aR 12 .add 11 1,aj 5 12]
def oV:SF:=⟨.seq (an [dN 2 0,bA 4 0]) <|
 .seq (.seq (an [bA 5 0]) <|
 .block 0 (.loop mG)) <|
 .seq (an [bA 4 (-1)]) <|
 .ret,
 [.tmp 4],22⟩
theorem s8:aU Tryz.prog 152 [2]=some oV:=by kernel_rfl
def ng:SC :=
 .seq (.seq (an [aj 6 5,aC 7 1 2,ay 8 7,bj 9 8,bz 10 .lss 6 9]) <|
 .cond (.tmp 10) (.skip) (.exit 0)) <|
 .seq (.block 1 (.seq (an [aC 13 1 2,ay 14 13,aj 15 5,aY 16 1 14 15,ay 17 16,aj 18 1,((some 19),.op (.uU .eql (.tmp 17) (.tmp 18)))]) <|
 .cond (.tmp 19) (.seq (an [aj 20 5,aj 4 20]) <|
 .ret) (.skip))) <|
 an [aj 11 5,aR 12 .add 11 1,aj 5 12]
def pq:SF:=⟨.seq (an [dN 2 0,bA 4 0]) <|
 .seq (.seq (an [bA 5 0]) <|
 .block 0 (.loop ng)) <|
 .seq (an [bA 4 (-1)]) <|
 .ret,
 [.tmp 4],21⟩
theorem tD:aU Tryz.prog 139 [2]=some pq:=by kernel_rfl
def lV:SC :=
 .seq (.seq (an [aj 8 6,aC 9 0 2,ay 10 9,bj 11 10,bz 12 .lss 8 11]) <|
 .cond (.tmp 12) (.skip) (.exit 0)) <|
 .seq (.block 1 (.seq (.region false [⟨none,[aC 15 0 2,ay 16 15,aj 17 6,aY 18 3 16 17,bM 19 3 18,((some 7),.op (.alloc [(.val (.string ⟨#[]⟩)),(.val (.int .i64 0)),(.val (.int .i64 0))])),(none,.op (.store 3 (.tmp 7) (.tmp 19)))]⟩]) <|
 .seq (.seq (an [aC 20 1 7,ay 21 20,aj 22 1,bz 23 .neq 21 22]) <|
 .cond (.tmp 23) (.exit 1) (.skip)) <|
 .seq (.seq (.region false [⟨none,[aj 24 5,aR 25 .neq 24 0,aj 26 25]⟩,⟨(some (26,true)),[aj 27 5,aC 28 2 7,ay 29 28,bz 30 .neq 27 29]⟩,⟨none,[gA 31 26 30]⟩]) <|
 .cond (.tmp 31) (.seq (an [bK 4 false]) <|
 .ret) (.skip)) <|
 an [aC 32 2 7,ay 33 32,aj 5 33])) <|
 an [aj 13 6,aR 14 .add 13 1,aj 6 14]
def nj:SF:=⟨.seq (an [dN 2 0,bK 4 false]) <|
 .seq (an [bA 5 0]) <|
 .seq (.seq (an [bA 6 0]) <|
 .block 0 (.loop lV)) <|
 .seq (an [aj 34 5,aR 35 .neq 34 0,aj 4 35]) <|
 .ret,
 [.tmp 4],36⟩
theorem rT:aU Tryz.prog 153 [2]=some nj:=by kernel_rfl
theorem Ku (g:ao) (hg:g.Ok) (s:ByteArray) (H:View):aB Tryz.prog 152 [.agg (aw g),gs s] H fun r _=>r=gi (lh g s):=by
 refine aB.of mixed s8 ?_
 have hs:g.av.length < 4611686018427387904:=hg.av
 simp (disch:=omega) only [↓wr,seval,wq,ah,ag,ak,aa,ab,af,ai,ae,oV,aw,encS]
 refine bg.intro (fun k T _=>∃ i:Nat,i+k=g.av.length∧mB s ((g.av.drop i).map Term.name) i=lh g s∧T 1=gs s∧T 2=.aL (aw g) 0∧T 5=gi i) g.av.length ?_ ?_
 ·exact ⟨0,by omega,rfl,rfl,rfl,rfl⟩
 ·rintro k T H' ⟨i,hk,hi,h1,h2,h5⟩
  simp (disch:=omega) only [↓wr,seval,wq,ah,ag,ak,aa,ab,af,ai,ae,mG,h1,h2,h5,aw]
  refine aq.dec (fun hc=>?_) (fun hc=>?_)
  ·have hg2:g.av[i]?=some (g.av[i]'(by omega)):=Q7 (by omega)
   rw[eC (show i < g.av.length by omega)] at hi
   generalize g.av[i]'(by omega)=t at hg2 hi
   simp only[RE,mB] at hi
   simp (disch:=omega) only [↓wr,seval,wq,ah,ag,ak,aa,ab,af,ai,ae,h1,h2,h5,aw,ca,Rc,hg2,Rk]
   refine aq.split (fun hd=>?_) (fun hd=>?_)
   ·rw[Ra hd] at hi
    simp (disch:=omega) only [↓wr,seval,wq,ah,ag,ak,aa,ab,af,ai,ae,h1,h2,h5]
    rw[hi]
   ·rw[hd,Q9 (by simp)] at hi
    simp (disch:=omega) only [↓wr,seval,wq,ah,ag,ak,aa,ab,af,ai,ae,h1,h2,h5]
    exact ⟨k - 1,by omega,i+1,by omega,by push_cast; exact hi,rfl,rfl⟩
  ·rw[RB (by omega)] at hi
   simp only[List.map_nil,mB] at hi
   simp (disch:=omega) only [↓wr,seval,wq,ah,ag,ak,aa,ab,af,ai,ae,h1,h2,h5]
   rw[hi]
theorem Cd (g:ao) (hg:g.Ok) (s:ByteArray):aG Tryz.prog 152 [.agg (aw g),gs s] (gi (lh g s)):=aG.val (Fg g s) (Ku g hg s)
theorem Me (g:ao) (hg:g.Ok) (s:ByteArray) (H:View):aB Tryz.prog 139 [.agg (aw g),gs s] H fun r _=>r=gi (vM g s):=by
 refine aB.of mixed tD ?_
 have hs:g.az.length < 4611686018427387904:=hg.az
 simp (disch:=omega) only [↓wr,seval,wq,ah,ag,ak,aa,ab,af,ai,ae,pq,aw,encS]
 refine bg.intro (fun k T _=>∃ i:Nat,i+k=g.az.length∧mB s (g.az.drop i) i=vM g s∧T 1=gs s∧T 2=.aL (aw g) 0∧T 5=gi i) g.az.length ?_ ?_
 ·exact ⟨0,by omega,rfl,rfl,rfl,rfl⟩
 ·rintro k T H' ⟨i,hk,hi,h1,h2,h5⟩
  simp (disch:=omega) only [↓wr,seval,wq,ah,ag,ak,aa,ab,af,ai,ae,ng,h1,h2,h5,aw,encS]
  refine aq.dec (fun hc=>?_) (fun hc=>?_)
  ·have hg2:g.az[i]?=some (g.az[i]'(by omega)):=Q7 (by omega)
   rw[eC (show i < g.az.length by omega)] at hi
   generalize g.az[i]'(by omega)=t at hg2 hi
   simp only[RE,mB] at hi
   simp (disch:=omega) only [↓wr,seval,wq,ah,ag,ak,aa,ab,af,ai,ae,h1,h2,h5,aw,encS,Rc,hg2,Rk]
   refine aq.split (fun hd=>?_) (fun hd=>?_)
   ·rw[Ra hd] at hi
    simp (disch:=omega) only [↓wr,seval,wq,ah,ag,ak,aa,ab,af,ai,ae,h1,h2,h5]
    rw[hi]
   ·rw[hd,Q9 (by simp)] at hi
    simp (disch:=omega) only [↓wr,seval,wq,ah,ag,ak,aa,ab,af,ai,ae,h1,h2,h5]
    exact ⟨k - 1,by omega,i+1,by omega,by push_cast; exact hi,rfl,rfl⟩
  ·rw[RB (by omega)] at hi
   simp only[List.map_nil,mB] at hi
   simp (disch:=omega) only [↓wr,seval,wq,ah,ag,ak,aa,ab,af,ai,ae,h1,h2,h5]
   rw[hi]
theorem ML (g:ao) (hg:g.Ok) (s:ByteArray):aG Tryz.prog 139 [.agg (aw g),gs s] (gi (vM g s)):=aG.val (Fg g s) (Me g hg s)
def iH (n:Int):List Term→Int→Option Int
 | [],way=>some way
 | t :: r,way=>if t.level=n then (if way≠0∧way≠t.assoc then none else iH n r t.assoc) else iH n r way
def gn (l:List Term) (n:Int):Bool:=match iH n l 0 with
 | some w=>w != 0
 | none=>false
theorem IA (g:ao) (hg:g.Ok) (n:Int) (H:View):aB Tryz.prog 153 [.agg (aw g),gi n] H fun r _=>r=gb (gn g.av n):=by
 refine aB.of mixed rT ?_
 have hs:g.av.length < 4611686018427387904:=hg.av
 simp (disch:=omega) only [↓wr,seval,wq,ah,ag,ak,aa,ab,af,ai,ae,nj,aw,encS]
 refine bg.intro (fun k T _=>∃ (i:Nat) (w:Int),i+k=g.av.length∧iH n (g.av.drop i) w=iH n g.av 0∧T 1=gi n∧T 2=.aL (aw g) 0∧T 5=gi w∧T 6=gi i) g.av.length ?_ ?_
 ·exact ⟨0,0,by omega,rfl,rfl,rfl,rfl,rfl⟩
 ·rintro k T H' ⟨i,w,hk,hi,h1,h2,h5,h6⟩
  simp (disch:=omega) only [↓wr,seval,wq,ah,ag,ak,aa,ab,af,ai,ae,lV,h1,h2,h5,h6,aw]
  refine aq.dec (fun hc=>?_) (fun hc=>?_)
  ·have hg2:g.av[i]?=some (g.av[i]'(by omega)):=Q7 (by omega)
   rw[eC (show i < g.av.length by omega)] at hi
   generalize g.av[i]'(by omega)=t at hg2 hi
   simp only[iH] at hi
   simp (disch:=omega) only [↓wr,seval,wq,ah,ag,ak,aa,ab,af,ai,ae,h1,h2,h5,h6,aw,ca,Rc,hg2,Rk]
   intro m hm
   try simp (disch:=omega) only [↓wr,seval,wq,ah,ag,ak,aa,ab,af,ai,ae,h1,h2,h5,h6]
   refine aq.ne (fun hd=>?_) (fun hd=>?_)
   ·rw[Q9 hd] at hi
    simp (disch:=omega) only [↓wr,seval,wq,ah,ag,ak,aa,ab,af,ai,ae,h1,h2,h5,h6]
    exact ⟨k - 1,by omega,i+1,w,by omega,hi,by first | rfl | exact ⟨rfl,rfl⟩ | exact ⟨rfl,rfl,rfl⟩⟩
   ·rw[Ra hd] at hi
    repeat' (first | (refine aq.dec (fun _=>?_) (fun _=>?_)) | (refine aq.eq (fun _=>?_) (fun _=>?_)) | (refine aq.ne (fun _=>?_) (fun _=>?_)) | (refine aq.split (fun _=>?_) (fun _=>?_)) | (simp (disch:=omega) only [↓wr,seval,wq,ah,ag,ak,aa,ab,af,ai,ae,h1,h2,h5,h6]))
    ·rename_i a b
     rw[Ra ⟨a,b⟩] at hi
     simp only[gn,← hi]
    ·rename_i a b
     rw[Q9 (fun e=>e.2 b)] at hi
     exact ⟨k - 1,by omega,i+1,_,by omega,hi,by first | rfl | exact ⟨rfl,rfl⟩ | exact ⟨rfl,rfl,rfl⟩⟩
    ·rename_i a
     rw[Q9 (fun e=>e.1 a)] at hi
     exact ⟨k - 1,by omega,i+1,_,by omega,hi,by first | rfl | exact ⟨rfl,rfl⟩ | exact ⟨rfl,rfl,rfl⟩⟩
  ·rw[RB (by omega)] at hi
   simp only[iH] at hi
   simp (disch:=omega) only [↓wr,seval,wq,ah,ag,ak,aa,ab,af,ai,ae,h1,h2,h5,h6]
   simp only[gn,← hi]
theorem Ii (g:ao) (hg:g.Ok) (n:Int):aG Tryz.prog 153 [.agg (aw g),gi n] (gb (gn g.av n)):=aG.val (D3 g n) (IA g hg n)
def pL (g:ao) (t:Term):Bool:=(List.range t.level.toNat).all fun k=>gn g.av ((k:Int)+1)
def jy (g:ao) (i:Int) (t:Term):Bool :=
 oK (eO t.name) && (lh g t.name == i) && decide (0≤t.level) && decide (t.level≤24) && decide (0≤t.assoc) && decide (t.assoc≤3) && ((t.level == 0) == (t.assoc == 0)) && pL g t
def jm (g:ao):List Term→Int→Bool
 | [],_=>true
 | t :: r,i=>jy g i t && jm g r (i+1)
def jr (g:ao):Bool:=decide (g.av.length≤24) && jm g g.av 0
def lN:SC :=
 .seq (.seq (an [aj 63 5,aC 64 1 4,ay 65 64,bz 66 .leq 63 65]) <|
 .cond (.tmp 66) (.skip) (.exit 2)) <|
 .seq (.block 3 (.seq (an [bM 69 4 1,aj 70 5,bJ 71 153 [69,70],dm 72 71]) <|
 .cond (.tmp 72) (.seq (an [bK 2 false]) <|
 .ret) (.skip))) <|
 an [aj 67 5,aR 68 .add 67 1,aj 5 68]
def lS:SC :=
 .seq (.seq (an [aj 10 3,aC 11 0 1,ay 12 11,bj 13 12,bz 14 .lss 10 13]) <|
 .cond (.tmp 14) (.skip) (.exit 0)) <|
 .seq (.block 1 (.seq (.region false [⟨none,[aC 17 0 1,ay 18 17,aj 19 3,aY 20 3 18 19,bM 21 3 20,((some 4),.op (.alloc [(.val (.string ⟨#[]⟩)),(.val (.int .i64 0)),(.val (.int .i64 0))])),(none,.op (.store 3 (.tmp 4) (.tmp 21)))]⟩]) <|
 .seq (.seq (.region false [⟨none,[aC 22 0 4,ay 23 22,bJ 24 151 [23],dm 25 24,aj 26 25]⟩,⟨(some (26,false)),[bM 27 4 1,aC 28 0 4,ay 29 28,bJ 30 152 [27,29],aj 31 3,bz 32 .neq 30 31]⟩,⟨none,[cU 33 26 32,aj 34 33]⟩,⟨(some (34,false)),[aC 35 1 4,ay 36 35,aR 37 .lss 36 0]⟩,⟨none,[cU 38 34 37,aj 39 38]⟩,⟨(some (39,false)),[aC 40 1 4,ay 41 40,aR 42 .gtr 41 24]⟩,⟨none,[cU 43 39 42,aj 44 43]⟩,⟨(some (44,false)),[aC 45 2 4,ay 46 45,aR 47 .lss 46 0]⟩,⟨none,[cU 48 44 47,aj 49 48]⟩,⟨(some (49,false)),[aC 50 2 4,ay 51 50,aR 52 .gtr 51 3]⟩,⟨none,[cU 53 49 52,aj 54 53]⟩,⟨(some (54,false)),[aC 55 1 4,ay 56 55,aR 57 .eql 56 0,aC 58 2 4,ay 59 58,aR 60 .eql 59 0,((some 61),.op (.beq false (.tmp 57) (.tmp 60)))]⟩,⟨none,[cU 62 54 61]⟩]) <|
 .cond (.tmp 62) (.seq (an [bK 2 false]) <|
 .ret) (.skip)) <|
 .seq (an [bA 5 1]) <|
 .block 2 (.loop lN))) <|
 an [aj 15 3,aR 16 .add 15 1,aj 3 16]
def mY:SF:=⟨.seq (an [dN 1 0,bK 2 false]) <|
 .seq (.seq (an [aC 6 0 1,ay 7 6,bj 8 7,aR 9 .gtr 8 24]) <|
 .cond (.tmp 9) (.seq (an [bK 2 false]) <|
 .ret) (.skip)) <|
 .seq (.seq (an [bA 3 0]) <|
 .block 0 (.loop lS)) <|
 .seq (an [bK 2 true]) <|
 .ret,
 [.tmp 2],73⟩
theorem rR:aU Tryz.prog 104 [1]=some mY:=by kernel_rfl
def mP:SC :=
 .seq (.seq (an [aj 14 3,aC 15 1 1,ay 16 15,bj 17 16,bz 18 .lss 14 17]) <|
 .cond (.tmp 18) (.skip) (.exit 0)) <|
 .seq (.block 1 (.seq (.region false [⟨none,[aC 21 1 1,ay 22 21,aj 23 3,aY 24 1 22 23,ay 25 24,bJ 26 154 [25],dm 27 26,aj 28 27]⟩,⟨(some (28,false)),[bM 29 4 1,aC 30 1 1,ay 31 30,aj 32 3,aY 33 1 31 32,ay 34 33,bJ 35 139 [29,34],aj 36 3,bz 37 .neq 35 36]⟩,⟨none,[cU 38 28 37,aj 39 38]⟩,⟨(some (39,false)),[bM 40 4 1,aC 41 1 1,ay 42 41,aj 43 3,aY 44 1 42 43,ay 45 44,bJ 46 152 [40,45],aR 47 .geq 46 0]⟩,⟨none,[cU 48 39 47]⟩]) <|
 .cond (.tmp 48) (.seq (an [bK 2 false]) <|
 .ret) (.skip))) <|
 an [aj 19 3,aR 20 .add 19 1,aj 3 20]
def oF:SF:=⟨.seq (an [dN 1 0,bK 2 false]) <|
 .seq (.seq (.region false [⟨none,[aC 4 1 1,ay 5 4,bj 6 5,aR 7 .lss 6 1,aj 8 7]⟩,⟨(some (8,false)),[aC 9 1 1,ay 10 9,bj 11 10,aR 12 .gtr 11 16]⟩,⟨none,[cU 13 8 12]⟩]) <|
 .cond (.tmp 13) (.seq (an [bK 2 false]) <|
 .ret) (.skip)) <|
 .seq (.seq (an [bA 3 0]) <|
 .block 0 (.loop mP)) <|
 .seq (an [bK 2 true]) <|
 .ret,
 [.tmp 2],49⟩
theorem sD:aU Tryz.prog 105 [1]=some oF:=by kernel_rfl
def my:SC :=
 .seq (.seq (an [aj 23 5,aC 24 1 3,ay 25 24,bj 26 25,bz 27 .lss 23 26]) <|
 .cond (.tmp 27) (.skip) (.exit 0)) <|
 .seq (.block 1 (.seq (.region false [⟨none,[bM 30 4 2,aC 31 1 3,ay 32 31,aj 33 5,aY 34 1 32 33,ay 35 34,bJ 36 155 [30,35],dm 37 36,aj 38 37]⟩,⟨(some (38,false)),[aC 39 1 3,ay 40 39,aj 41 5,aY 42 1 40 41,ay 43 42,aR 44 .geq 43 0,aj 45 44]⟩,⟨(some (45,true)),[aC 46 2 3,ay 47 46,aR 48 .eql 47 (-1)]⟩,⟨(some (38,false)),[gA 49 45 48]⟩,⟨none,[cU 50 38 49]⟩]) <|
 .cond (.tmp 50) (.seq (an [bK 4 false]) <|
 .ret) (.skip))) <|
 an [aj 28 5,aR 29 .add 28 1,aj 5 29]
def ow:SF:=⟨.seq (an [dN 2 0,dN 3 1,bK 4 false]) <|
 .seq (.seq (.region false [⟨none,[aC 6 1 3,ay 7 6,bj 8 7,aR 9 .gtr 8 6,aj 10 9]⟩,⟨(some (10,false)),[aC 11 2 3,ay 12 11,aR 13 .lss 12 (-1)]⟩,⟨none,[cU 14 10 13,aj 15 14]⟩,⟨(some (15,false)),[aC 16 2 3,ay 17 16,aC 18 0 2,ay 19 18,bj 20 19,bz 21 .geq 17 20]⟩,⟨none,[cU 22 15 21]⟩]) <|
 .cond (.tmp 22) (.seq (an [bK 4 false]) <|
 .ret) (.skip)) <|
 .seq (.seq (an [bA 5 0]) <|
 .block 0 (.loop my)) <|
 .seq (an [bK 4 true]) <|
 .ret,
 [.tmp 4],51⟩
theorem sO:aU Tryz.prog 106 [2,3]=some ow:=by kernel_rfl
def lY:SC :=
 .seq (.seq (an [aj 39 4,aC 40 2 1,ay 41 40,bj 42 41,bz 43 .lss 39 42]) <|
 .cond (.tmp 43) (.skip) (.exit 0)) <|
 .seq (.block 1 (.seq (an [aC 46 2 1,ay 47 46,aj 48 4,aY 49 3 47 48,bM 50 3 49,((some 5),.op (.alloc [(.val (.int .i64 0)),(.emp 1),(.val (.int .i64 0))])),(none,.op (.store 3 (.tmp 5) (.tmp 50)))]) <|
 .seq (.seq (.region false [⟨none,[aC 51 0 5,ay 52 51,aR 53 .lss 52 0,aj 54 53]⟩,⟨(some (54,false)),[aC 55 0 5,ay 56 55,aj 57 3,aR 58 .add 57 1,bz 59 .gtr 56 58]⟩,⟨none,[cU 60 54 59,aj 61 60]⟩,⟨(some (61,false)),[bM 62 4 1,bM 63 3 5,bJ 64 106 [62,63],dm 65 64]⟩,⟨none,[cU 66 61 65]⟩]) <|
 .cond (.tmp 66) (.seq (an [bK 2 false]) <|
 .ret) (.skip)) <|
 .seq (an [aC 67 0 5,ay 68 67,aj 69 3,bz 70 .gtr 68 69]) <|
 .cond (.tmp 70) (an [aC 71 0 5,ay 72 71,aj 3 72]) (.skip))) <|
 an [aj 44 4,aR 45 .add 44 1,aj 4 45]
def mZ:SF:=⟨.seq (an [dN 1 0,bK 2 false]) <|
 .seq (.seq (.region false [⟨none,[bM 6 4 1,bJ 7 104 [6],dm 8 7,aj 9 8]⟩,⟨(some (9,false)),[bM 10 4 1,bJ 11 105 [10],dm 12 11]⟩,⟨none,[cU 13 9 12,aj 14 13]⟩,⟨(some (14,false)),[aC 15 2 1,ay 16 15,bj 17 16,aR 18 .lss 17 1]⟩,⟨none,[cU 19 14 18,aj 20 19]⟩,⟨(some (20,false)),[aC 21 2 1,ay 22 21,bj 23 22,aR 24 .gtr 23 40]⟩,⟨none,[cU 25 20 24,aj 26 25]⟩,⟨(some (26,false)),[aC 27 3 1,ay 28 27,aR 29 .lss 28 0]⟩,⟨none,[cU 30 26 29,aj 31 30]⟩,⟨(some (31,false)),[aC 32 3 1,ay 33 32,aC 34 1 1,ay 35 34,bj 36 35,bz 37 .geq 33 36]⟩,⟨none,[cU 38 31 37]⟩]) <|
 .cond (.tmp 38) (.seq (an [bK 2 false]) <|
 .ret) (.skip)) <|
 .seq (an [bA 3 (-1)]) <|
 .seq (.seq (an [bA 4 0]) <|
 .block 0 (.loop lY)) <|
 .seq (an [aj 73 3,aC 74 1 1,ay 75 74,bj 76 75,aR 77 .sub 76 1,bz 78 .eql 73 77,aj 2 78]) <|
 .ret,
 [.tmp 2],79⟩
theorem rS:aU Tryz.prog 54 [1]=some mZ:=by kernel_rfl
set_option maxHeartbeats 2000000 in
theorem IZ (g:ao) (hg:g.Ok) (H:View):aB Tryz.prog 104 [.agg (aw g)] H fun r _=>r=gb (jr g):=by
 refine aB.of mixed rR ?_
 simp (disch:=omega) only [↓wr,seval,wq,ah,ag,ak,aa,ab,af,ai,ae,mY,aw,encS]
 refine aq.dec (fun h=>?_) (fun h=>?_)
 ·simp (disch:=omega) only [↓wr,seval,wq,ah,ag,ak,aa,ab,af,ai,ae]
  simp[jr,show ¬ g.av.length≤24 by omega]
 ·have hle:g.av.length≤24:=by omega
  simp (disch:=omega) only [↓wr,seval,wq,ah,ag,ak,aa,ab,af,ai,ae]
  refine bg.intro (fun k T _=>∃ i:Nat,i+k=g.av.length∧jm g (g.av.drop i) i=jm g g.av 0∧T 1=.aL (aw g) 0∧T 3=gi i) g.av.length ?_ ?_
  ·exact ⟨0,by omega,rfl,rfl,rfl⟩
  ·rintro k T H' ⟨i,hk,hi,h1,h3⟩
   simp (disch:=omega) only [↓wr,seval,wq,ah,ag,ak,aa,ab,af,ai,ae,lS,h1,h3,aw]
   refine aq.dec (fun hc=>?_) (fun hc=>?_)
   ·have hg2:g.av[i]?=some (g.av[i]'(by omega)):=Q7 (by omega)
    rw[eC (show i < g.av.length by omega)] at hi
    have hmem:g.av[i]'(by omega)∈g.av:=Rj _
    generalize g.av[i]'(by omega)=t at hg2 hi hmem
    obtain ⟨⟨hl1,hl2⟩,⟨ha1,ha2⟩⟩:=hg.term t hmem
    simp only[jm] at hi
    have hbad:jy g i t=false→gb false=gb (jr g):=fun e=>by rw[e,SL] at hi; simp[jr,← hi]
    simp (disch:=omega) only [↓wr,seval,wq,ah,ag,ak,aa,ab,af,ai,ae,h1,h3,aw,ca,Rc,hg2,Rk]
    intro m hm
    try simp (disch:=omega) only [↓wr,seval,wq,ah,ag,ak,aa,ab,af,ai,ae,h1,h3]
    refine aF.pure (Ia t.name) (by kernel_rfl) ?_
    repeat' (first | (refine aq.dec (fun _=>?_) (fun _=>?_)) | (refine aq.eq (fun _=>?_) (fun _=>?_)) | (refine aq.ne (fun _=>?_) (fun _=>?_)) | (refine aq.split (fun _=>?_) (fun _=>?_)) | (simp (disch:=omega) only [↓wr,seval,wq,ah,ag,ak,aa,ab,af,ai,ae,h1,h3,aw]))
    all_goals try (refine hbad ?_; simp[jy, *]; done)
    rename_i hnm
    refine aF.pure (Cd g hg t.name) (by kernel_rfl) ?_
    repeat' (first | (refine aq.dec (fun _=>?_) (fun _=>?_)) | (refine aq.eq (fun _=>?_) (fun _=>?_)) | (refine aq.ne (fun _=>?_) (fun _=>?_)) | (refine aq.split (fun _=>?_) (fun _=>?_)) | (simp (disch:=omega) only [↓wr,seval,wq,ah,ag,ak,aa,ab,af,ai,ae,h1,h3,aw]))
    all_goals try (refine hbad ?_; simp[jy, *]; done)
    all_goals try (refine hbad ?_; simp[jy]; grind)
    rename_i e1 e2 e3 e4 e5 e6
    have hpre:jy g i t=pL g t:=by
     have e6':((t.level == 0) == (t.assoc == 0))=true:=by simpa using e6
     simp[jy,hnm,e1,e6',show (0:Int)≤t.level by omega,show t.level≤24 by omega,show (0:Int)≤t.assoc by omega,show t.assoc≤3 by omega]
    refine bg.intro (fun k' T H''=>∃ j:Nat,1≤j∧j+k'=t.level.toNat+1∧(∀ q:Nat,q+1 < j→gn g.av ((q:Int)+1)=true)∧T 1=.aL (aw g) 0∧T 3=gi i∧T 4=.ptr m 0 0∧H'' m=.arr 3 [[gs t.name,gi t.level,gi t.assoc]]∧T 5=gi j) t.level.toNat ?_ ?_
    ·refine ⟨1,by omega,by omega,fun q hq=>by omega,?_⟩
     simp (disch:=omega) only [↓wr,↓reduceIte,wq,ah,ag,ak,aa,ab,af,ai,ae,Nat.reduceEqDiff,Nat.reduceAdd,Nat.reduceLT,Nat.reduceLeDiff,Int.reduceNeg,Int.reduceToNat,reduceCtorEq,h1,h3,aw]
     rfl
    ·rintro k' T' H'' ⟨j,hj1,hj2,hj3,f1,f3,f4,fm,f5⟩
     simp (disch:=omega) only [↓wr,seval,wq,ah,ag,ak,aa,ab,af,ai,ae,lN,f1,f3,f4,f5,fm]
     refine aq.dec (fun hd=>?_) (fun hd=>?_)
     ·simp (disch:=omega) only [↓wr,seval,wq,ah,ag,ak,aa,ab,af,ai,ae,f1,f3,f4,f5,fm,aw]
      refine aF.pure (Ii g hg j) (by kernel_rfl) ?_
      repeat' (first | (refine aq.dec (fun _=>?_) (fun _=>?_)) | (refine aq.eq (fun _=>?_) (fun _=>?_)) | (refine aq.ne (fun _=>?_) (fun _=>?_)) | (refine aq.split (fun _=>?_) (fun _=>?_)) | (simp (disch:=omega) only [↓wr,seval,wq,ah,ag,ak,aa,ab,af,ai,ae,f1,f3,f4,f5,fm,aw]))
      ·rename_i hb
       refine ⟨k' - 1,by omega,j+1,by omega,by omega,fun q hq=>?_,by first | rfl | exact ⟨rfl,rfl⟩ | exact ⟨rfl,rfl,rfl⟩⟩
       by_cases e:q+1=j
       ·have:(q:Int)+1=j:=by omega
        rw[this]; exact hb
       ·exact hj3 q (by omega)
      ·rename_i hb
       refine hbad ?_
       rw[hpre,pL,List.all_eq_false]
       refine ⟨j - 1,by simp; omega,?_⟩
       have:((j - 1:Nat):Int)+1=j:=by omega
       rw[this,hb]; simp
     ·simp (disch:=omega) only [↓wr,seval,wq,ah,ag,ak,aa,ab,af,ai,ae,f1,f3,f4,f5,fm]
      refine ⟨k - 1,by omega,i+1,by omega,?_,by first | rfl | exact ⟨rfl,rfl⟩ | exact ⟨rfl,rfl,rfl⟩⟩
      have hlv:pL g t=true:=by
       rw[pL,RD]
       intro q hq
       exact hj3 q (by simp at hq; omega)
      rw[hpre,hlv,Sq] at hi
      push_cast; exact hi
   ·rw[RB (by omega)] at hi
    simp only[jm] at hi
    simp (disch:=omega) only [↓wr,seval,wq,ah,ag,ak,aa,ab,af,ai,ae,h1,h3]
    simp[jr,hle,← hi]
theorem IJ (g:ao) (hg:g.Ok):aG Tryz.prog 104 [.agg (aw g)] (gb (jr g)):=aG.val (eU g) (IZ g hg)
def kA (g:ao) (i:Int) (s:ByteArray):Bool:=fI (eO s) && (vM g s == i) && decide (lh g s < 0)
def pH (g:ao):List ByteArray→Int→Bool
 | [],_=>true
 | s :: r,i=>kA g i s && pH g r (i+1)
def jQ (g:ao):Bool:=decide (1≤g.az.length) && decide (g.az.length≤16) && pH g g.az 0
set_option maxHeartbeats 1000000 in
theorem JX (g:ao) (hg:g.Ok) (H:View):aB Tryz.prog 105 [.agg (aw g)] H fun r _=>r=gb (jQ g):=by
 refine aB.of mixed sD ?_
 repeat' (first | (refine aq.dec (fun _=>?_) (fun _=>?_)) | (refine aq.eq (fun _=>?_) (fun _=>?_)) | (refine aq.ne (fun _=>?_) (fun _=>?_)) | (refine aq.split (fun _=>?_) (fun _=>?_)) | (simp (disch:=omega) only [↓wr,seval,wq,ah,ag,ak,aa,ab,af,ai,ae,oF,aw,encS]))
 ·simp[jQ,show ¬ 1≤g.az.length by omega]
 ·simp[jQ,show ¬ g.az.length≤16 by omega]
 ·have hle:g.az.length≤16:=by omega
  refine bg.intro (fun k T _=>∃ i:Nat,i+k=g.az.length∧pH g (g.az.drop i) i=pH g g.az 0∧T 1=.aL (aw g) 0∧T 3=gi i) g.az.length ?_ ?_
  ·exact ⟨0,by omega,rfl,rfl,rfl⟩
  ·rintro k T H' ⟨i,hk,hi,h1,h3⟩
   simp (disch:=omega) only [↓wr,seval,wq,ah,ag,ak,aa,ab,af,ai,ae,mP,h1,h3,aw,encS]
   refine aq.dec (fun hc=>?_) (fun hc=>?_)
   ·have hg2:g.az[i]?=some (g.az[i]'(by omega)):=Q7 (by omega)
    rw[eC (show i < g.az.length by omega)] at hi
    generalize g.az[i]'(by omega)=t at hg2 hi
    simp only[pH] at hi
    have hbad:kA g i t=false→gb false=gb (jQ g):=fun e=>by rw[e,SL] at hi; simp[jQ,← hi]
    simp (disch:=omega) only [↓wr,seval,wq,ah,ag,ak,aa,ab,af,ai,ae,h1,h3,aw,encS,Rc,hg2,Rk]
    refine aF.pure (Ca t) (by kernel_rfl) ?_
    repeat' (first | (refine aq.dec (fun _=>?_) (fun _=>?_)) | (refine aq.eq (fun _=>?_) (fun _=>?_)) | (refine aq.ne (fun _=>?_) (fun _=>?_)) | (refine aq.split (fun _=>?_) (fun _=>?_)) | (simp (disch:=omega) only [↓wr,seval,wq,ah,ag,ak,aa,ab,af,ai,ae,h1,h3,aw,encS,Rc,hg2,Rk]))
    all_goals try (refine hbad ?_; simp[kA, *]; done)
    rename_i hnm
    refine aF.pure (ML g hg t) (by kernel_rfl) ?_
    repeat' (first | (refine aq.dec (fun _=>?_) (fun _=>?_)) | (refine aq.eq (fun _=>?_) (fun _=>?_)) | (refine aq.ne (fun _=>?_) (fun _=>?_)) | (refine aq.split (fun _=>?_) (fun _=>?_)) | (simp (disch:=omega) only [↓wr,seval,wq,ah,ag,ak,aa,ab,af,ai,ae,h1,h3,aw,encS,Rc,hg2,Rk]))
    all_goals try (refine hbad ?_; simp[kA, *]; done)
    rename_i hno
    refine aF.pure (Cd g hg t) (by kernel_rfl) ?_
    repeat' (first | (refine aq.dec (fun _=>?_) (fun _=>?_)) | (refine aq.eq (fun _=>?_) (fun _=>?_)) | (refine aq.ne (fun _=>?_) (fun _=>?_)) | (refine aq.split (fun _=>?_) (fun _=>?_)) | (simp (disch:=omega) only [↓wr,seval,wq,ah,ag,ak,aa,ab,af,ai,ae,h1,h3,aw,encS]))
    all_goals try (refine hbad ?_; simp[kA, *]; done)
    rename_i hte
    refine ⟨k - 1,by omega,i+1,by omega,?_,by first | rfl | exact ⟨rfl,rfl⟩ | exact ⟨rfl,rfl,rfl⟩⟩
    have:kA g i t=true:=by simp[kA,hnm,hno,show lh g t < 0 by omega]
    rw[this,Sq] at hi
    push_cast; exact hi
   ·rw[RB (by omega)] at hi
    simp only[pH] at hi
    simp (disch:=omega) only [↓wr,seval,wq,ah,ag,ak,aa,ab,af,ai,ae,h1,h3]
    simp[jQ,hle,show 1≤g.az.length by omega,← hi]
theorem Jw (g:ao) (hg:g.Ok):aG Tryz.prog 105 [.agg (aw g)] (gb (jQ g)):=aG.val (eU g) (JX g hg)
def lA (g:ao) (prec s:Int):Bool:=gP g s && !(decide (0≤s) && prec == -1)
def gZ (g:ao) (r:aM):Bool:=decide (r.right.length≤6) && decide (-1≤r.prec) && decide (r.prec < g.av.length) && r.right.all (lA g r.prec)
theorem Eo (g:ao) (r:aM):∀ v∈[V.agg (aw g),V.agg (aO r)],Tree v:=by
 intro v hv; simp at hv
 rcases hv with rfl | rfl
 ·exact dS _ (eX g)
 ·exact dS _ (fO r)
set_option maxHeartbeats 1000000 in
theorem K8 (g:ao) (r:aM) (hr:aV r.right∧∀ x∈r.right,cm x) (H:View):aB Tryz.prog 106 [.agg (aw g),.agg (aO r)] H fun v _=>v=gb (gZ g r):=by
 refine aB.of mixed sO ?_
 repeat' (first | (refine aq.dec (fun _=>?_) (fun _=>?_)) | (refine aq.eq (fun _=>?_) (fun _=>?_)) | (refine aq.ne (fun _=>?_) (fun _=>?_)) | (refine aq.split (fun _=>?_) (fun _=>?_)) | (simp (disch:=omega) only [↓wr,seval,wq,ah,ag,ak,aa,ab,af,ai,ae,ow,aw,encS,aO,encI]))
 ·simp[gZ,show ¬ r.right.length≤6 by omega]
 ·simp[gZ,show ¬ -1≤r.prec by omega]
 ·simp[gZ,show ¬ r.prec < g.av.length by omega]
 ·have hle:r.right.length≤6:=by omega
  have hp1 : -1≤r.prec:=by omega
  have hp2:r.prec < g.av.length:=by omega
  refine bg.intro (fun k T _=>∃ i:Nat,i+k=r.right.length∧(r.right.drop i).all (lA g r.prec)=r.right.all (lA g r.prec)∧T 2=.aL (aw g) 0∧T 3=.aL (aO r) 0∧T 5=gi i) r.right.length ?_ ?_
  ·exact ⟨0,by omega,rfl,rfl,rfl,rfl⟩
  ·rintro k T H' ⟨i,hk,hi,h2,h3,h5⟩
   simp (disch:=omega) only [↓wr,seval,wq,ah,ag,ak,aa,ab,af,ai,ae,my,h2,h3,h5,aO,encI]
   refine aq.dec (fun hc=>?_) (fun hc=>?_)
   ·have hg2:r.right[i]?=some (r.right[i]'(by omega)):=Q7 (by omega)
    rw[eC (show i < r.right.length by omega)] at hi
    have hmem:r.right[i]'(by omega)∈r.right:=Rj _
    generalize r.right[i]'(by omega)=t at hg2 hi hmem
    have hin:=hr.2 t hmem
    simp only[Sn] at hi
    have hbad:lA g r.prec t=false→gb false=gb (gZ g r):=fun e=>by rw[e,SL] at hi; simp only[gZ,← hi,Bool.and_false]
    have hok:lA g r.prec t=true→(r.right.drop (i+1)).all (lA g r.prec)=r.right.all (lA g r.prec):=fun e=>by rw[e,Sq] at hi; exact hi
    simp (disch:=omega) only [↓wr,seval,wq,ah,ag,ak,aa,ab,af,ai,ae,h2,h3,h5,aw,encS,aO,encI,Rc,hg2,Rk]
    refine aF.pure (Po g t hin) (by kernel_rfl) ?_
    repeat' (first | (refine aq.dec (fun _=>?_) (fun _=>?_)) | (refine aq.eq (fun _=>?_) (fun _=>?_)) | (refine aq.ne (fun _=>?_) (fun _=>?_)) | (refine aq.split (fun _=>?_) (fun _=>?_)) | (simp (disch:=omega) only [↓wr,seval,wq,ah,ag,ak,aa,ab,af,ai,ae,h2,h3,h5,aw,encS,aO,encI,Rc,hg2,Rk]))
    all_goals first
     | (refine hbad ?_; simp[lA, *]; done)
     | (refine ⟨k - 1,by omega,i+1,by omega,hok (by simp[lA, *]; done),by first | rfl | exact ⟨rfl,rfl⟩ | exact ⟨rfl,rfl,rfl⟩⟩)
     | skip
   ·rw[RB (by omega)] at hi
    simp only[List.all_nil] at hi
    simp (disch:=omega) only [↓wr,seval,wq,ah,ag,ak,aa,ab,af,ai,ae,h2,h3,h5]
    simp only[gZ,hle,hp1,hp2,decide_true,Sq,← hi]
theorem K3 (g:ao) (r:aM) (hr:aV r.right∧∀ x∈r.right,cm x):aG Tryz.prog 106 [.agg (aw g),.agg (aO r)] (gb (gZ g r)):=aG.val (Eo g r) (K8 g r hr)
def gm (g:ao):List aM→Int→Bool
 | [],top=>top == (g.az.length:Int) - 1
 | r :: l,top=>decide (0≤r.left) && decide (r.left≤top+1) && gZ g r && gm g l (if r.left > top then r.left else top)
def bE (g:ao):Bool :=
 jr g && jQ g && decide (1≤g.rules.length) && decide (g.rules.length≤40) && decide (0≤g.start) && decide (g.start < g.az.length) && gm g g.rules (-1)
set_option maxHeartbeats 1000000 in
theorem Je (g:ao) (hg:g.Ok) (H:View):aB Tryz.prog 54 [.agg (aw g)] H fun r _=>r=gb (bE g):=by
 refine aB.of mixed rS ?_
 have hn:=hg.az
 unfold aV at hn
 simp (disch:=omega) only [↓wr,seval,wq,ah,ag,ak,aa,ab,af,ai,ae,mZ,aw,encS]
 refine aF.pure (IJ g hg) (by kernel_rfl) ?_
 repeat' (first | (refine aq.dec (fun _=>?_) (fun _=>?_)) | (refine aq.eq (fun _=>?_) (fun _=>?_)) | (refine aq.ne (fun _=>?_) (fun _=>?_)) | (refine aq.split (fun _=>?_) (fun _=>?_)) | (simp (disch:=omega) only [↓wr,seval,wq,ah,ag,ak,aa,ab,af,ai,ae,aw,encS]))
 ·rename_i h1
  refine aF.pure (Jw g hg) (by kernel_rfl) ?_
  repeat' (first | (refine aq.dec (fun _=>?_) (fun _=>?_)) | (refine aq.eq (fun _=>?_) (fun _=>?_)) | (refine aq.ne (fun _=>?_) (fun _=>?_)) | (refine aq.split (fun _=>?_) (fun _=>?_)) | (simp (disch:=omega) only [↓wr,seval,wq,ah,ag,ak,aa,ab,af,ai,ae,aw,encS]))
  all_goals try (simp[bE, *]; done)
  all_goals try (simp[bE]; omega)
  rename_i h2 h3 h4 h5 h6
  have hle:g.rules.length≤40:=by omega
  have hpre:∀ b,gm g g.rules (-1)=b→gb b=gb (bE g):=fun b e=>by
   simp[bE,h1,h2,show 1≤g.rules.length by omega,hle,show 0≤g.start by omega,show g.start < g.az.length by omega,e]
  refine bg.intro (fun k T _=>∃ (i:Nat) (w:Int),i+k=g.rules.length∧-1≤w∧w < i∧gm g (g.rules.drop i) w=gm g g.rules (-1)∧T 1=.aL (aw g) 0∧T 3=gi w∧T 4=gi i) g.rules.length ?_ ?_
  ·exact ⟨0,-1,by omega,by omega,by omega,rfl,rfl,rfl,rfl⟩
  ·rintro k T H' ⟨i,w,hk,hw1,hw2,hi,f1,f3,f4⟩
   simp (disch:=omega) only [↓wr,seval,wq,ah,ag,ak,aa,ab,af,ai,ae,lY,f1,f3,f4,aw]
   refine aq.dec (fun hc=>?_) (fun hc=>?_)
   ·have hg2:g.rules[i]?=some (g.rules[i]'(by omega)):=Q7 (by omega)
    rw[eC (show i < g.rules.length by omega)] at hi
    have hmem:g.rules[i]'(by omega)∈g.rules:=Rj _
    generalize g.rules[i]'(by omega)=t at hg2 hi hmem
    obtain ⟨⟨hl1,hl2⟩,hp,hr1,hr2⟩:=hg.aD t hmem
    simp only[gm] at hi
    simp (disch:=omega) only [↓wr,seval,wq,ah,ag,ak,aa,ab,af,ai,ae,f1,f3,f4,aw,encS,aO,encI,Rc,hg2,Rk]
    intro m hm
    try simp (disch:=omega) only [↓wr,seval,wq,ah,ag,ak,aa,ab,af,ai,ae,f1,f3,f4]
    repeat' (first | (refine aq.dec (fun _=>?_) (fun _=>?_)) | (refine aq.eq (fun _=>?_) (fun _=>?_)) | (refine aq.ne (fun _=>?_) (fun _=>?_)) | (refine aq.split (fun _=>?_) (fun _=>?_)) | (simp (disch:=omega) only [↓wr,seval,wq,ah,ag,ak,aa,ab,af,ai,ae,f1,f3,f4,aw,encS,aO,encI]))
    all_goals try (refine hpre _ ?_; simp only[← hi]; simp; omega)
    rename_i e1 e2
    refine aF.pure (K3 g t ⟨hr1,hr2⟩) (by kernel_rfl) ?_
    repeat' (first | (refine aq.dec (fun _=>?_) (fun _=>?_)) | (refine aq.eq (fun _=>?_) (fun _=>?_)) | (refine aq.ne (fun _=>?_) (fun _=>?_)) | (refine aq.split (fun _=>?_) (fun _=>?_)) | (simp (disch:=omega) only [↓wr,seval,wq,ah,ag,ak,aa,ab,af,ai,ae,f1,f3,f4,aw,encS,aO,encI]))
    all_goals simp only[show 0≤t.left by omega,show t.left≤w+1 by omega,decide_true,Sq] at hi
    ·rename_i e3 e4
     rw[e3,Sq,Ra e4] at hi
     exact ⟨k - 1,by omega,i+1,_,by omega,by omega,by push_cast; omega,hi,by first | rfl | exact ⟨rfl,rfl⟩ | exact ⟨rfl,rfl,rfl⟩⟩
    ·rename_i e3 e4
     rw[e3,Sq,Q9 e4] at hi
     exact ⟨k - 1,by omega,i+1,_,by omega,by omega,by push_cast; omega,hi,by first | rfl | exact ⟨rfl,rfl⟩ | exact ⟨rfl,rfl,rfl⟩⟩
    ·rename_i e3
     rw[e3,SL] at hi
     exact hpre _ hi.symm
   ·rw[RB (by omega)] at hi
    simp only[gm] at hi
    simp (disch:=omega) only [↓wr,seval,wq,ah,ag,ak,aa,ab,af,ai,ae,f1,f3,f4,aw,encS]
    exact hpre _ hi.symm
 ·rename_i h1; simp[bE,h1]
theorem ud (g:ao) (hg:g.Ok):aG Tryz.prog 54 [.agg (aw g)] (gb (bE g)):=aG.val (eU g) (Je g hg)
inductive b6 (α:Type) where
 | nil
 | node (v:α) (l r:b6 α)
noncomputable def b6.get {α:Type} (z:α) (t:b6 α):Nat→α :=
 b6.rec (motive:=fun _=>Nat→α) (fun _=>z) (fun v _ _ gl gr i=>Bool.rec (Bool.rec (gr (i / 2 - 1)) (gl (i / 2)) (Nat.beq (i % 2) 1)) v (Nat.beq i 0)) t
theorem b6.get_nil {α:Type} (z:α) (i:Nat):b6.get z .nil i=z:=rfl
theorem b6.Nw {α:Type} (z v:α) (l r:b6 α) (i:Nat):b6.get z (.node v l r) i=match Nat.beq i 0 with
  | true=>v
  | false=>match Nat.beq (i % 2) 1 with
   | true=>b6.get z l (i / 2)
   | false=>b6.get z r (i / 2 - 1):=by
 change (Bool.rec (motive:=fun _=>α) _ _ _:α)=_
 cases Nat.beq i 0 with
 | true=>rfl
 | false=>cases Nat.beq (i % 2) 1 <;> rfl
def b6.val {α:Type} (z:α):b6 α→α
 | .nil=>z
 | .node v _ _=>v
def b6.left {α:Type} : b6 α→b6 α
 | .nil=>.nil
 | .node _ l _=>l
def b6.right {α:Type} : b6 α→b6 α
 | .nil=>.nil
 | .node _ _ r=>r
noncomputable def b6.put {α:Type} (z:α) (x:α) (d:Nat):b6 α→Nat→b6 α :=
 Nat.rec (motive:=fun _=>b6 α→Nat→b6 α) (fun t _=>t) (fun _ pd t i =>
  Bool.rec (Bool.rec (.node (t.val z) t.left (pd t.right (i / 2 - 1))) (.node (t.val z) (pd t.left (i / 2)) t.right) (Nat.beq (i % 2) 1)) (.node x t.left t.right) (Nat.beq i 0)) d
theorem b6.MK {α:Type} (z x:α) (d:Nat) (t:b6 α) (i:Nat):b6.put z x (d+1) t i=match Nat.beq i 0 with
  | true=>.node x t.left t.right
  | false=>match Nat.beq (i % 2) 1 with
   | true=>.node (t.val z) (b6.put z x d t.left (i / 2)) t.right
   | false=>.node (t.val z) t.left (b6.put z x d t.right (i / 2 - 1)):=by
 change (Bool.rec (motive:=fun _=>b6 α) _ _ _:b6 α)=_
 cases Nat.beq i 0 with
 | true=>rfl
 | false=>cases Nat.beq (i % 2) 1 <;> rfl
theorem b6.lT {α:Type} (z:α) (t:b6 α) (j:Nat):t.get z j=if j=0 then t.val z else if j % 2=1 then t.left.get z (j / 2) else t.right.get z (j / 2 - 1):=by
 cases t with
 | nil=>simp[b6.get_nil,b6.val,b6.left,b6.right]
 | node v l r =>
  simp only[b6.Nw,b6.val,b6.left,b6.right]
  by_cases h:j=0
  ·subst h; rfl
  ·have:Nat.beq j 0=false:=by cases e:Nat.beq j 0 with | true=>exact absurd (Tf e) h | false=>rfl
   rw[this,Q9 h]
   simp only
   by_cases h2:j % 2=1
   ·have:Nat.beq (j % 2) 1=true:=by rw[h2]; rfl
    rw[this,Ra h2]
   ·have:Nat.beq (j % 2) 1=false:=by cases e:Nat.beq (j % 2) 1 with | true=>exact absurd (Tf e) h2 | false=>rfl
    rw[this,Q9 h2]
theorem b6.lU {α:Type} (z x:α):∀ (d:Nat) (t:b6 α) (i j:Nat),i+1 < 2 ^ d→(b6.put z x d t i).get z j=if j=i then x else t.get z j
 | 0,t,i,j,h=>by simp at h
 | d+1,t,i,j,h=>by
  rw[Nat.pow_succ] at h
  simp only[b6.MK]
  by_cases hi:i=0
  ·subst hi
   have:Nat.beq 0 0=true:=rfl
   rw[this]
   simp only
   rw[b6.lT,b6.lT z t]
   simp only[b6.val,b6.left,b6.right]
   by_cases hj:j=0
   ·rw[Ra hj,Ra hj]
   ·rw[Q9 hj,Q9 hj,Q9 hj]
  ·have:Nat.beq i 0=false:=by cases e:Nat.beq i 0 with | true=>exact absurd (Tf e) hi | false=>rfl
   rw[this]
   simp only
   by_cases h2:i % 2=1
   ·have:Nat.beq (i % 2) 1=true:=by rw[h2]; rfl
    rw[this]
    simp only
    rw[b6.lT,b6.lT z t]
    simp only[b6.val,b6.left,b6.right]
    by_cases hj:j=0
    ·subst hj; rw[Ra rfl,Q9 (fun e=>hi e.symm),Ra rfl]
    ·rw[Q9 hj,Q9 hj]
     by_cases hj2:j % 2=1
     ·rw[Ra hj2,Ra hj2,b6.lU z x d _ _ _ (by omega)]
      by_cases e:j=i
      ·subst e; simp
      ·rw[Q9 e,Q9 (by omega)]
     ·rw[Q9 hj2,Q9 hj2,Q9 (fun e=>hj2 (by rw[e]; exact h2))]
   ·have:Nat.beq (i % 2) 1=false:=by cases e:Nat.beq (i % 2) 1 with | true=>exact absurd (Tf e) h2 | false=>rfl
    rw[this]
    simp only
    rw[b6.lT,b6.lT z t]
    simp only[b6.val,b6.left,b6.right]
    by_cases hj:j=0
    ·subst hj; rw[Ra rfl,Q9 (fun e=>hi e.symm),Ra rfl]
    ·rw[Q9 hj,Q9 hj]
     by_cases hj2:j % 2=1
     ·rw[Ra hj2,Ra hj2,Q9 (fun e=>h2 (by rw[← e]; exact hj2))]
     ·rw[Q9 hj2,Q9 hj2,b6.lU z x d _ _ _ (by omega)]
      by_cases e:j=i
      ·subst e; simp
      ·rw[Q9 e,Q9 (by omega)]
abbrev deep:Nat:=13
structure ES where
 L:b6 V
 H:b6 dh
 n:Nat
 w:List Nat
noncomputable def ES.T (s:ES):Env:=s.L.get .any
noncomputable def ES.V (s:ES):View:=s.H.get .dead
noncomputable def ES.put (s:ES) (d:Option Nat) (v:Gv.V):ES:=match d with
 | some t=>⟨s.L.put .any v deep t,s.H,s.n,s.w⟩
 | none=>s
theorem ES.NT {s:ES} {d:Option Nat} {v:Gv.V} (h:∀ t,d=some t→t < 8000):(s.put d v).T=s.T.put d v:=by
 cases d with
 | none=>rfl
 | some t =>
  funext k
  have:=h t rfl
  simp only[ES.put,ES.T,Env.put]
  rw[b6.lU _ _ _ _ _ _ (by simp[deep]; omega)]
noncomputable def ED (v:V) (eff:bf) (rd:List Nat) (s:ES):Option (V × ES × Rec):=match eff with
 | .none=>some (v,s,⟨rd,[],false,s.n,s.n⟩)
 | .new o=>match Nat.ble s.n 8000 with
  | true=>some (v,⟨s.L,s.H.put .dead o deep s.n,s.n+1,s.w⟩,⟨rd,[],false,s.n,s.n+1⟩)
  | false=>none
 | .ep id o=>match Nat.ble id 8000 with
  | true=>some (v,⟨s.L,s.H.put .dead o deep id,s.n,id :: s.w⟩,⟨rd,[id],false,s.n,s.n⟩)
  | false=>none
 | .bN id o=>match Nat.ble s.n 8000,Nat.ble id 8000 with
  | true,true=>some (v,⟨s.L,(s.H.put .dead .dead deep id).put .dead o deep s.n,s.n+1,id :: s.w⟩,⟨rd,[id],false,s.n,s.n+1⟩)
  | _,_=>none
noncomputable def Qu (x:SX) (_:Program) (T:Env) (_:View) (_:Nat):Out:=some (x.at T,.none,[])
noncomputable def P3 (c a b:SX) (_:Program) (T:Env) (_:View) (_:Nat):Out:=match c.at T with
 | .val (.bool t)=>some (if t then a.at T else b.at T,.none,[])
 | _=>none
noncomputable def PU (sz:Option Nat) (a:SX) (_:Program) (T:Env) (H:View) (_:Nat):Out:=tO sz (a.at T) H
noncomputable def OZ (sz:Nat) (a x:SX) (_:Program) (T:Env) (H:View) (_:Nat):Out:=Ap sz (a.at T) (x.at T) H
noncomputable def PW (off:Nat) (x:SX) (_:Program) (T:Env) (_:View) (_:Nat):Out:=xl off (x.at T)
noncomputable def QM (sz:Nat) (x i:SX) (_:Program) (T:Env) (_:View) (_:Nat):Out:=Bf sz (x.at T) (i.at T)
noncomputable def Qe (x:SX) (_:Program) (T:Env) (_:View) (_:Nat):Out:=(cY (x.at T)).map fun n=>(ak n,.none,[])
noncomputable def OX (op:BinOp) (x y:SX) (_:Program) (T:Env) (_:View) (_:Nat):Out:=vX op (x.at T) (y.at T)
noncomputable def QA (op:BinOp) (x y:SX) (_:Program) (T:Env) (_:View) (_:Nat):Out:=yG op (x.at T) (y.at T)
noncomputable def QL (x:SX) (_:Program) (T:Env) (_:View) (_:Nat):Out:=match x.at T with
 | .val (.bool t)=>some (.val (.bool (!t)),.none,[])
 | _=>none
noncomputable def QG (i:Nat) (x:SX) (_:Program) (T:Env) (_:View) (_:Nat):Out:=match x.at T with
 | .bt vs=>if i < vs.length then some (vs.getD i .any,.none,[]) else none
 | _=>none
noncomputable def P4 (x:SX) (_:Program) (T:Env) (_:View) (_:Nat):Out:=match x.at T with
 | .ptr id i j=>some (.ptr id i j,.none,[])
 | .aL e j=>some (.aL e j,.none,[])
 | .fn f a b=>some (.fn f a b,.none,[])
 | _=>none
noncomputable def eI (s:SI):Program→Env→View→Nat→Out:=match s with
 | .bN x=>Qu x
 | .pick c a b=>P3 c a b
 | .load sz a=>PU sz a
 | .store sz a x=>OZ sz a x
 | .addr o x=>PW o x
 | .idx sz x i=>QM sz x i
 | .len x=>Qe x
 | .arith op x y=>OX op x y
 | .uU op x y=>QA op x y
 | .not x=>QL x
 | .ext i x=>QG i x
 | .yB x=>P4 x
 | s=>fun P T H n=>sI P s T H n
theorem Iq (s:SI) (P:Program) (T:Env) (H:View) (n:Nat):eI s P T H n=sI P s T H n:=by
 cases s <;> rfl
abbrev gT:=FuncId→List V→ES→Option (V × ES)
noncomputable def LK (P:Program) (s:SI) (e:ES):Option (V × ES × Rec):=match eI s P e.T e.V e.n with
 | some (v,eff,rd)=>ED v eff rd e
 | none=>none
noncomputable def J3 (call:gT) (f:SX) (args:List SX) (e:ES):Option (V × ES × Rec):=match f.at e.T with
 | .fn g first cap=>match call g (first ++ args.map (SX.at e.T) ++ cap) e with
  | some (v,e')=>some (v,⟨e.L,e'.H,e'.n,e'.w ++ e.w⟩,⟨[],e'.w,true,e.n,e'.n⟩)
  | none=>none
 | _=>none
noncomputable def eB (P:Program) (call:gT) (b:SB):ES→Option (V × ES × Rec):=match b with
 | .op s=>LK P s
 | .call f args=>J3 call f args
 | .w5 ..=>fun _=>none
noncomputable def GR (P:Program) (call:gT):List (Option Nat × SB)→List Rec→ES→Option (ES × List Rec)
 | [],a,e=>some (e,a)
 | (d,b) :: r,a,e=>match eB P call b e with
  | some (v,e',c)=>GR P call r (a ++ [c]) (e'.put d v)
  | none=>none
noncomputable def NJ (e:ES):Rec:=⟨[],[],false,e.n,e.n⟩
noncomputable def tN:List (Option Nat × SB)→List Rec→ES→ES × List Rec
 | [],a,e=>(e,a)
 | (d,_) :: r,a,e=>tN r (a ++ [NJ e]) (e.put d (.bt []))
noncomputable def Kl (P:Program) (call:gT) (ops:List (Option Nat × SB)) (want:Bool) (v:V) (a:List Rec) (e:ES):Option (ES × List Rec):=match v with
 | .val (.bool b)=>match xor b want with
  | true=>some (tN ops a e)
  | false=>GR P call ops a e
 | .bt []=>some (tN ops a e)
 | _=>none
noncomputable def eG (P:Program) (call:gT) (g:SG) (a:List Rec) (e:ES):Option (ES × List Rec):=match g.guard with
 | none=>GR P call g.ops a e
 | some (d,want)=>Kl P call g.ops want (e.T d) a e
noncomputable def Jr (P:Program) (call:gT):List SG→List Rec→ES→Option (ES × List Rec)
 | [],a,e=>some (e,a)
 | g :: r,a,e=>match eG P call g a e with
  | some (e',a')=>Jr P call r a' e'
  | none=>none
inductive DC where
 | skip
 | region (ps:List (Nat × Nat)) (gs:List SG)
 | seq (x y:DC)
 | cond (c:SX) (x y:DC)
 | block (id:Nat) (c:DC)
 | loop (c:DC)
 | exit (id:Nat)
 | ret
 deriving Inhabited
def J1 (recs:List Rec) (ps:List (Nat × Nat)):Bool:=ps.all fun (i,k)=>match recs[i]?,recs[k]? with
 | some a,some b=>A6 a b
 | _,_=>false
abbrev ER:=Option (Exit × ES)
abbrev uD:=DC→ES→ER
noncomputable def KK:ES→ER:=fun e=>some (.normal,e)
noncomputable def Hj (P:Program) (call:gT) (ps:List (Nat × Nat)) (gs:List SG) (e:ES):ER:=match Jr P call gs [] e with
 | some (e',recs)=>match J1 recs ps with
  | true=>some (.normal,e')
  | false=>none
 | none=>none
noncomputable def Pl (run:uD) (x y:DC) (e:ES):ER:=match run x e with
 | some (.normal,e')=>run y e'
 | r=>r
noncomputable def N2 (run:uD) (c:SX) (x y:DC) (e:ES):ER:=match c.at e.T with
 | .val (.bool true)=>run x e
 | .val (.bool false)=>run y e
 | _=>none
noncomputable def Lh (run:uD) (id:Nat) (c:DC) (e:ES):ER:=match run c e with
 | some (r,e')=>some (ov id r,e')
 | none=>none
noncomputable def NO (run:uD) (c:DC) (e:ES):ER:=match run c e with
 | some (.normal,e')=>run (.loop c) e'
 | r=>r
noncomputable def kX (P:Program) (call:gT) (run:uD) (c:DC):ES→ER:=match c with
 | .skip=>KK
 | .region ps gs=>Hj P call ps gs
 | .seq x y=>Pl run x y
 | .cond c x y=>N2 run c x y
 | .block id c=>Lh run id c
 | .loop c=>NO run c
 | .exit id=>fun e=>some (.exit id,e)
 | .ret=>fun e=>some (.ret,e)
noncomputable def Nq (r:SR) (e:ES):Option V:=match r with
 | .tmp t=>some (e.T t)
 | .cell t sz=>match e.T t with
  | .ptr id i j=>match e.V id with
   | .arr _ es=>if i < es.length then kU sz (es.getD i []) j else none
   | _=>none
  | .aL e j=>kU sz e j
  | _=>none
noncomputable def tR:List SR→ES→Option (List V)
 | [],_=>some []
 | r :: l,e=>match Nq r e,tR l e with
  | some v,some vs=>some (v :: vs)
  | _,_=>none
noncomputable def lZ:List V→Nat→b6 V→b6 V
 | [],_,t=>t
 | v :: vs,i,t=>lZ vs (i+1) (t.put .any v deep i)
structure DF where
 code:DC
 res:List SR
 n:Nat
noncomputable def Pu (l:List SR) (r:ER):Option (V × ES):=match r with
 | some (.ret,e)=>(tR l e).map fun vs=>(ah vs,e)
 | some (.normal,e)=>(tR l e).map fun vs=>(ah vs,e)
 | _=>none
noncomputable def PB (m:Nat) (r:Option (V × ES)):Option (V × ES):=match r with
 | some (v,e)=>some (v,⟨e.L,e.H,e.n,e.w.filter fun id=>Nat.blt id m⟩)
 | none=>none
noncomputable def OV (run:uD) (F:DF) (vs:List V) (e:ES):Option (V × ES):=match Nat.ble vs.length F.n,Nat.ble F.n 8000 with
 | true,true=>PB e.n (Pu F.res (run F.code ⟨lZ vs 0 .nil,e.H,e.n,[]⟩))
 | _,_=>none
abbrev vd:=FuncId→List V→View→Option V
noncomputable def Df (P:Program) (tab:List (FuncId × DF)) (ext:vd) (run:uD) (g:FuncId) (vs:List V) (e:ES):Option (V × ES):=match ext g vs e.V with
 | some t=>some (t,⟨e.L,e.H,e.n,[]⟩)
 | none=>match tab.find? (fun p=>Nat.beq p.1 g) with
  | some (_,F)=>OV run F vs e
  | none=>none
noncomputable def Ec (P:Program) (tab:List (FuncId × DF)) (ext:vd):Nat→uD
 | 0=>fun _ _=>none
 | k+1=>kX P (Df P tab ext (Ec P tab ext k)) (Ec P tab ext k)
def yR (all:List Oper) (ls:List Nat):List (Nat × Nat) :=
 let b:=eS all []
 (ls.zipIdx.map fun (x,i)=>(ls.zipIdx.filter fun (y,k)=>decide (i < k) && !(ordered b i k || x == 0 || y == 0 || (decide (x≤1) && decide (y≤1)))).map fun (_,k)=>(i,k)).flatten
def E5 (P:Program) (n:Nat) (fz:List Nat) (ops:List Oper) (draw:Bool):Option DC:=match dd P n ops ⟨fz,false⟩ ops with
 | none=>none
 | some l=>if !(group l).all qO then none else
  if draw then (if kF ops then some (.region (yR ops (l.map fun s=>iq P false s.b)) (group l)) else none) else some (.region [] (group l))
def iD (P:Program) (n:Nat) (fz:List Nat):Code→Option DC
 | .skip=>some .skip
 | .region _ ops draw=>E5 P n fz ops.toList draw
 | .seq x y=>match iD P n fz x,iD P n fz y with
  | some a,some b=>some (.seq a b)
  | _,_=>none
 | .cond c x y=>match iD P n fz x,iD P n fz y with
  | some a,some b=>some (.cond (SX.of c) a b)
  | _,_=>none
 | .block id c=>(iD P n fz c).map (.block id)
 | .loop c=>(iD P n fz c).map .loop
 | .exit id=>some (.exit id)
 | .ret=>some .ret
 | _=>none
abbrev Q5 (l:List (Option Nat × SB)):DC:=.region [] [⟨none,l⟩]
def EX (P:Program) (f:FuncId) (fz:List Nat):Option DF:=match P.funcs[f]? with
 | some fn=>match fn.body with
  | some c=>match iD P fn.ntmps fz c,eW P fn.results.toList,db P f with
   | some sc,some rs,true=>some ⟨sc,rs,fn.ntmps⟩
   | _,_,_=>none
  | none=>none
 | none=>none
section
variable {P:Program} {n:Nat} {all:List Oper}
def im (h:aE) (e:ES):Prop:=e.V=h.view∧e.n=h.length
def Calm (e e':ES) (h h':aE):Prop:=h.length≤h'.length∧(∀ id,id < h.length→¬ id∈e'.w→h'.view id=h.view id∧¬ id∈e.w)
theorem Calm.trans {a b c:ES} {h1 h2 h3:aE} (x:Calm a b h1 h2) (y:Calm b c h2 h3):Calm a c h1 h3 :=
 ⟨RT x.1 y.1,fun id hid hw =>
  let ⟨e1,d1⟩:=y.2 id (RC hid x.1) hw
  let ⟨e2,d2⟩:=x.2 id hid d1
  ⟨e1.trans e2,d2⟩⟩
theorem Calm.refl (e:ES) (h:aE):Calm e e h h:=⟨Ri _,fun _ _ hw=>⟨rfl,hw⟩⟩
def j4 (P:Program) (call:gT):Prop:=∀ g vs e v e' h,call g vs e=some (v,e')→im h e →
 db P g=true∧∃ h',bH P g vs h v h'∧im h' e'∧(∀ id,id < h.length→¬ id∈e'.w→h'.view id=h.view id)∧∀ id,id∈e'.w→id < h.length
def tM (P:Program) (run:uD):Prop:=∀ (n:Nat) (fz:List Nat) (c:Code) (sc:DC),iD P n fz c=some sc→n≤8000→∀ (e e':ES) (r:Exit) (h:aE),run sc e=some (r,e')→im h e →
 ∃ h',cy P n c e.T h r e'.T h'∧im h' e'∧Calm e e' h h'∧∀ c0,c=.loop c0→nX P n c0 e.T h r e'.T h'
theorem LM {h:aE} {e:ES} {d:Option Nat} {v:V} (he:im h e):im h (e.put d v):=by cases d <;> exact he
theorem NM {e:ES} {d:Option Nat} {v:V} : (e.put d v).w=e.w:=by cases d <;> rfl
theorem Ma {h:aE} {e e':ES} {h':aE} {d:Option Nat} {v:V} (x:Calm e e' h h'):Calm e (e'.put d v) h h':=⟨x.1,fun id hid hw=>x.2 id hid (by rw[NM] at hw; exact hw)⟩
theorem zH {a:Nat} (h:Nat.ble a 8000=true):a+1 < 2 ^ 13:=by
 have:=Nat.le_of_ble_eq_true h
 omega
theorem Oa {h:aE} {e e':ES} {v v':V} {eff:bf} {rd:List Nat} {c:Rec} (he:im h e) (hx:ED v eff rd e=some (v',e',c)) :
  v'=v∧e'.T=e.T∧e'.V=eff.view h.view h.length∧e'.n=(eff.apply h).length∧c=⟨rd,eff.wr,false,h.length,(eff.apply h).length⟩∧e'.w=eff.wr ++ e.w:=by
 obtain ⟨h1,h2⟩:=he
 unfold ED at hx
 cases eff with
 | none =>
  simp only[Q8,Rb] at hx
  obtain ⟨rfl,rfl,rfl⟩:=hx
  exact ⟨rfl,rfl,h1,h2,by rw[h2]; rfl,rfl⟩
 | new o =>
  simp only at hx
  split at hx
  ·rename_i hb
   simp only[Q8,Rb] at hx
   obtain ⟨rfl,rfl,rfl⟩:=hx
   refine ⟨rfl,rfl,?_,by simp[fQ,h2],by simp[fQ,h2,bf.wr],rfl⟩
   funext k
   simp only[ES.V,bf.view,View.set]
   rw[b6.lU _ _ _ _ _ _ (zH hb),h2]
   have:=congrFun h1 k
   simp only[ES.V] at this
   rw[this]
  ·simp at hx
 | ep id o =>
  simp only at hx
  split at hx
  ·rename_i hb
   simp only[Q8,Rb] at hx
   obtain ⟨rfl,rfl,rfl⟩:=hx
   refine ⟨rfl,rfl,?_,by simp[fQ,h2],by simp[fQ,h2,bf.wr],rfl⟩
   funext k
   simp only[ES.V,bf.view,View.set]
   rw[b6.lU _ _ _ _ _ _ (zH hb)]
   have:=congrFun h1 k
   simp only[ES.V] at this
   rw[this]
  ·simp at hx
 | bN id o =>
  simp only at hx
  split at hx
  ·rename_i hb1 hb2
   simp only[Q8,Rb] at hx
   obtain ⟨rfl,rfl,rfl⟩:=hx
   refine ⟨rfl,rfl,?_,by simp[fQ,h2],by simp[fQ,h2,bf.wr],rfl⟩
   funext k
   simp only[ES.V,bf.view,View.set]
   rw[b6.lU _ _ _ _ _ _ (zH hb1),b6.lU _ _ _ _ _ _ (zH hb2),h2]
   have:=congrFun h1 k
   simp only[ES.V] at this
   rw[this]
  ·simp at hx
theorem Pv {o:Oper} {e e':ES} {h:aE} {s:SI} {v:V} {c:Rec} (hg:cZ n all e.T o=some true) (hc:∀ v eff rd,sI P s e.T h.view h.length=some (v,eff,rd)→bV P o e.T h.view h.length=some (v,eff,rd))
  (he:im h e) (hx:LK P s e=some (v,e',c)):∃ h',di P n all o e.T h v h' c.rd c.wr c.call∧im h' e'∧e'.T=e.T∧Calm e e' h h'∧jW (rj P s) c.rd c.wr c.call h.length h'.length∧c.lo=h.length∧c.hi=h'.length:=by
 unfold LK at hx
 rw[Iq,he.1,he.2] at hx
 split at hx
 ·rename_i v0 eff rd hs
  obtain ⟨rfl,g1,g2,g3,rfl,g5⟩:=Oa he hx
  have ha:=hc _ _ _ hs
  have st:=di.op (P:=P) (n:=n) (all:=all) hg ha
  refine ⟨eff.apply h,st,⟨?_,g3⟩,g1,⟨ra st,fun id hid hw=>?_⟩,⟨fun h0=>?_,fun h1=>?_⟩,rfl,rfl⟩
  ·rw[kq (fun id hid=>(lp ha id hid).1)]; exact g2
  ·rw[g5] at hw
   simp only[Ry,not_or] at hw
   exact ⟨pD st hid hw.1,hw.2⟩
  ·obtain ⟨rfl,rfl⟩:=(pU hs).1 h0
   exact ⟨rfl,rfl,rfl,rfl⟩
  ·rcases Rw (rj P s) 1 with h2 | h2
   ·obtain ⟨rfl,rfl⟩:=(pU hs).1 (by omega); rfl
   ·exact (pU hs).2 (by omega)
 ·simp at hx
theorem PL {call:gT} (hcall:j4 P call) {fz:Fz} {o:Oper} {e e':ES} {h:aE} {v:V} {c:Rec} (hg:cZ n all e.T o=some true) (he:im h e) (hx:eB P call (lf P fz o) e=some (v,e',c)) :
  ∃ h',di P n all o e.T h v h' c.rd c.wr c.call∧im h' e'∧e'.T=e.T∧Calm e e' h h'∧jW (iq P false (lf P fz o)) c.rd c.wr c.call h.length h'.length∧c.lo=h.length∧c.hi=h'.length:=by
 rcases xO P fz o with ⟨f,args,ats,ho,hc | hc⟩ | ⟨t,x,ho,hc⟩ | ⟨s,d,x,ho,hcv,hc⟩ | hc
 rotate_left
 ·rw[hc] at hx
  simp[eB] at hx
 rotate_right
 ·rw[hc] at hx ⊢
  simp only[eB,J3] at hx
  split at hx
  ·rename_i g first cap hf
   rw[zV] at hx
   rw[SX.cd] at hf
   split at hx
   ·rename_i v0 e0 hv
    obtain ⟨hok,h',hr,hek,hd,hd2⟩:=hcall _ _ _ _ _ _ hv he
    simp only[Q8,Rb] at hx
    obtain ⟨rfl,rfl,rfl⟩:=hx
    exact ⟨h',.call hg ho hf hok hr hd hd2,hek,rfl,⟨hr.1,fun id hid hw=>by
     simp only[Ry,not_or] at hw
     exact ⟨hd id hid hw.1,hw.2⟩⟩,NS (by simp[iq]),he.2,hek.2⟩
   ·simp at hx
  ·simp at hx
 ·rw[hc] at hx ⊢
  simp only[eB,LK,Iq,sI,SX.cd] at hx
  split at hx
  ·rename_i v0 eff rd hs
   split at hs
   ·rename_i hok
    simp only[Q8,Rb] at hs
    obtain ⟨rfl,rfl,rfl⟩:=hs
    simp only[ED,Q8,Rb] at hx
    obtain ⟨rfl,rfl,rfl⟩:=hx
    exact ⟨h,.iK hg ho hok,he,rfl,Calm.refl _ _,⟨fun _=>⟨rfl,rfl,rfl,rfl⟩,fun _=>rfl⟩,he.2,he.2⟩
   ·simp at hs
  ·simp at hx
 ·rw[hc] at hx ⊢
  obtain ⟨ty,h1,h2,h3⟩:=xG hcv
  simp only[eB,LK,Iq,sI,SX.cd] at hx
  split at hx
  ·rename_i v0 eff rd hs
   split at hs
   ·rename_i st hst
    simp only[Q8,Rb] at hs
    obtain ⟨rfl,rfl,rfl⟩:=hs
    simp only[ED,Q8,Rb] at hx
    obtain ⟨rfl,rfl,rfl⟩:=hx
    exact ⟨h,.fv hg ho h1 h2 h3 hst,he,rfl,Calm.refl _ _,⟨fun _=>⟨rfl,rfl,rfl,rfl⟩,fun _=>rfl⟩,he.2,he.2⟩
   ·simp at hs
  ·simp at hx
 ·rw[hc] at hx ⊢
  exact Pv (s:=wJ P fz.fr (comp P o)) hg (fun v eff rd hs=>Ht (G3 hs)) he hx
theorem O8 {o:Oper} (hd:pG n o=true) (hn:n≤8000):∀ t,o.dst=some t→t < 8000:=by
 intro t ht
 unfold pG at hd
 rw[ht] at hd
 have:t < n:=by simpa using hd
 exact RC this hn
theorem Om {c:Rec} {a b:Nat} (h1:c.lo=a) (h2:c.hi=b):c=⟨c.rd,c.wr,c.call,a,b⟩:=by cases c; subst h1; subst h2; rfl
theorem Fi {call:gT} (hcall:j4 P call) (hn:n≤8000) {fz:Fz} (g:Option (Nat × Bool)):∀ (l:List (Option Nat × SB)) (os:List Oper) (e e':ES) (h:aE) (a a':List Rec),
  dd P n all fz os=some (l.map fun (d,b)=>⟨d,g,b⟩)→(∀ d w,g=some (d,w)→e.T d=.val (.bool w)∧(l.all fun x=>x.1 != some d)=true)→im h e→GR P call l a e=some (e',a') →
  ∃ recs h',a'=a ++ recs∧Tr P n all os e.T h recs e'.T h'∧im h' e'∧Calm e e' h h'∧fo P false (l.map fun (d,b)=>⟨d,g,b⟩) recs
 | [],os,e,e',h,a,a',hc,hg,he,hx=>by
  have:=kc hc; subst this
  simp only[GR,Q8,Rb] at hx; obtain ⟨rfl,rfl⟩:=hx
  exact ⟨[],h,by simp,.nil,he,Calm.refl _ _,.nil⟩
 | (d,b) :: l,os,e,e',h,a,a',hc,hg,he,hx=>by
  obtain ⟨o,r,rfl,h1,h2⟩:=kP hc
  obtain ⟨hd,hd1,hb1,hg1⟩:=rG h1
  simp only at hd1 hb1 hg1
  have hgv:cZ n all e.T o=some true:=by
   cases g with
   | none=>exact zo hg1
   | some p =>
    obtain ⟨d',w⟩:=p
    have:=(km (T:=e.T) hg1).1 w (hg d' w rfl).1
    rw[this]; simp
  simp only[GR] at hx
  rw[hb1] at hx
  split at hx
  ·rename_i v e1 c hv
   obtain ⟨h1',st,he1,hT1,hcm,hl,hlo,hhi⟩:=PL hcall hgv he hv
   have hput:(e1.put d v).T=e.T.put o.dst v:=by
    rw[ES.NT (by rw[hd1]; exact O8 hd hn),hT1,hd1]
   obtain ⟨recs,h'',ha,tr,he2,hcm2,hro⟩:=Fi hcall hn g l r (e1.put d v) e' h1' _ a' h2 (fun d' w eq=>by
    have:=hg d' w eq
    simp only[Sn,Rg,bne_iff_ne,ne_eq] at this
    refine ⟨?_,this.2.2⟩
    rw[← this.1,hput,← hd1]
    cases d with
    | none=>rfl
    | some t=>simp only[Env.put]; rw[Q9]; intro e; subst e; exact this.2.1 rfl) (LM he1) hx
   rw[hput] at tr
   refine ⟨_,h'',?_,.cons st hd tr,he2,(Ma hcm).trans hcm2,hro.cons (by rw[hb1]; exact hl)⟩
   rw[ha,RO,← Om hlo hhi]; rfl
  ·simp at hx
theorem DA {fz:Fz} (hn:n≤8000) (d:Nat) (w:Bool) (h:aE):∀ (l:List (Option Nat × SB)) (os:List Oper) (e e':ES) (a a':List Rec),
  dd P n all fz os=some (l.map fun (d',b)=>⟨d',some (d,w),b⟩)→(e.T d=.val (.bool !w)∨e.T d=.bt [])→(l.all fun x=>x.1 != some d)=true→im h e→tN l a e=(e',a') →
  ∃ recs,a'=a ++ recs∧Tr P n all os e.T h recs e'.T h∧im h e'∧e'.w=e.w∧fo P false (l.map fun (d',b)=>⟨d',some (d,w),b⟩) recs
 | [],os,e,e',a,a',hc,hd,hl,he,hx=>by
  have:=kc hc; subst this
  simp only[tN,Rb] at hx; obtain ⟨rfl,rfl⟩:=hx
  exact ⟨[],by simp,.nil,he,rfl,.nil⟩
 | (d',b) :: l,os,e,e',a,a',hc,hd,hl,he,hx=>by
  obtain ⟨o,r,rfl,h1,h2⟩:=kP hc
  obtain ⟨hd0,hd1,hb1,hg1⟩:=rG h1
  simp only at hd1 hb1 hg1
  have hgv:cZ n all e.T o=some false:=by
   rcases hd with hd | hd
   ·rw[(km (T:=e.T) hg1).1 _ hd]; cases w <;> rfl
   ·exact (km (T:=e.T) hg1).2 hd
  simp only[Sn,Rg,bne_iff_ne,ne_eq] at hl
  have hput:(e.put d' (.bt [])).T=e.T.put o.dst (.bt []):=by
   rw[ES.NT (by rw[hd1]; exact O8 hd0 hn),hd1]
  simp only[tN] at hx
  obtain ⟨recs,ha,tr,he2,hd2,hro⟩:=DA hn d w h l r (e.put d' (.bt [])) e' _ a' h2 (by
   have:(e.put d' (.bt [])).T d=e.T d:=by
    rw[hput,← hd1]
    cases d' with
    | none=>rfl
    | some t=>simp only[Env.put]; rw[Q9]; intro e; subst e; exact hl.1 rfl
   rw[this]; exact hd) hl.2 (LM he) hx
  rw[hput] at tr
  refine ⟨_,?_,Tr.cons (.skip hgv) hd0 tr,he2,by rw[hd2,NM],hro.cons (r:=⟨[],[],false,h.length,h.length⟩) ⟨fun _=>⟨rfl,rfl,rfl,rfl⟩,fun _=>rfl⟩⟩
  rw[ha,RO,NJ,he.2]; rfl
theorem CM {fz:Fz} (hn:n≤8000) {d:Nat} {w:Bool} {h:aE} {l:List (Option Nat × SB)} {os:List Oper} {e e':ES} {a a':List Rec}
  (hc:dd P n all fz os=some (l.map fun (d',b)=>⟨d',some (d,w),b⟩)) (hd:e.T d=.val (.bool !w)∨e.T d=.bt []) (hl:(l.all fun x=>x.1 != some d)=true) (he:im h e) (hx:tN l a e=(e',a')) :
  ∃ recs h',a'=a ++ recs∧Tr P n all os e.T h recs e'.T h'∧im h' e'∧Calm e e' h h'∧fo P false (l.map fun (d',b)=>⟨d',some (d,w),b⟩) recs:=by
 obtain ⟨recs,h1,h2,h3,h4,h5⟩:=DA hn d w h l os e e' a a' hc hd hl he hx
 exact ⟨recs,h,h1,h2,h3,⟨Ri _,fun id _ hw=>⟨rfl,by rw[h4] at hw; exact hw⟩⟩,h5⟩
theorem PK {call:gT} (hcall:j4 P call) (hn:n≤8000) {fz:Fz} {g:SG} {os:List Oper} {e e':ES} {h:aE} {a a':List Rec} (hc:dd P n all fz os=some g.flat) (hok:qO g=true) (he:im h e) (hx:eG P call g a e=some (e',a')) :
  ∃ recs h',a'=a ++ recs∧Tr P n all os e.T h recs e'.T h'∧im h' e'∧Calm e e' h h'∧fo P false g.flat recs:=by
 unfold eG at hx
 unfold SG.flat at hc ⊢
 unfold qO at hok
 split at hx
 ·rename_i hg
  rw[hg] at hc ⊢
  exact Fi hcall hn none g.ops os e e' h a a' hc (fun d w e=>by simp at e) he hx
 ·rename_i d want hg
  rw[hg] at hc hok ⊢
  simp only at hok
  unfold Kl at hx
  split at hx
  ·rename_i b hb
   split at hx
   ·rename_i hxor
    simp only[Q8] at hx
    have e':b = !want:=by cases b <;> cases want <;> simp_all
    subst e'
    exact CM hn hc (.inl hb) hok he hx
   ·rename_i hxor
    have e':b=want:=by cases b <;> cases want <;> simp_all
    subst e'
    exact Fi hcall hn (some (d,b)) g.ops os e _ h a a' hc (fun d' w e=>by simp at e; obtain ⟨rfl,rfl⟩:=e; exact ⟨hb,hok⟩) he hx
  ·rename_i hb
   simp only[Q8] at hx
   exact CM hn hc (.inr hb) hok he hx
  ·simp at hx
theorem KZ {call:gT} (hcall:j4 P call) (hn:n≤8000) {fz:Fz} : ∀ (gs:List SG) (os:List Oper) (e e':ES) (h:aE) (a a':List Rec),dd P n all fz os=some (jL gs)→gs.all qO=true→im h e→Jr P call gs a e=some (e',a') →
  ∃ recs h',a'=a ++ recs∧Tr P n all os e.T h recs e'.T h'∧im h' e'∧Calm e e' h h'∧fo P false (jL gs) recs
 | [],os,e,e',h,a,a',hc,_,he,hx=>by
  have:=kc hc; subst this
  simp only[Jr,Q8,Rb] at hx; obtain ⟨rfl,rfl⟩:=hx
  exact ⟨[],h,by simp,.nil,he,Calm.refl _ _,.nil⟩
 | g :: gs,os,e,e',h,a,a',hc,hok,he,hx=>by
  simp only[jL,RE,List.flatten_cons] at hc ⊢
  simp only[Sn,Rg] at hok
  obtain ⟨o1,o2,rfl,h1,h2⟩:=pc hc
  simp only[Jr] at hx
  split at hx
  ·rename_i e1 a1 hx1
   obtain ⟨r1,h1',ha1,tr1,he1,hc1,ro1⟩:=PK hcall hn h1 hok.1 he hx1
   obtain ⟨r2,h2',ha2,tr2,he2,hc2,ro2⟩:=KZ hcall hn gs o2 e1 e' h1' a1 a' h2 hok.2 he1 hx
   exact ⟨_,h2',by rw[ha2,ha1,RO],tr1.append tr2,he2,hc1.trans hc2,ro1.append ro2⟩
  ·simp at hx
theorem JS {ls:List Nat} {i k x y:Nat} (hik:i < k) (hx:ls[i]?=some x) (hy:ls[k]?=some y) (ho:ordered (eS all []) i k=false) (h:¬ (x=0∨y=0∨(x≤1∧y≤1))):(i,k)∈yR all ls:=by
 unfold yR
 simp only[List.mem_flatten,Rv]
 refine ⟨_,⟨(x,i),by rw[Sc]; exact hx,rfl⟩,?_⟩
 simp only[Rv,RQ]
 refine ⟨(y,k),⟨by rw[Sc]; exact hy,?_⟩,rfl⟩
 simp only[hik,decide_true,ho,Bool.false_or,Sq,Tx,Bool.or_eq_false_iff,beq_eq_false_iff_ne,Bool.and_eq_false_iff,SH]
 omega
theorem L4 {ls:List Nat} {recs:List Rec} (h:J1 recs (yR all ls)=true) (hl:ls.length=recs.length) (hr:∀ (i x:Nat) (r:Rec),ls[i]?=some x→recs[i]?=some r→jW x r.rd r.wr r.call r.lo r.hi):r9 all recs:=by
 intro i k a b hik ha hb ho
 have hi:i < recs.length:=(Rl.1 ha).1
 have hk:k < recs.length:=(Rl.1 hb).1
 have hx:ls[i]?=some (ls[i]'(by omega)):=Q7 (by omega)
 have hy:ls[k]?=some (ls[k]'(by omega)):=Q7 (by omega)
 generalize ls[i]'(by omega)=x at hx
 generalize ls[k]'(by omega)=y at hy
 have la:=hr i _ a hx ha
 have lb:=hr k _ b hy hb
 by_cases hc:x=0∨y=0∨(x≤1∧y≤1)
 ·rcases hc with h1 | h1 | h1
  ·obtain ⟨e1,e2,e3,e4⟩:=la.1 h1
   exact ⟨fun id hid=>by simp[e2] at hid,fun id _=>by simp[e1],fun hc=>by simp[e3] at hc,fun _=>e2,fun id _ hx=>by omega⟩
  ·obtain ⟨e1,e2,e3,e4⟩:=lb.1 h1
   exact ⟨fun id _=>by simp[e1],fun id hid=>by simp[e2] at hid,fun _=>e2,fun hc=>by simp[e3] at hc,fun id hid=>by simp[e2] at hid⟩
  ·have e1:=la.2 h1.1
   have e2:=lb.2 h1.2
   exact ⟨fun id hid=>by simp[e1] at hid,fun id hid=>by simp[e2] at hid,fun _=>e2,fun _=>e1,fun id hid=>by simp[e2] at hid⟩
 ·have:=RD.1 h _ (JS hik hx hy ho hc)
  simp only[ha,hb] at this
  exact Lc this
theorem N9 (hm:P.follows .mixedOrders=true) {call:gT} (hcall:j4 P call) (hn:n≤8000) {fz:List Nat} {id:Nat} {ops:Array Oper} {draw:Bool} {sc:DC} {run:uD} {e e':ES} {r:Exit} {h:aE}
  (hc:E5 P n fz ops.toList draw=some sc) (he:im h e) (hx:kX P call run sc e=some (r,e')) :
  ∃ h',cy P n (.region id ops draw) e.T h r e'.T h'∧im h' e'∧Calm e e' h h':=by
 unfold E5 at hc
 split at hc
 ·simp at hc
 ·rename_i l hl
  split at hc
  ·simp at hc
  ·rename_i hok
   have hok:(group l).all qO=true:=by simpa using hok
   have hl':dd P n ops.toList ⟨fz,false⟩ ops.toList=some (jL (group l)):=by rw[fF]; exact hl
   have key:∀ ps,kX P call run (.region ps (group l)) e=some (r,e')→(draw=true→kF ops.toList=true∧ps=yR ops.toList (l.map fun s=>iq P false s.b)) →
     ∃ h',cy P n (.region id ops draw) e.T h r e'.T h'∧im h' e'∧Calm e e' h h':=by
    intro ps hx hdr
    simp only[kX,Hj] at hx
    split at hx
    ·rename_i e1 recs0 hx1
     split at hx
     ·rename_i hchk
      simp only[Q8,Rb] at hx
      obtain ⟨rfl,rfl⟩:=hx
      obtain ⟨recs,h',ha,tr,hk,hcm,hro⟩:=KZ hcall hn (group l) ops.toList e e1 h [] recs0 hl' hok he hx1
      simp only[Sm] at ha
      subst ha
      rw[fF] at hro
      refine ⟨h',?_,hk,hcm⟩
      cases hd:draw with
      | false=>simpa using Du (id:=id) tr
      | true =>
       obtain ⟨h1,rfl⟩:=hdr hd
       have hcf:r9 ops.toList recs0:=L4 hchk (by simpa using hro.1) (fun i x r hx hr=>by
        simp only[Rc,Rf] at hx
        obtain ⟨s,hs,rfl⟩:=hx
        exact hro.2 i s r hs hr)
       simpa using vA hm (id:=id) tr h1 hcf
     ·simp at hx
    ·simp at hx
   split at hc
   ·rename_i hd
    split at hc
    ·rename_i ht
     simp at hc; subst hc
     exact key _ hx (fun _=>⟨ht,rfl⟩)
    ·simp at hc
   ·rename_i hd
    simp at hc; subst hc
    exact key _ hx (fun e=>absurd e hd)
theorem Mi (hm:P.follows .mixedOrders=true) {call:gT} (hcall:j4 P call) {run:uD} (hrun:tM P run):tM P (kX P call run):=by
 intro n fz c sc hc hn e e' r h hx he
 cases c with
 | skip =>
  simp[iD] at hc; subst hc
  simp only[kX,KK,Q8,Rb] at hx
  obtain ⟨rfl,rfl⟩:=hx
  exact ⟨h,.skip,he,Calm.refl _ _,fun _ h=>by simp at h⟩
 | region id ops draw =>
  obtain ⟨h',a,b,d⟩:=N9 (id:=id) hm hcall hn hc he hx
  exact ⟨h',a,b,d,fun _ h=>by simp at h⟩
 | seq x y =>
  simp only[iD] at hc
  split at hc
  ·rename_i a b h1 h2
   simp at hc; subst hc
   simp only[kX,Pl] at hx
   split at hx
   ·rename_i e1 hx1
    obtain ⟨h1',x1,he1,c1,l1⟩:=hrun n fz x a h1 hn e e1 .normal h hx1 he
    obtain ⟨h2',x2,he2,c2,l2⟩:=hrun n fz y b h2 hn e1 e' r h1' hx he1
    exact ⟨h2',x1.seq x2,he2,c1.trans c2,fun _ h=>by simp at h⟩
   ·rename_i hne
    obtain ⟨h1',x1,he1,c1,l1⟩:=hrun n fz x a h1 hn e e' r h hx he
    refine ⟨h1',x1.HD (fun e=>?_),he1,c1,fun _ h=>by simp at h⟩
    subst e
    exact absurd hx (hne e')
  ·simp at hc
 | cond cc x y =>
  simp only[iD] at hc
  split at hc
  ·rename_i a b h1 h2
   simp at hc; subst hc
   simp only[kX,N2,SX.cd] at hx
   split at hx
   ·rename_i ht
    obtain ⟨h1',x1,he1,c1,l1⟩:=hrun n fz x a h1 hn e e' r h hx he
    exact ⟨h1',.cond ht x1,he1,c1,fun _ h=>by simp at h⟩
   ·rename_i ht
    obtain ⟨h1',x1,he1,c1,l1⟩:=hrun n fz y b h2 hn e e' r h hx he
    exact ⟨h1',.cond ht x1,he1,c1,fun _ h=>by simp at h⟩
   ·simp at hx
  ·simp at hc
 | block id c =>
  simp only[iD,Rf] at hc
  obtain ⟨a,h1,rfl⟩:=hc
  simp only[kX,Lh] at hx
  split at hx
  ·rename_i r1 e1 hx1
   simp only[Q8,Rb] at hx
   obtain ⟨rfl,rfl⟩:=hx
   obtain ⟨h1',x1,he1,c1,l1⟩:=hrun n fz c a h1 hn e e1 r1 h hx1 he
   exact ⟨h1',x1.block,he1,c1,fun _ h=>by simp at h⟩
  ·simp at hx
 | loop c =>
  have hc0:=hc
  simp only[iD,Rf] at hc
  obtain ⟨a,h1,rfl⟩:=hc
  simp only[kX,NO] at hx
  split at hx
  ·rename_i e1 hx1
   obtain ⟨h1',x1,he1,c1,l1⟩:=hrun n fz c a h1 hn e e1 .normal h hx1 he
   obtain ⟨h2',x2,he2,c2,l2⟩:=hrun n fz (.loop c) (.loop a) hc0 hn e1 e' r h1' hx he1
   have hL:=nX.step x1 (l2 c rfl)
   exact ⟨h2',.loop hL,he2,c1.trans c2,fun c0 h0=>by simp only[Code.loop.injEq] at h0; subst h0; exact hL⟩
  ·rename_i hne
   obtain ⟨h1',x1,he1,c1,l1⟩:=hrun n fz c a h1 hn e e' r h hx he
   have hL:=nX.out x1 (fun e=>by subst e; exact absurd hx (hne e'))
   exact ⟨h1',.loop hL,he1,c1,fun c0 h0=>by simp only[Code.loop.injEq] at h0; subst h0; exact hL⟩
 | exit id =>
  simp[iD] at hc; subst hc
  simp only[kX,Q8,Rb] at hx
  obtain ⟨rfl,rfl⟩:=hx
  exact ⟨h,.exit,he,Calm.refl _ _,fun _ h=>by simp at h⟩
 | ret =>
  simp[iD] at hc; subst hc
  simp only[kX,Q8,Rb] at hx
  obtain ⟨rfl,rfl⟩:=hx
  exact ⟨h,.ret,he,Calm.refl _ _,fun _ h=>by simp at h⟩
 | _=>simp[iD] at hc
theorem BZ:∀ (vs:List V) (i:Nat) (t:b6 V),i+vs.length≤8000→∀ k,(lZ vs i t).get .any k=if i≤k∧k < i+vs.length then vs.getD (k - i) .any else t.get .any k
 | [],i,t,h,k=>by
  rw[lZ,Q9 (by simp only[RF]; omega)]
 | v :: vs,i,t,h,k=>by
  simp only[Rp] at h
  rw[lZ,BZ vs (i+1) _ (by omega),b6.lU _ _ _ _ _ _ (by simp only[deep]; omega)]
  simp only[Rp]
  by_cases h1:k=i
  ·subst h1; rw[Q9 (by omega),Ra rfl,Ra (by omega)]; simp
  ·by_cases h2:i+1≤k∧k < i+1+vs.length
   ·rw[Ra h2,Ra (by omega)]
    have:k - i=(k - (i+1))+1:=by omega
    rw[this]; rfl
   ·rw[Q9 h2,Q9 h1,Q9 (by omega)]
theorem FX (vs:List V) (h:vs.length≤8000):(lZ vs 0 .nil).get .any=kh vs:=by
 funext k
 rw[BZ vs 0 .nil (by omega)]
 simp only[kh,SQ,true_and,R8,Nat.sub_zero]
 split
 ·rfl
 ·rename_i hk
  rw[Q6,RH (by omega)]; rfl
theorem Oo {e:ES} {h:aE} {r:ResultVar} {rest:List ResultVar} {l:List SR} (he:im h e) (hc:eW P (r :: rest)=some l):∃ s l',l=s :: l'∧eW P rest=some l'∧∀ v,Nq s e=some v→qB P e.T h r=some v:=by
 cases r with
 | tmp t =>
  simp only[eW,Rf] at hc
  obtain ⟨l',h1,rfl⟩:=hc
  exact ⟨.tmp t,l',rfl,h1,fun v hv=>hv⟩
 | cell a t =>
  simp only[eW] at hc
  split at hc
  ·rename_i k l' h1 h2
   simp at hc; subst hc
   refine ⟨.cell a k,l',rfl,h2,fun v hv=>?_⟩
   simp only[Nq] at hv
   simp only[qB,kW,te h1]
   rw[he.1] at hv
   split at hv
   ·rename_i id i j ha
    split at hv
    ·rename_i es hH
     split at hv
     ·rename_i hlt
      rw[ha]; simp only[hH]; rw[Ra hlt,hv]; rfl
     ·simp at hv
    ·simp at hv
   ·rename_i e j ha
    rw[ha]; simp only; rw[hv]; rfl
   ·simp at hv
  ·simp at hc
theorem El {e:ES} {h:aE} (he:im h e):∀ (rs:List ResultVar) (l:List SR) (vs:List V),eW P rs=some l→tR l e=some vs→kJ P e.T h rs=some vs
 | [],l,vs,hc,hw=>by simp[eW] at hc; subst hc; simp[tR] at hw; subst hw; rfl
 | r :: rest,l,vs,hc,hw=>by
  obtain ⟨s,l',rfl,h1,h2⟩:=Oo (e:=e) (h:=h) he hc
  simp only[tR] at hw
  split at hw
  ·rename_i v vs' hv hvs
   simp at hw; subst hw
   simp[kJ,h2 v hv,El he rest l' vs' h1 hvs]
  ·simp at hw
def rm (P:Program) (tab:List (FuncId × DF)):Prop:=∀ p∈tab,∃ fz,EX P p.1 fz=some p.2
def qw (P:Program) (ext:vd):Prop:=∀ g vs H t,ext g vs H=some t→db P g=true∧∀ h:aE,h.view=H→bH P g vs h t h
theorem EA {tab:List (FuncId × DF)} {ext:vd} (ht:rm P tab) (hx:qw P ext) {run:uD} (hrun:tM P run):j4 P (Df P tab ext run):=by
 intro g vs e v e' h hcall he
 unfold Df at hcall
 split at hcall
 ·rename_i t hext
  simp only[Q8,Rb] at hcall
  obtain ⟨rfl,rfl⟩:=hcall
  obtain ⟨h1,h2⟩:=hx _ _ _ _ hext
  exact ⟨h1,h,h2 h he.1.symm,he,fun _ _ _=>rfl,fun _ hw=>by simp at hw⟩
 ·split at hcall
  ·rename_i g' F hf
   have hmem:=List.mem_of_find?_eq_some hf
   have hgg:g'=g:=by
    have:=List.find?_some hf
    exact Tf this
   subst hgg
   obtain ⟨fz,hF⟩:=ht _ hmem
   simp only at hF
   unfold EX at hF
   split at hF
   ·rename_i fn hfn
    split at hF
    ·rename_i c hb
     split at hF
     ·rename_i sc rs h1 h2 h3
      simp at hF; subst hF
      refine ⟨h3,?_⟩
      unfold OV at hcall
      split at hcall
      ·rename_i hlen hn
       have hlen:=Nat.le_of_ble_eq_true hlen
       have hn:=Nat.le_of_ble_eq_true hn
       simp only at hlen hn
       unfold PB at hcall
       split at hcall
       ·rename_i v1 e1' hend
        simp only[Q8,Rb] at hcall
        obtain ⟨rfl,rfl⟩:=hcall
        unfold Pu at hend
        have go:∀ (r:Exit) (e1:ES),(r=.ret∨r=.normal)→run sc ⟨lZ vs 0 .nil,e.H,e.n,[]⟩=some (r,e1)→(tR rs e1).map (fun vs=>(ah vs,e1))=some (v1,e1') →
          ∃ h',bH P g' vs h v1 h'∧im h' e1'∧(∀ id,id < h.length→¬ id∈e1'.w→h'.view id=h.view id):=by
         intro r e1 hr hrn hres
         simp only[Rf,Rb] at hres
         obtain ⟨vs',hvs,rfl,rfl⟩:=hres
         obtain ⟨h',hx,he1,hc1,_⟩:=hrun fn.ntmps fz c sc h1 hn _ e1 r h hrn he
         have hT:(ES.T ⟨lZ vs 0 .nil,e.H,e.n,[]⟩)=kh vs:=FX vs (by omega)
         rw[hT] at hx
         refine ⟨h',bH.GO hfn hb hlen hx (by rcases hr with rfl | rfl <;> simp) ?_,he1,fun id hid hw=>(hc1.2 id hid hw).1⟩
         unfold Ih
         rw[El he1 _ _ _ h2 hvs]
         cases vs' with
         | nil=>rfl
         | cons a l=>cases l <;> rfl
        have done:(∃ h',bH P g' vs h v1 h'∧im h' e1'∧(∀ id,id < h.length→¬ id∈e1'.w→h'.view id=h.view id)) →
          ∃ h',bH P g' vs h v1 h'∧im h' ⟨e1'.L,e1'.H,e1'.n,e1'.w.filter fun id=>Nat.blt id e.n⟩∧(∀ id,id < h.length→¬ id∈e1'.w.filter (fun id=>Nat.blt id e.n)→h'.view id=h.view id)∧∀ id,id∈e1'.w.filter (fun id=>Nat.blt id e.n)→id < h.length:=by
         rintro ⟨h',k1,k2,k3⟩
         refine ⟨h',k1,k2,fun id hid hw=>k3 id hid (fun hm=>hw ?_),fun id hw=>?_⟩
         ·rw[RQ]
          exact ⟨hm,by rw[he.2]; exact Nat.ble_eq_true_of_le hid⟩
         ·rw[RQ] at hw
          have:=Nat.le_of_ble_eq_true hw.2
          rw[he.2] at this; exact this
        split at hend
        ·rename_i e1 hrn; exact done (go _ _ (.inl rfl) hrn hend)
        ·rename_i e1 hrn; exact done (go _ _ (.inr rfl) hrn hend)
        ·simp at hend
       ·simp at hcall
      ·simp at hcall
     ·simp at hF
    ·simp at hF
   ·simp at hF
  ·simp at hcall
theorem GY (hm:P.follows .mixedOrders=true) {tab:List (FuncId × DF)} {ext:vd} (ht:rm P tab) (hx:qw P ext):∀ k,tM P (Ec P tab ext k)
 | 0=>fun n fz c sc hc hn e e' r h hr he=>by simp[Ec] at hr
 | k+1=>by
  have ih:=GY hm ht hx k
  have:=Mi hm (EA ht hx ih) ih
  exact this
end
end Gv
