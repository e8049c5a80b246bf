/-
  Part 12 of the proof: what the machine does and what the functions answer.
  Conditions: those that each lemma names.
-/
import Derived.Test.YtihmlbdfcmfbdaaGreatSGzA3K
set_option linter.unusedSimpArgs false
set_option linter.unusedVariables false
set_option maxRecDepth 100000
namespace Gv
open Go Go.Proofs
theorem toNat_zero {s:BV} : ((s.toNat:Nat):Int)=0↔s=0:=by
  constructor
  · intro h; exact BitVec.eq_of_toNat_eq (by simpa using h)
  · rintro rfl; rfl
def fP:SC :=
  .seq (.seq (.region false [⟨none,[aa 26 11,aa 27 0,aa 28 1,ba 29 2 27 28,an 30 1 29,ar 31 30,aR 32 31,aQ 33 .lss 26 32,aa 34 33]⟩,⟨(some (34,true)),[aa 35 10,cw 36 35]⟩,⟨none,[bq 37 34 36]⟩]) <|
  .cond (.tmp 37) (.skip) (.exit 2)) <|
  .seq (.block 3 (.seq (aq [aa 40 0,aa 41 1,ba 42 2 40 41,an 43 1 42,ar 44 43,aa 45 11,ba 46 2 44 45,an 47 0 46,ar 48 47,aa 49 2,aa 50 8,ba 51 1 49 50,ar 52 51,aQ 53 .eql 48 52]) <|
  .cond (.tmp 53) (aq [aa 54 0,aa 55 1,ba 56 2 54 55,an 57 1 56,ar 58 57,aa 59 11,ba 60 2 58 59,an 61 1 60,ar 62 61,aa 9 62,aY 10 true]) (.skip))) <|
  aq [aa 38 11,aw 39 .add 38 1,aa 11 39]
def jy:SC :=
  .seq (.seq (aq [aa 20 8,aa 21 2,aR 22 21,aQ 23 .lss 20 22]) <|
  .cond (.tmp 23) (.skip) (.exit 0)) <|
  .seq (.block 1 (.seq (aq [aA 9 (-1),aY 10 false]) <|
  .seq (.seq (aq [aA 11 0]) <|
  .block 2 (.loop fP)) <|
  .seq (.seq (.region false [⟨none,[aa 63 9,aw 64 .lss 63 0,aa 65 64]⟩,⟨(some (65,false)),[aa 66 9,aa 67 0,aR 68 67,aQ 69 .geq 66 68]⟩,⟨none,[bV 70 65 69]⟩]) <|
  .cond (.tmp 70) (.seq (aq [aA 6 0,aY 7 false]) <|
  .ret) (.skip)) <|
  aq [aa 71 9,aa 1 71])) <|
  aq [aa 24 8,aw 25 .add 24 1,aa 8 25]
def kJ:SF:=⟨.seq (aq [aA 6 0,aY 7 false]) <|
  .seq (.seq (.region false [⟨none,[aa 12 1,aw 13 .lss 12 0,aa 14 13]⟩,⟨(some (14,false)),[aa 15 1,aa 16 0,aR 17 16,aQ 18 .geq 15 17]⟩,⟨none,[bV 19 14 18]⟩]) <|
  .cond (.tmp 19) (.seq (aq [aA 6 0,aY 7 false]) <|
  .ret) (.skip)) <|
  .seq (.seq (aq [aA 8 0]) <|
  .block 0 (.loop jy)) <|
  .seq (aq [aa 72 1,aa 6 72,aY 7 true]) <|
  .ret,
  [.tmp 6,.tmp 7],73⟩
theorem pc:bD Tryz.prog 29 []=some kJ:=by kernel_rfl
instance (g:al) (x:cR):Decidable (jG g x):=by unfold jG; infer_instance
theorem CD:∀ (l:List jg) (s:Int) (k:Nat) (e:jg),l[k]?=some e→eW (l.drop k) s=if e.sym=s then e.to else eW (l.drop (k+1)) s:=by
  intro l s k e h
  obtain ⟨hk,he⟩:=List.getElem?_eq_some_iff.1 h
  rw[List.drop_eq_getElem_cons hk,he,eW]
set_option maxHeartbeats 8000000 in
theorem Ft (a:List dM) (ha:aJ a) (he:∀ s∈a,aJ s.c6∧∀ e∈s.c6,bw e.sym∧bw e.to) (fr:Int) (syms:List Int) (hs:aJ syms):aC Tryz.prog 29 [bY a,gi fr,encI syms] (.aV [gi (na a fr syms).1,gb (na a fr syms).2]):=by
  unfold aJ at ha hs
  refine aC.tree (by
    intro v hv; simp at hv
    rcases hv with rfl | rfl | rfl
    · exact kA _
    · exact .val _
    · exact fF _) (xT (.val _) (.val _)) fun H=>?_
  refine aH.of mixed pc ?_
  unfold na
  simp (disch:=omega) only [↓wr,↓reduceIte,wq,ai,ag,ak,ab,ae,af,aj,isNil,Nat.reduceEqDiff,Nat.reduceAdd,Nat.reduceLT,Nat.reduceLeDiff,Int.reduceNeg,Int.reduceToNat,reduceCtorEq,kJ,bY,encI]
  refine ax.dec (fun h1=>?_) (fun h1=>?_)
  · simp (disch:=omega) only [↓wr,↓reduceIte,wq,ai,ag,ak,ab,ae,af,aj,isNil,Nat.reduceEqDiff,Nat.reduceAdd,Nat.reduceLT,Nat.reduceLeDiff,Int.reduceNeg,Int.reduceToNat,reduceCtorEq]
    rw[if_pos (by omega)]
  simp (disch:=omega) only [↓wr,↓reduceIte,wq,ai,ag,ak,ab,ae,af,aj,isNil,Nat.reduceEqDiff,Nat.reduceAdd,Nat.reduceLT,Nat.reduceLeDiff,Int.reduceNeg,Int.reduceToNat,reduceCtorEq,bY]
  refine ax.dec (fun h2=>?_) (fun h2=>?_)
  · simp (disch:=omega) only [↓wr,↓reduceIte,wq,ai,ag,ak,ab,ae,af,aj,isNil,Nat.reduceEqDiff,Nat.reduceAdd,Nat.reduceLT,Nat.reduceLeDiff,Int.reduceNeg,Int.reduceToNat,reduceCtorEq]
    rw[if_pos (by omega)]
  rw[if_neg (by omega)]
  simp (disch:=omega) only [↓wr,↓reduceIte,wq,ai,ag,ak,ab,ae,af,aj,isNil,Nat.reduceEqDiff,Nat.reduceAdd,Nat.reduceLT,Nat.reduceLeDiff,Int.reduceNeg,Int.reduceToNat,reduceCtorEq]
  refine cD.up syms.length (fun i T H'=>∃ at_:Int,0≤at_∧at_ < a.length∧iv a at_ (syms.drop i)=iv a fr syms∧T 0=bY a∧T 1=gi at_∧T 2=encI syms∧T 8=gi i) ⟨fr,by omega,by omega,rfl,rfl,rfl,rfl,rfl⟩ ?_
  rintro i k T H' hk ⟨at_,q1,q2,hw,t0,t1,t2,t8⟩
  simp (disch:=omega) only [↓wr,↓reduceIte,wq,ai,ag,ak,ab,ae,af,aj,isNil,Nat.reduceEqDiff,Nat.reduceAdd,Nat.reduceLT,Nat.reduceLeDiff,Int.reduceNeg,Int.reduceToNat,reduceCtorEq,jy,t0,t1,t2,t8,encI]
  refine ax.dec (fun hc=>?_) (fun hc=>?_)
  · have hx:syms[i]?=some (syms[i]'(by omega)):=List.getElem?_eq_getElem (by omega)
    rw[List.drop_eq_getElem_cons (show i < syms.length by omega)] at hw
    generalize syms[i]'(by omega)=x at hx hw
    have hS:a[at_.toNat]?=some (a.getD at_.toNat uq):=getD_some (by omega)
    obtain ⟨hE1,hE2⟩:=he _ (List.mem_of_getElem? hS)
    rw[iv] at hw
    generalize a.getD at_.toNat uq=S at hS hE1 hE2 hw
    unfold aJ at hE1
    simp (disch:=omega) only [↓wr,↓reduceIte,wq,ai,ag,ak,ab,ae,af,aj,isNil,Nat.reduceEqDiff,Nat.reduceAdd,Nat.reduceLT,Nat.reduceLeDiff,Int.reduceNeg,Int.reduceToNat,reduceCtorEq,t0,t1,t2,t8]
    refine cD.up S.c6.length (fun j T H'=>∃ (to:Int) (ok:Bool),(ok=true→to=eW S.c6 x)∧(ok=false→to = -1∧eW (S.c6.drop j) x=eW S.c6 x)∧T 0=bY a∧T 1=gi at_∧T 2=encI syms∧T 8=gi i∧T 9=gi to∧T 10=gb ok∧T 11=gi j)
      ⟨-1,false,by simp,fun _=>⟨rfl,rfl⟩,t0,t1,t2,t8,rfl,rfl,rfl⟩ ?_
    clear t0 t1 t2 t8
    rintro j k2 T2 H2 hk2 ⟨to,ok,p1,p2,t0,t1,t2,t8,t9,t10,t11⟩
    cases ok with
    | true =>
      have hto:=p1 rfl
      simp (disch:=omega) only [↓wr,↓reduceIte,wq,ai,ag,ak,ab,ae,af,aj,isNil,Nat.reduceEqDiff,Nat.reduceAdd,Nat.reduceLT,Nat.reduceLeDiff,Int.reduceNeg,Int.reduceToNat,reduceCtorEq,fP,t0,t1,t2,t8,t9,t10,t11,bY,List.getElem?_map,hS,Option.map_some,iH,rG]
      refine ax.dec (fun _=>?_) (fun _=>?_)
      all_goals (
        simp (disch:=omega) only [↓wr,↓reduceIte,wq,ai,ag,ak,ab,ae,af,aj,isNil,Nat.reduceEqDiff,Nat.reduceAdd,Nat.reduceLT,Nat.reduceLeDiff,Int.reduceNeg,Int.reduceToNat,reduceCtorEq,t0,t1,t2,t8,t9,t10,t11,bY,hto]
        refine ax.dec (fun h3=>?_) (fun h3=>?_)
        · simp (disch:=omega) only [↓wr,↓reduceIte,wq,ai,ag,ak,ab,ae,af,aj,isNil,Nat.reduceEqDiff,Nat.reduceAdd,Nat.reduceLT,Nat.reduceLeDiff,Int.reduceNeg,Int.reduceToNat,reduceCtorEq]
          rw[← hw,if_neg (by omega)]
        · simp (disch:=omega) only [↓wr,↓reduceIte,wq,ai,ag,ak,ab,ae,af,aj,isNil,Nat.reduceEqDiff,Nat.reduceAdd,Nat.reduceLT,Nat.reduceLeDiff,Int.reduceNeg,Int.reduceToNat,reduceCtorEq,t0,t1,t2,t8,t9,bY,hto]
          refine ax.dec (fun h4=>?_) (fun h4=>?_)
          · simp (disch:=omega) only [↓wr,↓reduceIte,wq,ai,ag,ak,ab,ae,af,aj,isNil,Nat.reduceEqDiff,Nat.reduceAdd,Nat.reduceLT,Nat.reduceLeDiff,Int.reduceNeg,Int.reduceToNat,reduceCtorEq]
            rw[← hw,if_neg (by omega)]
          · simp (disch:=omega) only [↓wr,↓reduceIte,wq,ai,ag,ak,ab,ae,af,aj,isNil,Nat.reduceEqDiff,Nat.reduceAdd,Nat.reduceLT,Nat.reduceLeDiff,Int.reduceNeg,Int.reduceToNat,reduceCtorEq,t0,t1,t2,t8,t9,hto]
            rw[if_pos ⟨by omega,by omega⟩] at hw
            exact bI hk (by omega) ⟨_,by omega,by omega,hw,t0,rfl,t2,rfl⟩)
    | false =>
      obtain ⟨p3,p4⟩:=p2 rfl
      simp (disch:=omega) only [↓wr,↓reduceIte,wq,ai,ag,ak,ab,ae,af,aj,isNil,Nat.reduceEqDiff,Nat.reduceAdd,Nat.reduceLT,Nat.reduceLeDiff,Int.reduceNeg,Int.reduceToNat,reduceCtorEq,fP,t0,t1,t2,t8,t9,t10,t11,bY,List.getElem?_map,hS,Option.map_some,iH,rG]
      refine ax.dec (fun hc2=>?_) (fun hc2=>?_)
      · have hE:S.c6[j]?=some (S.c6[j]'(by omega)):=List.getElem?_eq_getElem (by omega)
        generalize S.c6[j]'(by omega)=E at hE
        rw[CD _ _ _ _ hE] at p4
        simp (disch:=omega) only [↓wr,↓reduceIte,wq,ai,ag,ak,ab,ae,af,aj,isNil,Nat.reduceEqDiff,Nat.reduceAdd,Nat.reduceLT,Nat.reduceLeDiff,Int.reduceNeg,Int.reduceToNat,reduceCtorEq,t0,t1,t2,t8,t9,t10,t11,bY,encI,List.getElem?_map,hS,hx,Option.map_some,iH,rG,hE,iF]
        refine ax.eq (fun h5=>?_) (fun h5=>?_)
        · rw[if_pos h5] at p4
          simp (disch:=omega) only [↓wr,↓reduceIte,wq,ai,ag,ak,ab,ae,af,aj,isNil,Nat.reduceEqDiff,Nat.reduceAdd,Nat.reduceLT,Nat.reduceLeDiff,Int.reduceNeg,Int.reduceToNat,reduceCtorEq,t0,t1,t2,t8,t9,t10,t11,bY,List.getElem?_map,hS,Option.map_some,iH,rG,hE,iF]
          exact bI hk2 (by omega) ⟨E.to,true,fun _=>p4,by simp,t0,t1,t2,t8,rfl,rfl,rfl⟩
        · rw[if_neg h5] at p4
          simp (disch:=omega) only [↓wr,↓reduceIte,wq,ai,ag,ak,ab,ae,af,aj,isNil,Nat.reduceEqDiff,Nat.reduceAdd,Nat.reduceLT,Nat.reduceLeDiff,Int.reduceNeg,Int.reduceToNat,reduceCtorEq,t0,t1,t2,t8,t9,t10,t11]
          exact bI hk2 (by omega) ⟨to,false,by simp,fun _=>⟨p3,p4⟩,t0,t1,t2,t8,t9,t10,rfl⟩
      · rw[List.drop_eq_nil_of_le (by omega),eW,← p3] at p4
        have hto:=p4
        simp (disch:=omega) only [↓wr,↓reduceIte,wq,ai,ag,ak,ab,ae,af,aj,isNil,Nat.reduceEqDiff,Nat.reduceAdd,Nat.reduceLT,Nat.reduceLeDiff,Int.reduceNeg,Int.reduceToNat,reduceCtorEq,t0,t1,t2,t8,t9,t10,t11,bY,hto]
        refine ax.dec (fun h3=>?_) (fun h3=>?_)
        · simp (disch:=omega) only [↓wr,↓reduceIte,wq,ai,ag,ak,ab,ae,af,aj,isNil,Nat.reduceEqDiff,Nat.reduceAdd,Nat.reduceLT,Nat.reduceLeDiff,Int.reduceNeg,Int.reduceToNat,reduceCtorEq]
          rw[← hw,if_neg (by omega)]
        · simp (disch:=omega) only [↓wr,↓reduceIte,wq,ai,ag,ak,ab,ae,af,aj,isNil,Nat.reduceEqDiff,Nat.reduceAdd,Nat.reduceLT,Nat.reduceLeDiff,Int.reduceNeg,Int.reduceToNat,reduceCtorEq,t0,t1,t2,t8,t9,bY,hto]
          refine ax.dec (fun h4=>?_) (fun h4=>?_)
          · simp (disch:=omega) only [↓wr,↓reduceIte,wq,ai,ag,ak,ab,ae,af,aj,isNil,Nat.reduceEqDiff,Nat.reduceAdd,Nat.reduceLT,Nat.reduceLeDiff,Int.reduceNeg,Int.reduceToNat,reduceCtorEq]
            rw[← hw,if_neg (by omega)]
          · simp (disch:=omega) only [↓wr,↓reduceIte,wq,ai,ag,ak,ab,ae,af,aj,isNil,Nat.reduceEqDiff,Nat.reduceAdd,Nat.reduceLT,Nat.reduceLeDiff,Int.reduceNeg,Int.reduceToNat,reduceCtorEq,t0,t1,t2,t8,t9,hto]
            rw[if_pos ⟨by omega,by omega⟩] at hw
            exact bI hk (by omega) ⟨_,by omega,by omega,hw,t0,rfl,t2,rfl⟩
  · simp (disch:=omega) only [↓wr,↓reduceIte,wq,ai,ag,ak,ab,ae,af,aj,isNil,Nat.reduceEqDiff,Nat.reduceAdd,Nat.reduceLT,Nat.reduceLeDiff,Int.reduceNeg,Int.reduceToNat,reduceCtorEq,t1]
    rw[List.drop_eq_nil_of_le (by omega),iv] at hw
    rw[← hw]
def jY:DF:=⟨.seq (ah [aY 0 false]) <|
  .seq (ah [((some 16),.op (.bz 16 1 [(.val (.int .u8 0))] [(0,(.val (.val (.int .u8 37)))),(1,(.val (.val (.int .u8 37)))),(2,(.val (.val (.int .u8 32)))),(3,(.val (.val (.int .u8 115)))),(4,(.val (.val (.int .u8 32)))),(5,(.val (.val (.int .u8 58)))),(6,(.val (.val (.int .u8 32)))),(7,(.val (.val (.int .u8 39)))),(8,(.val (.val (.int .u8 97)))),(9,(.val (.val (.int .u8 39)))),(10,(.val (.val (.int .u8 32)))),(11,(.val (.val (.int .u8 115)))),(12,(.val (.val (.int .u8 32)))),(13,(.val (.val (.int .u8 124)))),(14,(.val (.val (.int .u8 32)))),(15,(.val (.val (.int .u8 59))))])),((some 17),.op (.old (.convert 91 91 (.tmp 16)) 91)),aD 18 49 [17],aa 15 18,cr 19 0 15,cr 20 1 15,cr 21 2 15,((some 1),.op (.alloc [(.emp 1),(.emp 1),(.emp 1),(.val (.int .i64 0))])),(none,.op (.store 4 (.tmp 1) (.tmp 19))),aa 2 20,aa 3 21]) <|
  .seq (ah [aO 23 4 1,aD 24 24 [23],aa 22 24,cr 25 0 22,cr 26 1 22,aa 4 25,aa 5 26]) <|
  .seq (ah [((some 28),.op (.build [(.emp 1),(.emp 1),(.emp 1),(.val (.int .i64 0))] [])),aD 29 24 [28],aa 27 29,cr 30 0 27,cr 31 1 27,aa 6 30,aa 7 31]) <|
  .seq (ah [aO 32 4 1,((some 33),.op (.build [(.val (.int .i64 0)),(.val (.int .i64 0))] [(0,1,(.val (.val (.int .i64 (-1)))))])),((some 34),.op (.build [(.val (.int .i64 0)),(.val (.int .i64 0))] [(0,1,(.val (.val (.int .i64 7))))])),((some 35),.op (.bz 2 2 [(.val (.int .i64 0)),(.val (.int .i64 0))] [(0,(.tmp 33)),(1,(.tmp 34))])),aD 36 22 [32,35],aa 8 36]) <|
  .seq (ah [aa 38 4,((some 39),.op (.bz 3 1 [(.val (.int .i64 0))] [(0,(.val (.val (.int .i64 0)))),(1,(.val (.val (.int .i64 0)))),(2,(.val (.val (.int .i64 (-1)))))])),cn 40 28 [(.tmp 38),(.val (.val (.int .i64 0))),(.tmp 39)],aa 37 40,cr 41 0 37,cr 42 1 37,aa 9 41,aa 10 42]) <|
  .seq (ah [aa 44 4,((some 45),.op (.bz 1 1 [(.val (.int .i64 0))] [(0,(.val (.val (.int .i64 1))))])),cn 46 28 [(.tmp 44),(.val (.val (.int .i64 0))),(.tmp 45)],aa 43 46,cr 47 0 43,cr 48 1 43,aa 11 47,aa 12 48]) <|
  .seq (ah [aO 50 4 1,((some 51),.op (.build [(.val (.int .i64 0)),(.val (.int .i64 0))] [(0,1,(.val (.val (.int .i64 0)))),(1,1,(.val (.val (.int .i64 1))))])),aD 52 17 [50,51],aa 49 52,cr 53 0 49,cr 54 1 49,aa 13 53,aa 14 54]) <|
  .seq (.region [] [⟨none,[aa 55 5,aw 56 .eql 55 0,aa 57 56]⟩,⟨(some (57,true)),[aa 58 7,aw 59 .eql 58 1]⟩,⟨none,[bq 60 57 59,aa 61 60]⟩,⟨(some (61,true)),[aa 62 4,aR 63 62,aw 64 .eql 63 4]⟩,⟨none,[bq 65 61 64,aa 66 65]⟩,⟨(some (66,true)),[aa 67 4,((some 68),.op (.idx 2 (.tmp 67) (.val (.val (.int .i64 1))))),an 69 1 68,ar 70 69,aR 71 70,aw 72 .eql 71 2]⟩,⟨none,[bq 73 66 72,aa 74 73]⟩,⟨(some (74,true)),[aa 75 8,aR 76 75,aw 77 .eql 76 3]⟩,⟨none,[bq 78 74 77,aa 79 78]⟩,⟨(some (79,true)),[aa 80 8,((some 81),.op (.idx 2 (.tmp 80) (.val (.val (.int .i64 0))))),an 82 0 81,ar 83 82,aw 84 .eql 83 (-1)]⟩,⟨none,[bq 85 79 84,aa 86 85]⟩,⟨(some (86,true)),[aa 87 10]⟩,⟨none,[bq 88 86 87,aa 89 88]⟩,⟨(some (89,true)),[aa 90 9,aw 91 .eql 90 3]⟩,⟨none,[bq 92 89 91,aa 93 92]⟩,⟨(some (93,true)),[aa 94 12,cw 95 94]⟩,⟨none,[bq 96 93 95,aa 97 96]⟩,⟨(some (97,true)),[aa 98 14]⟩,⟨none,[bq 99 97 98,aa 100 99]⟩,⟨(some (100,true)),[aa 101 13,aw 102 .eql 101 (-1)]⟩,⟨none,[bq 103 100 102,aa 104 103]⟩,⟨(some (104,true)),[aO 105 4 1,((some 106),.op (.build [(.val (.int .i64 0)),(.val (.int .i64 0))] [(0,1,(.val (.val (.int .i64 1))))])),aD 107 19 [105,106]]⟩,⟨none,[bq 108 104 107,aa 109 108]⟩,⟨(some (109,true)),[aO 110 4 1,((some 111),.op (.build [(.val (.int .i64 0)),(.val (.int .i64 0))] [(0,1,(.val (.val (.int .i64 1)))),(1,1,(.val (.val (.int .i64 1))))])),aD 112 19 [110,111],cw 113 112]⟩,⟨none,[bq 114 109 113,aa 0 114]⟩]) <|
  .ret,
  [.tmp 0],115⟩
theorem oc:aF Tryz.prog 15 []=some jY:=by kernel_rfl
def wP:DC :=
  .seq (ah [aQ 49 .lss 48 47]) <|
  .seq (.cond (.tmp 49) (.skip) (.exit 2)) <|
  .seq (.block 3 (.seq (ah [aa 50 48,aa 9 50]) <|
  .seq (ah [aa 51 8,aa 52 9,((some 53),.op (.old (.lookup 98 (.tmp 51) (.tmp 52) false) 27)),aD 54 64 [53],aa 10 54]) <|
  .seq (.seq (ah [aa 55 10,aR 56 55,aw 57 .eql 56 0]) <|
  .cond (.tmp 57) (.exit 3) (.skip)) <|
  .seq (ah [aa 58 9,aa 11 58]) <|
  .seq (.seq (ah [aa 59 9,an 60 0 1,ar 61 60,aR 62 61,aQ 63 .geq 59 62]) <|
  .cond (.tmp 63) (ah [an 64 0 1,ar 65 64,aR 66 65,aw 67 .sub 66 1,aa 68 9,aQ 69 .sub 67 68,aa 11 69]) (.skip)) <|
  .seq (ah [aa 71 6,aa 72 10,aD 73 62 [72],((some 74),.op (.old (.lookup 97 (.tmp 71) (.tmp 73) true) 30)),aa 70 74,cr 75 0 70,cr 76 1 70,aa 12 75,aa 13 76]) <|
  .seq (.seq (ah [aa 77 13,cw 78 77]) <|
  .cond (.tmp 78) (.seq (ah [aa 79 5,aR 80 79,aa 12 80]) <|
  .seq (ah [aa 81 6,aa 82 10,aD 83 62 [82],aa 84 12,(none,.op (.old (.mapUpdate 97 (.tmp 81) (.tmp 83) (.tmp 84)) 0))]) <|
  ah [aa 85 5,aa 86 10,((some 87),.op (.build [(.emp 1),(.emp 1)] [(0,1,(.tmp 86))])),((some 88),.op (.bz 1 2 [(.emp 1),(.emp 1)] [(0,(.tmp 87))])),((some 89),.op (.app 2 48 (.tmp 85) (.tmp 88))),aa 5 89]) (.skip)) <|
  ah [aa 90 5,aa 91 7,aa 92 5,aa 93 7,ba 94 2 92 93,an 95 1 94,ar 96 95,aa 97 11,aa 98 12,((some 99),.op (.build [(.val (.int .i64 0)),(.val (.int .i64 0))] [(0,1,(.tmp 97)),(1,1,(.tmp 98))])),((some 100),.op (.bz 1 2 [(.val (.int .i64 0)),(.val (.int .i64 0))] [(0,(.tmp 99))])),((some 101),.op (.app 2 16 (.tmp 96) (.tmp 100))),ba 102 2 90 91,an 103 1 102,(none,.op (.store 1 (.tmp 103) (.tmp 101)))])) <|
  ah [aw 104 .add 48 1,aa 48 104]
def w6:DC :=
  .seq (.seq (ah [aa 26 7,aa 27 5,aR 28 27,aQ 29 .lss 26 28]) <|
  .cond (.tmp 29) (.skip) (.exit 0)) <|
  .seq (.block 1 (.seq (.region [(0,7)] [⟨none,[aO 32 4 1,aO 33 4 1,aa 34 5,aa 35 7,ba 36 2 34 35,an 37 0 36,ar 38 37,aD 39 56 [33,38],aD 40 63 [32,39],aa 8 40]⟩]) <|
  .seq (.seq (ah [an 41 0 1,ar 42 41,aR 43 42,an 44 1 1,ar 45 44,aR 46 45,aQ 47 .add 43 46,aA 48 0]) <|
  .block 2 (.loop wP)) <|
  .seq (ah [aa 105 5,aR 106 105,aw 107 .gtr 106 300]) <|
  .cond (.tmp 107) (.seq (ah [((some 2),.op (.bc (.val (.emp 1)))),aA 3 5]) <|
  .ret) (.skip))) <|
  ah [aa 30 7,aw 31 .add 30 1,aa 7 31]
def rp:DF:=⟨.seq (ah [c5 1 0,((some 2),.op (.bc (.val (.emp 1)))),aA 3 0]) <|
  .seq (.seq (ah [aO 14 4 1,aD 15 61 [14],cw 16 15]) <|
  .cond (.tmp 16) (.seq (ah [((some 2),.op (.bc (.val (.emp 1)))),aA 3 1]) <|
  .ret) (.skip)) <|
  .seq (ah [((some 17),.op (.build [(.val (.int .i64 0)),(.val (.int .i64 0))] [(0,1,(.val (.val (.int .i64 (-1)))))])),((some 18),.op (.bz 1 2 [(.val (.int .i64 0)),(.val (.int .i64 0))] [(0,(.tmp 17))])),aa 4 18]) <|
  .seq (ah [aa 19 4,((some 20),.op (.build [(.emp 1),(.emp 1)] [(0,1,(.tmp 19))])),((some 21),.op (.bz 1 2 [(.emp 1),(.emp 1)] [(0,(.tmp 20))])),aa 5 21]) <|
  .seq (ah [((some 22),.op (.lW)),aa 23 4,aD 24 62 [23],(none,.op (.old (.insert 97 (.tmp 22) (.tmp 24) (.const (.int .i64 0))) 0)),aa 25 22,aa 6 25]) <|
  .seq (.seq (ah [aA 7 0]) <|
  .block 0 (.loop w6)) <|
  .seq (ah [aa 108 5,aa 2 108,aA 3 0]) <|
  .ret,
  [.tmp 2,.tmp 3],109⟩
theorem vn:aF Tryz.prog 24 [1]=some rp:=by kernel_rfl
def tl:DF:=⟨.seq (ah [((some 2),.op (.bc (.val (.emp 1))))]) <|
  .seq (ah [aa 3 0,cn 4 112 [(.tmp 3),(.val (.fn 113 [] []))]]) <|
  .seq (ah [aa 5 0,aD 6 114 [5],aa 2 6]) <|
  .ret,
  [.tmp 2],7⟩
theorem wK:aF Tryz.prog 64 []=some tl:=by kernel_rfl
def dD:DF:=⟨.seq (ah [aa 5 0,aR 6 5,aa 4 6]) <|
  ah [aa 7 0,aa 8 4,aa 9 4,((some 10),.op (.conv .u64 (.tmp 9))),aD 11 167 [10],aa 12 1,cn 13 166 [(.tmp 7),(.val (.val (.int .i64 0))),(.tmp 8),(.tmp 11),(.tmp 12)]],
  [],14⟩
theorem fA:aF Tryz.prog 112 []=some dD:=by kernel_rfl
def m8:DF:=⟨.seq (ah [aA 2 0]) <|
  .seq (.cond (.val (.val (.bool false))) (.seq (ah [aa 3 0,((some 4),.op (.conv .u32 (.tmp 3))),aD 5 207 [4],aa 2 5]) <|
  .ret) (.skip)) <|
  .seq (ah [aa 6 0,aD 7 208 [6],aa 2 7]) <|
  .ret,
  [.tmp 2],8⟩
theorem rX:aF Tryz.prog 167 []=some m8:=by kernel_rfl
def lK:DF:=⟨.seq (ah [aA 2 0]) <|
  .seq (.seq (ah [aa 3 0,((some 4),.op (.arith .geq (.tmp 3) (.val (.val (.int .u32 65536)))))]) <|
  .cond (.tmp 4) (.seq (ah [aa 5 0,((some 6),.op (.sh false (.tmp 5) (.val (.val (.int .u64 16))))),aa 0 6]) <|
  ah [aA 2 16]) (.skip)) <|
  .seq (.seq (ah [aa 7 0,((some 8),.op (.arith .geq (.tmp 7) (.val (.val (.int .u32 256)))))]) <|
  .cond (.tmp 8) (.seq (ah [aa 9 0,((some 10),.op (.sh false (.tmp 9) (.val (.val (.int .u64 8))))),aa 0 10]) <|
  ah [aa 11 2,aw 12 .add 11 8,aa 2 12]) (.skip)) <|
  .seq (.region [] [⟨none,[aa 13 2,aa 14 0,((some 15),.op (.conv .u8 (.tmp 14))),((some 16),.op (.ee (.val (.val (.string ⟨#[0,1,2,2,3,3,3,3,4,4,4,4,4,4,4,4,5,5,5,5,5,5,5,5,5,5,5,5,5,5,5,5,6,6,6,6,6,6,6,6,6,6,6,6,6,6,6,6,6,6,6,6,6,6,6,6,6,6,6,6,6,6,6,6,7,7,7,7,7,7,7,7,7,7,7,7,7,7,7,7,7,7,7,7,7,7,7,7,7,7,7,7,7,7,7,7,7,7,7,7,7,7,7,7,7,7,7,7,7,7,7,7,7,7,7,7,7,7,7,7,7,7,7,7,7,7,7,7,8,8,8,8,8,8,8,8,8,8,8,8,8,8,8,8,8,8,8,8,8,8,8,8,8,8,8,8,8,8,8,8,8,8,8,8,8,8,8,8,8,8,8,8,8,8,8,8,8,8,8,8,8,8,8,8,8,8,8,8,8,8,8,8,8,8,8,8,8,8,8,8,8,8,8,8,8,8,8,8,8,8,8,8,8,8,8,8,8,8,8,8,8,8,8,8,8,8,8,8,8,8,8,8,8,8,8,8,8,8,8,8,8,8,8,8,8,8,8,8,8,8,8,8,8,8,8,8]⟩))) (.tmp 15))),((some 17),.op (.conv .i64 (.tmp 16))),aQ 18 .add 13 17,aa 2 18]⟩]) <|
  .ret,
  [.tmp 2],19⟩
theorem pS:aF Tryz.prog 207 []=some lK:=by kernel_rfl
def lL:DF:=⟨.seq (ah [aA 2 0]) <|
  .seq (.seq (ah [aa 3 0,((some 4),.op (.arith .geq (.tmp 3) (.val (.val (.int .u64 4294967296)))))]) <|
  .cond (.tmp 4) (.seq (ah [aa 5 0,((some 6),.op (.sh false (.tmp 5) (.val (.val (.int .u64 32))))),aa 0 6]) <|
  ah [aA 2 32]) (.skip)) <|
  .seq (.seq (ah [aa 7 0,((some 8),.op (.arith .geq (.tmp 7) (.val (.val (.int .u64 65536)))))]) <|
  .cond (.tmp 8) (.seq (ah [aa 9 0,((some 10),.op (.sh false (.tmp 9) (.val (.val (.int .u64 16))))),aa 0 10]) <|
  ah [aa 11 2,aw 12 .add 11 16,aa 2 12]) (.skip)) <|
  .seq (.seq (ah [aa 13 0,((some 14),.op (.arith .geq (.tmp 13) (.val (.val (.int .u64 256)))))]) <|
  .cond (.tmp 14) (.seq (ah [aa 15 0,((some 16),.op (.sh false (.tmp 15) (.val (.val (.int .u64 8))))),aa 0 16]) <|
  ah [aa 17 2,aw 18 .add 17 8,aa 2 18]) (.skip)) <|
  .seq (.region [] [⟨none,[aa 19 2,aa 20 0,((some 21),.op (.conv .u8 (.tmp 20))),((some 22),.op (.ee (.val (.val (.string ⟨#[0,1,2,2,3,3,3,3,4,4,4,4,4,4,4,4,5,5,5,5,5,5,5,5,5,5,5,5,5,5,5,5,6,6,6,6,6,6,6,6,6,6,6,6,6,6,6,6,6,6,6,6,6,6,6,6,6,6,6,6,6,6,6,6,7,7,7,7,7,7,7,7,7,7,7,7,7,7,7,7,7,7,7,7,7,7,7,7,7,7,7,7,7,7,7,7,7,7,7,7,7,7,7,7,7,7,7,7,7,7,7,7,7,7,7,7,7,7,7,7,7,7,7,7,7,7,7,7,8,8,8,8,8,8,8,8,8,8,8,8,8,8,8,8,8,8,8,8,8,8,8,8,8,8,8,8,8,8,8,8,8,8,8,8,8,8,8,8,8,8,8,8,8,8,8,8,8,8,8,8,8,8,8,8,8,8,8,8,8,8,8,8,8,8,8,8,8,8,8,8,8,8,8,8,8,8,8,8,8,8,8,8,8,8,8,8,8,8,8,8,8,8,8,8,8,8,8,8,8,8,8,8,8,8,8,8,8,8,8,8,8,8,8,8,8,8,8,8,8,8,8,8,8,8,8,8]⟩))) (.tmp 21))),((some 23),.op (.conv .i64 (.tmp 22))),aQ 24 .add 19 23,aa 2 24]⟩]) <|
  .ret,
  [.tmp 2],25⟩
theorem qf:aF Tryz.prog 208 []=some lL:=by kernel_rfl
def gW:DC :=
  .block 1 (.seq (ah [aa 21 2,aa 22 1,aQ 23 .sub 21 22,aa 12 23]) <|
  .seq (.seq (ah [aa 24 12,aw 25 .leq 24 12]) <|
  .cond (.tmp 25) (.seq (ah [aa 26 0,aa 27 1,aa 28 2,aa 29 4,aD 30 199 [26,27,28,29]]) <|
  .ret) (.skip)) <|
  .seq (.seq (ah [aa 31 3,aw 32 .eql 31 0]) <|
  .cond (.tmp 32) (.seq (ah [aa 33 0,aa 34 1,aa 35 2,aa 36 4,aD 37 200 [33,34,35,36]]) <|
  .ret) (.skip)) <|
  .seq (.seq (ah [aa 38 10,cw 39 38]) <|
  .cond (.tmp 39) (.seq (ah [aa 40 0,aa 41 1,aa 42 2,aa 43 4,aD 44 201 [40,41,42,43]]) <|
  ah [aa 45 3,aw 46 .sub 45 1,aa 3 46]) (.skip)) <|
  .seq (ah [aa 48 0,aa 49 1,aa 50 2,aa 51 4,aD 52 202 [48,49,50,51],aa 47 52,cr 53 0 47,cr 54 1 47,aa 13 53,aa 14 54]) <|
  .seq (.seq (ah [aa 55 14,aw 56 .eql 55 2]) <|
  .cond (.tmp 56) (.seq (ah [aa 57 0,aa 58 1,aa 59 2,aa 60 4,aD 61 203 [57,58,59,60]]) <|
  .seq (ah [aa 62 2,aw 63 .sub 62 1,aa 64 13,aa 65 1,aQ 66 .sub 64 65,aQ 67 .sub 63 66,aa 13 67]) <|
  ah [aA 14 1]) (.skip)) <|
  .seq (.seq (.region [] [⟨none,[aa 68 10,aa 69 68]⟩,⟨(some (69,true)),[aa 70 11]⟩,⟨none,[bq 71 69 70,aa 72 71]⟩,⟨(some (72,true)),[aa 73 14,aw 74 .eql 73 1]⟩,⟨none,[bq 75 72 74]⟩]) <|
  .cond (.tmp 75) (.seq (ah [aa 76 0,aa 77 1,aa 78 2,aa 79 4,aD 80 204 [76,77,78,79]]) <|
  .cond (.tmp 80) (.ret) (.skip)) (.skip)) <|
  .seq (.seq (.region [] [⟨none,[aa 81 1,aw 82 .gtr 81 0,aa 83 82]⟩,⟨(some (83,true)),[aa 84 4,aa 85 0,aa 86 1,aw 87 .sub 86 1,ba 88 2 85 87,aO 89 2 88,aa 90 0,aa 91 13,ba 92 2 90 91,aO 93 2 92,((some 94),.call (.tmp 84) [(.tmp 89),(.tmp 93)]),aw 95 .lss 94 0,cw 96 95]⟩,⟨none,[bq 97 83 96]⟩]) <|
  .cond (.tmp 97) (.seq (ah [aa 98 0,aa 99 1,aa 100 2,aa 101 13,aa 102 4,aD 103 205 [98,99,100,101,102],aa 15 103]) <|
  .seq (ah [aa 104 15,aa 1 104]) <|
  .exit 1) (.skip)) <|
  .seq (ah [aa 106 0,aa 107 1,aa 108 2,aa 109 13,aa 110 4,aD 111 206 [106,107,108,109,110],aa 105 111,cr 112 0 105,cr 113 1 105,aa 16 112,aa 17 113]) <|
  .seq (ah [aa 114 17,aa 11 114]) <|
  .seq (ah [aa 115 16,aa 116 1,aQ 117 .sub 115 116,aa 118 2,aa 119 16,aQ 120 .sub 118 119,aa 18 117,aa 19 120]) <|
  .seq (ah [aa 121 12,aw 122 .quo 121 8,aa 20 122]) <|
  .seq (ah [aa 123 18,aa 124 19,aQ 125 .lss 123 124]) <|
  .cond (.tmp 125) (.seq (ah [aa 126 18,aa 127 20,aQ 128 .geq 126 127,aa 10 128]) <|
  .seq (ah [aa 129 0,aa 130 1,aa 131 16,aa 132 3,aa 133 4,aD 134 166 [129,130,131,132,133]]) <|
  ah [aa 135 16,aw 136 .add 135 1,aa 1 136]) (.seq (ah [aa 137 19,aa 138 20,aQ 139 .geq 137 138,aa 10 139]) <|
  .seq (ah [aa 140 0,aa 141 16,aw 142 .add 141 1,aa 143 2,aa 144 3,aa 145 4,aD 146 166 [140,142,143,144,145]]) <|
  ah [aa 147 16,aa 2 147]))
def eu:DF:=⟨.seq (ah [aY 10 true]) <|
  .seq (ah [aY 11 true]) <|
  .block 0 (.loop gW),
  [],148⟩
theorem gB:aF Tryz.prog 166 []=some eu:=by kernel_rfl
def fD:DC :=
  .seq (.seq (.region [] [⟨none,[aa 18 9,aa 19 1,aQ 20 .gtr 18 19,aa 21 20]⟩,⟨(some (21,true)),[aa 22 3,aa 23 0,aa 24 9,ba 25 2 23 24,aO 26 2 25,aa 27 0,aa 28 9,aw 29 .sub 28 1,ba 30 2 27 29,aO 31 2 30,((some 32),.call (.tmp 22) [(.tmp 26),(.tmp 31)]),aw 33 .lss 32 0]⟩,⟨none,[bq 34 21 33]⟩]) <|
  .cond (.tmp 34) (.skip) (.exit 2)) <|
  .seq (.block 3 (ah [aa 37 0,aa 38 9,aa 39 0,aa 40 9,aw 41 .sub 40 1,aa 42 0,aa 43 9,aw 44 .sub 43 1,ba 45 2 42 44,aO 46 2 45,aa 47 0,aa 48 9,ba 49 2 47 48,aO 50 2 49,ba 51 2 37 38,(none,.op (.store 2 (.tmp 51) (.tmp 46))),ba 52 2 39 41,(none,.op (.store 2 (.tmp 52) (.tmp 50)))])) <|
  ah [aa 35 9,aw 36 .sub 35 1,aa 9 36]
def fC:DC :=
  .seq (.seq (ah [aa 12 8,aa 13 2,aQ 14 .lss 12 13]) <|
  .cond (.tmp 14) (.skip) (.exit 0)) <|
  .seq (.block 1 (.seq (ah [aa 17 8,aa 9 17]) <|
  .block 2 (.loop fD))) <|
  ah [aa 15 8,aw 16 .add 15 1,aa 8 16]
def dx:DF:=⟨.seq (ah [aa 10 1,aw 11 .add 10 1,aa 8 11]) <|
  .block 0 (.loop fC),
  [],53⟩
theorem fw:aF Tryz.prog 199 []=some dx:=by kernel_rfl
def sj:DF:=⟨.seq (ah [c5 2 0,c5 3 1,aA 4 0]) <|
  .seq (.region [(4,6),(4,8)] [⟨none,[an 5 0 2,ar 6 5,an 7 0 3,ar 8 7,aD 9 126 [6,8],an 10 1 2,ar 11 10,an 12 1 3,ar 13 12,aD 14 126 [11,13],((some 15),.op (.bz 2 1 [(.val (.int .i64 0))] [(0,(.tmp 9)),(1,(.tmp 14))])),aD 16 168 [15],aa 4 16]⟩]) <|
  .ret,
  [.tmp 4],17⟩
theorem vR:aF Tryz.prog 113 [2,3]=some sj:=by kernel_rfl
def k7:DF:=⟨.seq (ah [aA 4 0]) <|
  .seq (ah [aa 7 0,aD 8 173 [7],aa 5 8]) <|
  .seq (ah [aa 9 1,aD 10 173 [9],aa 6 10]) <|
  .seq (.seq (ah [aa 11 5]) <|
  .cond (.tmp 11) (.seq (.seq (ah [aa 12 6]) <|
  .cond (.tmp 12) (.seq (ah [aA 4 0]) <|
  .ret) (.skip)) <|
  .seq (ah [aA 4 (-1)]) <|
  .ret) (.skip)) <|
  .seq (.seq (ah [aa 13 6]) <|
  .cond (.tmp 13) (.seq (ah [aA 4 1]) <|
  .ret) (.skip)) <|
  .seq (.seq (ah [aa 14 0,aa 15 1,aQ 16 .lss 14 15]) <|
  .cond (.tmp 16) (.seq (ah [aA 4 (-1)]) <|
  .ret) (.skip)) <|
  .seq (.seq (ah [aa 17 0,aa 18 1,aQ 19 .gtr 17 18]) <|
  .cond (.tmp 19) (.seq (ah [aA 4 1]) <|
  .ret) (.skip)) <|
  .seq (ah [aA 4 0]) <|
  .ret,
  [.tmp 4],20⟩
theorem oQ:aF Tryz.prog 126 []=some k7:=by kernel_rfl
def mM:DF:=⟨.seq (ah [aY 2 false]) <|
  .seq (ah [aa 3 0,aa 4 0,aQ 5 .neq 3 4,aa 2 5]) <|
  .ret,
  [.tmp 2],6⟩
theorem qL:aF Tryz.prog 173 []=some mM:=by kernel_rfl
def vq:DC :=
  .seq (ah [aQ 9 .lss 8 7]) <|
  .seq (.cond (.tmp 9) (.skip) (.exit 0)) <|
  .seq (.block 1 (.seq (ah [ba 10 1 6 8,ar 11 10,aa 5 11]) <|
  .seq (ah [aa 12 5,aa 13 3,aQ 14 .neq 12 13]) <|
  .cond (.tmp 14) (.seq (ah [aa 15 5,aa 2 15]) <|
  .ret) (.skip))) <|
  ah [aw 16 .add 8 1,aa 8 16]
def qD:DF:=⟨.seq (ah [aA 2 0]) <|
  .seq (ah [aA 3 0]) <|
  .seq (.seq (ah [aa 6 0,aR 7 6,aA 8 0]) <|
  .block 0 (.loop vq)) <|
  .seq (ah [aa 17 3,aa 2 17]) <|
  .ret,
  [.tmp 2],18⟩
theorem uh:aF Tryz.prog 168 []=some qD:=by kernel_rfl
def fV:DC :=
  .seq (.seq (ah [aa 29 5,aa 30 4,aR 31 30,aQ 32 .lss 29 31]) <|
  .cond (.tmp 32) (.skip) (.exit 2)) <|
  .seq (.block 3 (.seq (ah [aa 35 4,aa 36 5,ba 37 2 35 36,aO 38 2 37,aa 39 4,aa 40 5,aw 41 .sub 40 1,ba 42 2 39 41,aO 43 2 42,((some 44),.op (.old (.binOp .neq 33 (.tmp 38) (.tmp 43) 33) 4))]) <|
  .cond (.tmp 44) (.seq (ah [aa 45 0,aa 46 3,aa 47 4,aa 48 5,ba 49 2 47 48,aO 50 2 49,ba 51 2 45 46,(none,.op (.store 2 (.tmp 51) (.tmp 50)))]) <|
  ah [aa 52 3,aw 53 .add 52 1,aa 3 53]) (.skip))) <|
  ah [aa 33 5,aw 34 .add 33 1,aa 5 34]
def fW:DC :=
  .seq (.seq (ah [aa 10 3,aa 11 0,aR 12 11,aQ 13 .lss 10 12]) <|
  .cond (.tmp 13) (.skip) (.exit 0)) <|
  .seq (.block 1 (.seq (ah [aa 16 0,aa 17 3,ba 18 2 16 17,aO 19 2 18,aa 20 0,aa 21 3,aw 22 .sub 21 1,ba 23 2 20 22,aO 24 2 23,((some 25),.op (.old (.binOp .eql 33 (.tmp 19) (.tmp 24) 33) 4))]) <|
  .cond (.tmp 25) (.seq (ah [aa 26 0,aa 27 3,((some 28),.op (.slice 2 (.tmp 26) (some (.tmp 27)) none)),aa 4 28]) <|
  .seq (.seq (ah [aA 5 1]) <|
  .block 2 (.loop fV)) <|
  .seq (ah [aa 54 0,aa 55 3,((some 56),.op (.slice 2 (.tmp 54) (some (.tmp 55)) none)),(none,.op (.old (.call { callee:=.builtin .clear,args:=#[(.tmp 56)],argTypes:=#[27] }) 0))]) <|
  .seq (ah [aa 57 0,aa 58 3,((some 59),.op (.slice 2 (.tmp 57) none (some (.tmp 58)))),aa 2 59]) <|
  .ret) (.skip))) <|
  ah [aa 14 3,aw 15 .add 14 1,aa 3 15]
def dL:DF:=⟨.seq (ah [((some 2),.op (.bc (.val (.emp 1))))]) <|
  .seq (.seq (ah [aa 6 0,aR 7 6,aw 8 .lss 7 2]) <|
  .cond (.tmp 8) (.seq (ah [aa 9 0,aa 2 9]) <|
  .ret) (.skip)) <|
  .seq (.seq (ah [aA 3 1]) <|
  .block 0 (.loop fW)) <|
  .seq (ah [aa 60 0,aa 2 60]) <|
  .ret,
  [.tmp 2],61⟩
theorem fQ:aF Tryz.prog 114 []=some dL:=by kernel_rfl
def zW:DC :=
  .seq (ah [aQ 9 .lss 8 7]) <|
  .seq (.cond (.tmp 9) (.skip) (.exit 0)) <|
  .seq (.block 1 (.seq (ah [ba 10 2 6 8,aO 11 2 10,((some 5),.op (.alloc [(.val (.int .i64 0)),(.val (.int .i64 0))])),(none,.op (.store 2 (.tmp 5) (.tmp 11)))]) <|
  ah [aa 12 3,an 13 0 5,ar 14 13,aw 15 .add 14 1,((some 16),.op (.conv .u8 (.tmp 15))),an 17 1 5,ar 18 17,((some 19),.op (.conv .u8 (.tmp 18))),((some 20),.op (.bz 2 1 [(.val (.int .u8 0))] [(0,(.tmp 16)),(1,(.tmp 19))])),((some 21),.op (.app 1 1 (.tmp 12) (.tmp 20))),aa 3 21])) <|
  ah [aw 22 .add 8 1,aa 8 22]
def uO:DF:=⟨.seq (.region [] [⟨none,[((some 2),.op (.bc (.val (.val (.string ⟨#[]⟩)))))]⟩]) <|
  .seq (ah [((some 3),.op (.bc (.val (.emp 1))))]) <|
  .seq (.seq (ah [aa 6 0,aR 7 6,aA 8 0]) <|
  .block 0 (.loop zW)) <|
  .seq (ah [aa 23 3,((some 24),.op (.old (.convert 91 9 (.tmp 23)) 9)),aa 2 24]) <|
  .ret,
  [.tmp 2],25⟩
theorem yp:aF Tryz.prog 62 []=some uO:=by kernel_rfl
def tW:DC :=
  .seq (ah [aQ 54 .lss 53 52]) <|
  .seq (.cond (.tmp 54) (.skip) (.exit 2)) <|
  .seq (.block 3 (.seq (ah [aa 55 53,ba 56 3 51 53,aO 57 3 56,((some 11),.op (.alloc [(.val (.int .i64 0)),(.emp 1),(.val (.int .i64 0))])),aa 10 55,(none,.op (.store 3 (.tmp 11) (.tmp 57)))]) <|
  .seq (ah [an 58 0 11,ar 59 58,aa 60 8,((some 61),.op (.arith .sub (.val (.val (.int .i64 (-1)))) (.tmp 60))),aQ 62 .eql 59 61]) <|
  .cond (.tmp 62) (ah [aa 63 5,aa 64 10,((some 65),.op (.build [(.val (.int .i64 0)),(.val (.int .i64 0))] [(0,1,(.tmp 64))])),((some 66),.op (.bz 1 2 [(.val (.int .i64 0)),(.val (.int .i64 0))] [(0,(.tmp 65))])),((some 67),.op (.app 2 16 (.tmp 63) (.tmp 66))),aa 5 67]) (.skip))) <|
  ah [aw 68 .add 53 1,aa 53 68]
def uu:DC :=
  .seq (.seq (ah [aa 18 7,aa 19 5,aR 20 19,aQ 21 .lss 18 20]) <|
  .cond (.tmp 21) (.skip) (.exit 0)) <|
  .seq (.block 1 (.seq (ah [aO 25 4 2,aa 26 5,aa 27 7,ba 28 2 26 27,aO 29 2 28,aD 30 50 [25,29],aa 24 30,cr 31 0 24,cr 32 1 24,aa 8 31,aa 9 32]) <|
  .seq (.seq (.region [] [⟨none,[aa 33 9,cw 34 33,aa 35 34]⟩,⟨(some (35,false)),[aa 36 8,aw 37 .geq 36 0]⟩,⟨none,[bV 38 35 37,aa 39 38]⟩,⟨(some (39,false)),[aa 40 6,aa 41 8,((some 42),.op (.arith .sub (.val (.val (.int .i64 (-1)))) (.tmp 41))),ba 43 1 40 42,ar 44 43]⟩,⟨none,[bV 45 39 44]⟩]) <|
  .cond (.tmp 45) (.exit 1) (.skip)) <|
  .seq (ah [aa 46 6,aa 47 8,((some 48),.op (.arith .sub (.val (.val (.int .i64 (-1)))) (.tmp 47))),ba 49 1 46 48,(none,.op (.store 1 (.tmp 49) (.val (.val (.bool true)))))]) <|
  .seq (ah [an 50 2 2,ar 51 50,aR 52 51,aA 53 0]) <|
  .block 2 (.loop tW))) <|
  ah [aa 22 7,aw 23 .add 22 1,aa 7 23]
def oP:DF:=⟨.seq (ah [c5 2 0,((some 4),.op (.bc (.val (.emp 1))))]) <|
  .seq (ah [aa 12 1,aD 13 58 [12],aa 5 13]) <|
  .seq (ah [an 14 1 2,ar 15 14,aR 16 15,((some 17),.op (.make 1 1 [(.val (.bool false))] (.tmp 16) (.tmp 16))),aa 6 17]) <|
  .seq (.seq (ah [aA 7 0]) <|
  .block 0 (.loop uu)) <|
  .seq (ah [aa 69 5,aD 70 64 [69],aa 4 70]) <|
  .ret,
  [.tmp 4],71⟩
theorem sN:aF Tryz.prog 56 [2]=some oP:=by kernel_rfl
def tg:DF:=⟨.seq (ah [c5 2 0,c5 3 1,aA 4 0,aY 5 false]) <|
  .seq (.seq (ah [aO 7 4 2,an 8 0 3,ar 9 8,aD 10 53 [7,9],aa 6 10]) <|
  .seq (ah [an 11 1 3,ar 12 11,aa 13 6,aR 14 13,aQ 15 .lss 12 14]) <|
  .cond (.tmp 15) (.seq (ah [aa 16 6,an 17 1 3,ar 18 17,ba 19 1 16 18,ar 20 19,aa 4 20,aY 5 true]) <|
  .ret) (.skip)) <|
  .seq (ah [aA 4 0,aY 5 false]) <|
  .ret,
  [.tmp 4,.tmp 5],21⟩
theorem vZ:aF Tryz.prog 50 [2,3]=some tg:=by kernel_rfl
def ri:DF:=⟨.seq (ah [c5 2 0,((some 4),.op (.bc (.val (.emp 1))))]) <|
  .seq (.seq (ah [aa 5 1,aw 6 .eql 5 (-1)]) <|
  .cond (.tmp 6) (.seq (ah [an 7 3 2,ar 8 7,((some 9),.op (.arith .sub (.val (.val (.int .i64 (-1)))) (.tmp 8))),((some 10),.op (.bz 1 1 [(.val (.int .i64 0))] [(0,(.tmp 9))])),aa 4 10]) <|
  .ret) (.skip)) <|
  .seq (ah [an 11 2 2,ar 12 11,aa 13 1,ba 14 3 12 13,an 15 1 14,ar 16 15,aa 4 16]) <|
  .ret,
  [.tmp 4],17⟩
theorem vM:aF Tryz.prog 53 [2]=some ri:=by kernel_rfl
def ed:DF:=⟨.seq (ah [((some 2),.op (.bc (.val (.emp 1))))]) <|
  .seq (.seq (ah [aa 3 0,((some 4),.op (.nil true 0 (.tmp 3) (.val (.emp 1))))]) <|
  .cond (.tmp 4) (.seq (ah [((some 2),.op (.bc (.val (.emp 1))))]) <|
  .ret) (.skip)) <|
  .seq (ah [((some 5),.op (.bc (.val (.emp 2)))),aa 6 0,((some 7),.op (.app 2 16 (.tmp 5) (.tmp 6))),aa 2 7]) <|
  .ret,
  [.tmp 2],8⟩
theorem gj:aF Tryz.prog 58 []=some ed:=by kernel_rfl
def wA:DC :=
  .seq (ah [aQ 15 .lss 14 13]) <|
  .seq (.cond (.tmp 15) (.skip) (.exit 0)) <|
  .seq (.block 1 (.seq (ah [ba 16 2 12 14,aO 17 2 16,((some 7),.op (.alloc [(.val (.int .i64 0)),(.val (.int .i64 0))])),(none,.op (.store 2 (.tmp 7) (.tmp 17)))]) <|
  .seq (ah [aO 19 4 2,aO 20 2 7,aD 21 50 [19,20],aa 18 21,cr 22 0 18,cr 23 1 18,aa 8 22,aa 9 23]) <|
  .seq (ah [aa 24 9]) <|
  .cond (.tmp 24) (.seq (ah [aO 25 4 2,aa 26 8,aD 27 111 [25,26],aa 10 27]) <|
  ah [aa 28 5,aa 29 10,aa 30 5,aa 31 10,((some 32),.op (.old (.lookup 98 (.tmp 30) (.tmp 31) false) 27)),an 33 0 7,ar 34 33,an 35 1 7,ar 36 35,aw 37 .add 36 1,((some 38),.op (.build [(.val (.int .i64 0)),(.val (.int .i64 0))] [(0,1,(.tmp 34)),(1,1,(.tmp 37))])),((some 39),.op (.bz 1 2 [(.val (.int .i64 0)),(.val (.int .i64 0))] [(0,(.tmp 38))])),((some 40),.op (.app 2 16 (.tmp 32) (.tmp 39))),(none,.op (.old (.mapUpdate 98 (.tmp 28) (.tmp 29) (.tmp 40)) 0))]) (.skip))) <|
  ah [aw 41 .add 14 1,aa 14 41]
def rJ:DF:=⟨.seq (ah [c5 2 0,((some 4),.op (.bc (.val (.val (.map none)))))]) <|
  .seq (ah [((some 11),.op (.lW)),aa 5 11]) <|
  .seq (.seq (ah [aa 12 1,aR 13 12,aA 14 0]) <|
  .block 0 (.loop wA)) <|
  .seq (ah [aa 42 5,aa 4 42]) <|
  .ret,
  [.tmp 4],43⟩
theorem vV:aF Tryz.prog 63 [2]=some rJ:=by kernel_rfl
def sT:DF:=⟨.seq (ah [c5 2 0,aA 4 0]) <|
  .seq (.seq (ah [aa 5 1,aw 6 .lss 5 0]) <|
  .cond (.tmp 6) (.seq (ah [an 7 0 2,ar 8 7,aR 9 8,aw 10 .sub 9 1,aa 11 1,aQ 12 .sub 10 11,aa 4 12]) <|
  .ret) (.skip)) <|
  .seq (ah [aa 13 1,aa 4 13]) <|
  .ret,
  [.tmp 4],14⟩
theorem wU:aF Tryz.prog 111 [2]=some sT:=by kernel_rfl
def ow:DF:=⟨.seq (ah [c5 2 0,((some 4),.op (.bc (.val (.emp 1))))]) <|
  .seq (.region [(0,2),(0,4)] [⟨none,[aO 5 4 2,aa 6 1,aD 7 58 [6],((some 8),.op (.mj 59 [] [(.tmp 2)])),aD 9 57 [7,8],aD 10 56 [5,9],aa 4 10]⟩]) <|
  .ret,
  [.tmp 4],11⟩
theorem sO:aF Tryz.prog 22 [2]=some ow:=by kernel_rfl
def mT:DF:=⟨.seq (ah [c5 2 0,aY 3 false]) <|
  .seq (ah [aO 4 4 1,aO 5 2 2,aD 6 19 [4,5],cw 7 6,aa 3 7]) <|
  .ret,
  [.tmp 3],8⟩
theorem qF:aF Tryz.prog 59 [2]=some mT:=by kernel_rfl
def uV:DF:=⟨.seq (ah [c5 2 0,c5 3 1,aY 4 false]) <|
  .seq (.seq (.region [] [⟨none,[aO 5 4 2,aD 6 52 [5],cw 7 6,aa 8 7]⟩,⟨(some (8,false)),[an 9 0 3,ar 10 9,aw 11 .lss 10 (-1)]⟩,⟨none,[bV 12 8 11,aa 13 12]⟩,⟨(some (13,false)),[an 14 0 3,ar 15 14,an 16 2 2,ar 17 16,aR 18 17,aQ 19 .geq 15 18]⟩,⟨none,[bV 20 13 19]⟩]) <|
  .cond (.tmp 20) (.seq (ah [aY 4 false]) <|
  .ret) (.skip)) <|
  .seq (.region [(5,9)] [⟨none,[an 21 1 3,ar 22 21,aw 23 .geq 22 0,aa 24 23]⟩,⟨(some (24,true)),[an 25 1 3,ar 26 25,aO 27 4 2,an 28 0 3,ar 29 28,aD 30 53 [27,29],aR 31 30,aQ 32 .leq 26 31]⟩,⟨none,[bq 33 24 32,aa 4 33]⟩]) <|
  .ret,
  [.tmp 4],34⟩
theorem ym:aF Tryz.prog 19 [2,3]=some uV:=by kernel_rfl
def fo:DC :=
  .seq (.seq (ah [aa 16 6,aa 17 0,aR 18 17,aQ 19 .lss 16 18]) <|
  .cond (.tmp 19) (.skip) (.exit 0)) <|
  .seq (.block 1 (.seq (ah [aa 22 0,aa 23 6,ba 24 2 22 23,aO 25 2 24,((some 7),.op (.alloc [(.val (.int .i64 0)),(.val (.int .i64 0))])),(none,.op (.store 2 (.tmp 7) (.tmp 25)))]) <|
  .seq (ah [aa 26 1,aO 27 2 7,((some 28),.call (.tmp 26) [(.tmp 27)]),cw 29 28]) <|
  .cond (.tmp 29) (.seq (ah [aa 30 0,aa 31 5,aO 32 2 7,ba 33 2 30 31,(none,.op (.store 2 (.tmp 33) (.tmp 32)))]) <|
  ah [aa 34 5,aw 35 .add 34 1,aa 5 35]) (.skip))) <|
  ah [aa 20 6,aw 21 .add 20 1,aa 6 21]
def dh:DF:=⟨.seq (ah [((some 4),.op (.bc (.val (.emp 1))))]) <|
  .seq (ah [aa 8 0,aa 9 1,aD 10 107 [8,9],aa 5 10]) <|
  .seq (.seq (ah [aa 11 5,aw 12 .eql 11 (-1)]) <|
  .cond (.tmp 12) (.seq (ah [aa 13 0,aa 4 13]) <|
  .ret) (.skip)) <|
  .seq (.seq (ah [aa 14 5,aw 15 .add 14 1,aa 6 15]) <|
  .block 0 (.loop fo)) <|
  .seq (ah [aa 36 0,aa 37 5,((some 38),.op (.slice 2 (.tmp 36) (some (.tmp 37)) none)),(none,.op (.old (.call { callee:=.builtin .clear,args:=#[(.tmp 38)],argTypes:=#[27] }) 0))]) <|
  .seq (ah [aa 39 0,aa 40 5,((some 41),.op (.slice 2 (.tmp 39) none (some (.tmp 40)))),aa 4 41]) <|
  .ret,
  [.tmp 4],42⟩
theorem fe:aF Tryz.prog 57 []=some dh:=by kernel_rfl
def fE:DC :=
  .seq (ah [aQ 9 .lss 8 7]) <|
  .seq (.cond (.tmp 9) (.skip) (.exit 0)) <|
  .seq (.block 1 (.seq (ah [aa 10 8,aa 5 10]) <|
  .seq (ah [aa 11 1,aa 12 0,aa 13 5,ba 14 2 12 13,aO 15 2 14,((some 16),.call (.tmp 11) [(.tmp 15)])]) <|
  .cond (.tmp 16) (.seq (ah [aa 17 5,aa 4 17]) <|
  .ret) (.skip))) <|
  ah [aw 18 .add 8 1,aa 8 18]
def dt:DF:=⟨.seq (ah [aA 4 0]) <|
  .seq (.seq (ah [aa 6 0,aR 7 6,aA 8 0]) <|
  .block 0 (.loop fE)) <|
  .seq (ah [aA 4 (-1)]) <|
  .ret,
  [.tmp 4],19⟩
theorem fm:aF Tryz.prog 107 []=some dt:=by kernel_rfl
def yx:DC :=
  .seq (ah [aQ 24 .lss 23 22]) <|
  .seq (.cond (.tmp 24) (.skip) (.exit 0)) <|
  .seq (.block 1 (.seq (ah [ba 25 1 21 23,ar 26 25,((some 10),.op (.alloc [(.val (.int .i64 0))])),(none,.op (.store 1 (.tmp 10) (.tmp 26)))]) <|
  .seq (ah [aa 27 0,aa 28 8,ba 29 2 27 28,an 30 1 29,ar 31 30,((some 32),.op (.mj 69 [] [(.tmp 10)])),aD 33 68 [31,32],aa 11 33]) <|
  .seq (.seq (ah [aa 34 11,aw 35 .lss 34 0]) <|
  .cond (.tmp 35) (.seq (ah [aA 6 0,aY 7 false]) <|
  .ret) (.skip)) <|
  .seq (ah [aa 36 0,aa 37 8,ba 38 2 36 37,an 39 1 38,ar 40 39,aa 41 11,ba 42 2 40 41,an 43 1 42,ar 44 43,aa 8 44]) <|
  .seq (.region [] [⟨none,[aa 45 8,aw 46 .lss 45 0,aa 47 46]⟩,⟨(some (47,false)),[aa 48 8,aa 49 0,aR 50 49,aQ 51 .geq 48 50]⟩,⟨none,[bV 52 47 51]⟩]) <|
  .cond (.tmp 52) (.seq (ah [aA 6 0,aY 7 false]) <|
  .ret) (.skip))) <|
  ah [aw 53 .add 23 1,aa 23 53]
def td:DF:=⟨.seq (ah [aA 6 0,aY 7 false]) <|
  .seq (ah [aa 12 1,aa 8 12]) <|
  .seq (.seq (.region [] [⟨none,[aa 13 8,aw 14 .lss 13 0,aa 15 14]⟩,⟨(some (15,false)),[aa 16 8,aa 17 0,aR 18 17,aQ 19 .geq 16 18]⟩,⟨none,[bV 20 15 19]⟩]) <|
  .cond (.tmp 20) (.seq (ah [aA 6 0,aY 7 false]) <|
  .ret) (.skip)) <|
  .seq (.seq (ah [aa 21 2,aR 22 21,aA 23 0]) <|
  .block 0 (.loop yx)) <|
  .seq (ah [aa 54 8,aa 6 54,aY 7 true]) <|
  .ret,
  [.tmp 6,.tmp 7],55⟩
theorem wM:aF Tryz.prog 28 []=some td:=by kernel_rfl
def qq:DF:=⟨.seq (ah [c5 2 0,aY 3 false]) <|
  .seq (ah [an 4 0 2,ar 5 4,ar 6 1,aQ 7 .eql 5 6,aa 3 7]) <|
  .ret,
  [.tmp 3],8⟩
theorem tJ:aF Tryz.prog 69 [2]=some qq:=by kernel_rfl
def fy:DC :=
  .seq (ah [aQ 9 .lss 8 7]) <|
  .seq (.cond (.tmp 9) (.skip) (.exit 0)) <|
  .seq (.block 1 (.seq (ah [aa 10 8,aa 5 10]) <|
  .seq (ah [aa 11 1,aa 12 0,aa 13 5,ba 14 2 12 13,aO 15 2 14,((some 16),.call (.tmp 11) [(.tmp 15)])]) <|
  .cond (.tmp 16) (.seq (ah [aa 17 5,aa 4 17]) <|
  .ret) (.skip))) <|
  ah [aw 18 .add 8 1,aa 8 18]
def dw:DF:=⟨.seq (ah [aA 4 0]) <|
  .seq (.seq (ah [aa 6 0,aR 7 6,aA 8 0]) <|
  .block 0 (.loop fy)) <|
  .seq (ah [aA 4 (-1)]) <|
  .ret,
  [.tmp 4],19⟩
theorem fp:aF Tryz.prog 68 []=some dw:=by kernel_rfl
def sW:DF:=⟨.seq (ah [c5 2 0,c5 3 1,aA 4 0,aY 5 false]) <|
  .seq (.seq (ah [aO 6 4 2,aO 7 2 3,aD 8 19 [6,7],cw 9 8]) <|
  .cond (.tmp 9) (.seq (ah [aA 4 0,aY 5 false]) <|
  .ret) (.skip)) <|
  .seq (ah [aO 10 4 2,aO 11 2 3,aD 12 50 [10,11],cr 13 0 12,cr 14 1 12,aa 4 13,aa 5 14]) <|
  .ret,
  [.tmp 4,.tmp 5],15⟩
theorem wN:aF Tryz.prog 17 [2,3]=some sW:=by kernel_rfl
def Cv:List (FuncId × DF):=[(15,jY),(24,rp),(64,tl),(112,dD),(167,m8),(207,lK),(208,lL),(166,eu),(199,dx),(113,sj),(126,k7),(173,mM),(168,qD),(114,dL),(62,uO),(56,oP),(50,tg),(53,ri),(58,ed),(63,rJ),(111,sT),(22,ow),(59,mT),(19,uV),(57,dh),(107,dt),(28,td),(69,qq),(68,dw),(17,sW)]
theorem C7:pg Tryz.prog Cv:=by
  intro p hp
  simp only[Cv,List.mem_cons,List.not_mem_nil,or_false] at hp
  rcases hp with rfl | rfl | rfl | rfl | rfl | rfl | rfl | rfl | rfl | rfl | rfl | rfl | rfl | rfl | rfl | rfl | rfl | rfl | rfl | rfl | rfl | rfl | rfl | rfl | rfl | rfl | rfl | rfl | rfl | rfl
  · exact ⟨_,oc⟩
  · exact ⟨_,vn⟩
  · exact ⟨_,wK⟩
  · exact ⟨_,fA⟩
  · exact ⟨_,rX⟩
  · exact ⟨_,pS⟩
  · exact ⟨_,qf⟩
  · exact ⟨_,gB⟩
  · exact ⟨_,fw⟩
  · exact ⟨_,vR⟩
  · exact ⟨_,oQ⟩
  · exact ⟨_,qL⟩
  · exact ⟨_,uh⟩
  · exact ⟨_,fQ⟩
  · exact ⟨_,yp⟩
  · exact ⟨_,sN⟩
  · exact ⟨_,vZ⟩
  · exact ⟨_,vM⟩
  · exact ⟨_,gj⟩
  · exact ⟨_,vV⟩
  · exact ⟨_,wU⟩
  · exact ⟨_,sO⟩
  · exact ⟨_,qF⟩
  · exact ⟨_,ym⟩
  · exact ⟨_,fe⟩
  · exact ⟨_,fm⟩
  · exact ⟨_,wM⟩
  · exact ⟨_,tJ⟩
  · exact ⟨_,fp⟩
  · exact ⟨_,wN⟩
def Hp:List wo:=[(49,[y5 Ho],sJ ky,false),(61,[.agg (aX ky)],gb true,false),(61,[.agg (aX np)],gb false,false),(52,[.agg (aX ky)],gb true,false)]
theorem F5:∀ x∈Hp,x.Ok Tryz.prog:=by
  intro x hx
  simp only[Hp,List.mem_cons,List.not_mem_nil,or_false] at hx
  rcases hx with rfl | rfl | rfl | rfl
  · exact ⟨by kernel_rfl,by simp only[Bool.false_eq_true,if_false]; exact .inl Ji⟩
  · exact ⟨by kernel_rfl,by simp only[Bool.false_eq_true,if_false]; exact .inr ⟨(show isRed ky=true by kernel_rfl) ▸ DR ky nt.1 nt.2,.val _⟩⟩
  · exact ⟨by kernel_rfl,by simp only[Bool.false_eq_true,if_false]; exact .inr ⟨(show isRed np=false by kernel_rfl) ▸ DR np Iv ⟨by decide⟩,.val _⟩⟩
  · exact ⟨by kernel_rfl,by simp only[Bool.false_eq_true,if_false]; exact .inr ⟨(show bu ky=true by kernel_rfl) ▸ mY ky nt.1 nt.2.names,.val _⟩⟩
theorem CR:aC Tryz.prog 15 [] (gb true) :=
  (qb mixed C7 (F2 F5) (by simp) (by kernel_rfl)).pure
def dg:SC :=
  .seq (aq [aQ 9 .lss 8 7]) <|
  .seq (.cond (.tmp 9) (.skip) (.exit 0)) <|
  .seq (.block 1 (.seq (aq [aa 10 8,aa 5 10]) <|
  .seq (aq [aa 11 1,aa 12 0,aa 13 5,ba 14 2 12 13,aO 15 2 14,((some 16),.call (.tmp 11) [(.tmp 15)])]) <|
  .cond (.tmp 16) (.seq (aq [aa 17 5,aa 4 17]) <|
  .ret) (.skip))) <|
  aq [aw 18 .add 8 1,aa 8 18]
def dy:SF:=⟨.seq (aq [aA 4 0]) <|
  .seq (.seq (aq [aa 6 0,aR 7 6,aA 8 0]) <|
  .block 0 (.loop dg)) <|
  .seq (aq [aA 4 (-1)]) <|
  .ret,
  [.tmp 4],19⟩
theorem fu:bD Tryz.prog 68 []=some dy:=by kernel_rfl
def qu:SF:=⟨.seq (aq [c5 2 0,aY 3 false]) <|
  .seq (aq [an 4 0 2,ar 5 4,ar 6 1,aQ 7 .eql 5 6,aa 3 7]) <|
  .ret,
  [.tmp 3],8⟩
theorem tL:bD Tryz.prog 69 [2]=some qu:=by kernel_rfl
def qy:SC :=
  .seq (aq [aQ 24 .lss 23 22]) <|
  .seq (.cond (.tmp 24) (.skip) (.exit 0)) <|
  .seq (.block 1 (.seq (aq [ba 25 1 21 23,ar 26 25,((some 10),.op (.alloc [(.val (.int .i64 0))])),(none,.op (.store 1 (.tmp 10) (.tmp 26)))]) <|
  .seq (aq [aa 27 0,aa 28 8,ba 29 2 27 28,an 30 1 29,ar 31 30,((some 32),.op (.mj 69 [] [(.tmp 10)])),aD 33 68 [31,32],aa 11 33]) <|
  .seq (.seq (aq [aa 34 11,aw 35 .lss 34 0]) <|
  .cond (.tmp 35) (.seq (aq [aA 6 0,aY 7 false]) <|
  .ret) (.skip)) <|
  .seq (aq [aa 36 0,aa 37 8,ba 38 2 36 37,an 39 1 38,ar 40 39,aa 41 11,ba 42 2 40 41,an 43 1 42,ar 44 43,aa 8 44]) <|
  .seq (.region false [⟨none,[aa 45 8,aw 46 .lss 45 0,aa 47 46]⟩,⟨(some (47,false)),[aa 48 8,aa 49 0,aR 50 49,aQ 51 .geq 48 50]⟩,⟨none,[bV 52 47 51]⟩]) <|
  .cond (.tmp 52) (.seq (aq [aA 6 0,aY 7 false]) <|
  .ret) (.skip))) <|
  aq [aw 53 .add 23 1,aa 23 53]
def s6:SF:=⟨.seq (aq [aA 6 0,aY 7 false]) <|
  .seq (aq [aa 12 1,aa 8 12]) <|
  .seq (.seq (.region false [⟨none,[aa 13 8,aw 14 .lss 13 0,aa 15 14]⟩,⟨(some (15,false)),[aa 16 8,aa 17 0,aR 18 17,aQ 19 .geq 16 18]⟩,⟨none,[bV 20 15 19]⟩]) <|
  .cond (.tmp 20) (.seq (aq [aA 6 0,aY 7 false]) <|
  .ret) (.skip)) <|
  .seq (.seq (aq [aa 21 2,aR 22 21,aA 23 0]) <|
  .block 0 (.loop qy)) <|
  .seq (aq [aa 54 8,aa 6 54,aY 7 true]) <|
  .ret,
  [.tmp 6,.tmp 7],55⟩
theorem wc:bD Tryz.prog 28 []=some s6:=by kernel_rfl
def iW:SC :=
  .seq (.seq (aq [aa 7 3,aa 8 0,aR 9 8,aQ 10 .lss 7 9]) <|
  .cond (.tmp 10) (.skip) (.exit 0)) <|
  .seq (.block 1 (.seq (.region false [⟨none,[aa 13 0,aa 14 3,ba 15 2 13 14,an 16 0 15,ar 17 16,aR 18 17,aw 19 .gtr 18 300,aa 20 19]⟩,⟨(some (20,false)),[aa 21 0,aa 22 3,ba 23 2 21 22,an 24 1 23,ar 25 24,aR 26 25,aw 27 .gtr 26 100]⟩,⟨none,[bV 28 20 27]⟩]) <|
  .cond (.tmp 28) (.seq (aq [aY 2 true]) <|
  .ret) (.skip))) <|
  aq [aa 11 3,aw 12 .add 11 1,aa 3 12]
def jU:SF:=⟨.seq (aq [aY 2 false]) <|
  .seq (.seq (aq [aa 4 0,aR 5 4,aw 6 .gtr 5 310]) <|
  .cond (.tmp 6) (.seq (aq [aY 2 true]) <|
  .ret) (.skip)) <|
  .seq (.seq (aq [aA 3 0]) <|
  .block 0 (.loop iW)) <|
  .seq (aq [aY 2 false]) <|
  .ret,
  [.tmp 2],29⟩
theorem nQ:bD Tryz.prog 27 []=some jU:=by kernel_rfl
def hX:SF:=⟨.seq (aq [aY 6 false]) <|
  .seq (.seq (aq [aD 11 15 [],cw 12 11]) <|
  .cond (.tmp 12) (.seq (aq [aY 6 false]) <|
  .ret) (.skip)) <|
  .seq (.seq (.region false [⟨none,[aa 13 0,aD 14 27 [13],aa 15 14]⟩,⟨(some (15,false)),[aa 16 2,aR 17 16,aw 18 .gtr 17 100]⟩,⟨none,[bV 19 15 18]⟩]) <|
  .cond (.tmp 19) (.seq (aq [aY 6 true]) <|
  .ret) (.skip)) <|
  .seq (aq [aa 21 0,aa 22 1,aa 23 2,aD 24 28 [21,22,23],aa 20 24,cr 25 0 20,cr 26 1 20,aa 7 25,aa 8 26]) <|
  .seq (aq [aa 28 0,aa 29 1,aa 30 2,aD 31 29 [28,29,30],aa 27 31,cr 32 0 27,cr 33 1 27,aa 9 32,aa 10 33]) <|
  .seq (.region false [⟨none,[aa 34 7,aa 35 9,aQ 36 .eql 34 35,aa 37 36]⟩,⟨(some (37,true)),[aa 38 8,aa 39 10,((some 40),.op (.beq true (.tmp 38) (.tmp 39)))]⟩,⟨none,[bq 41 37 40,aa 6 41]⟩]) <|
  .ret,
  [.tmp 6],42⟩
theorem lu:bD Tryz.prog 5 []=some hX:=by kernel_rfl
set_option maxHeartbeats 2000000 in
theorem Cy (l:List jg) (hl:aJ l) (f:FuncId) (cap:List V) (p:jg→Bool) (H:View) (hf:∀ x∈l,aH Tryz.prog f (.agg (iF x) :: cap) H fun r H'=>r=gb (p x)∧H'=H) :
    aH Tryz.prog 68 [.aI (rG l),.fn f [] cap] H fun r H'=>r=gi (cp p l 0)∧H'=H:=by
  refine aH.of mixed fu ?_
  unfold aJ at hl
  simp (disch:=omega) only [↓wr,↓reduceIte,wq,ai,ag,ak,ab,ae,af,aj,isNil,Nat.reduceEqDiff,Nat.reduceAdd,Nat.reduceLT,Nat.reduceLeDiff,Int.reduceNeg,Int.reduceToNat,reduceCtorEq,dy,rG]
  refine cD.up l.length (fun i T H'=>H=H'∧cp p (l.drop i) i=cp p l 0∧T 0=.aI (l.map iF)∧T 1=.fn f [] cap∧T 7=gi l.length∧T 8=gi i) ⟨rfl,rfl,rfl,rfl,rfl,rfl⟩ ?_
  rintro i k T _ hk ⟨rfl,hi,h0,h1,h7,h8⟩
  simp (disch:=omega) only [↓wr,↓reduceIte,wq,ai,ag,ak,ab,ae,af,aj,isNil,Nat.reduceEqDiff,Nat.reduceAdd,Nat.reduceLT,Nat.reduceLeDiff,Int.reduceNeg,Int.reduceToNat,reduceCtorEq,dg,h0,h1,h7,h8]
  refine ax.dec (fun hc=>?_) (fun hc=>?_)
  · have hg:l[i]?=some (l[i]'(by omega)):=List.getElem?_eq_getElem (by omega)
    have hm:l[i]'(by omega)∈l:=List.getElem_mem _
    rw[kb (show i < l.length by omega)] at hi
    generalize l[i]'(by omega)=x at hg hm hi
    simp (disch:=omega) only [↓wr,↓reduceIte,wq,ai,ag,ak,ab,ae,af,aj,isNil,Nat.reduceEqDiff,Nat.reduceAdd,Nat.reduceLT,Nat.reduceLeDiff,Int.reduceNeg,Int.reduceToNat,reduceCtorEq,h0,h1,h7,h8,List.getElem?_map,hg,Option.map_some,iF]
    have hcall:=hf x hm
    simp only[iF] at hcall
    refine aN.wi (hcall.mono ?_)
    rintro r H2 ⟨rfl,rfl⟩
    simp only[cp] at hi
    simp (disch:=omega) only [↓wr,↓reduceIte,wq,ai,ag,ak,ab,ae,af,aj,isNil,Nat.reduceEqDiff,Nat.reduceAdd,Nat.reduceLT,Nat.reduceLeDiff,Int.reduceNeg,Int.reduceToNat,reduceCtorEq]
    refine ax.split (fun hp=>?_) (fun hp=>?_)
    · simp (disch:=omega) only [↓wr,↓reduceIte,wq,ai,ag,ak,ab,ae,af,aj,isNil,Nat.reduceEqDiff,Nat.reduceAdd,Nat.reduceLT,Nat.reduceLeDiff,Int.reduceNeg,Int.reduceToNat,reduceCtorEq,h0,h1,h7,h8]
      rw[← hi,if_pos hp]
    · simp (disch:=omega) only [↓wr,↓reduceIte,wq,ai,ag,ak,ab,ae,af,aj,isNil,Nat.reduceEqDiff,Nat.reduceAdd,Nat.reduceLT,Nat.reduceLeDiff,Int.reduceNeg,Int.reduceToNat,reduceCtorEq,h0,h1,h7,h8]
      refine bI hk (by omega) ⟨rfl,?_,h0,h1,h7,rfl⟩
      rw[if_neg (by simp[hp])] at hi
      push_cast; exact hi
  · rw[List.drop_eq_nil_of_le (by omega)] at hi
    simp (disch:=omega) only [↓wr,↓reduceIte,wq,ai,ag,ak,ab,ae,af,aj,isNil,Nat.reduceEqDiff,Nat.reduceAdd,Nat.reduceLT,Nat.reduceLeDiff,Int.reduceNeg,Int.reduceToNat,reduceCtorEq,h0,h1,h7,h8]
    rw[← hi]; rfl
theorem GC (x:jg) (s:Int) (q:Nat) (H:View) (hq:H q=.arr 1 [[gi s]]):aH Tryz.prog 69 [.agg (iF x),.ptr q 0 0] H fun r H'=>r=gb (decide (x.sym=s))∧H'=H:=by
  refine aH.of mixed tL ?_
  simp (disch:=omega) only [↓wr,↓reduceIte,wq,ai,ag,ak,ab,ae,af,aj,isNil,Nat.reduceEqDiff,Nat.reduceAdd,Nat.reduceLT,Nat.reduceLeDiff,Int.reduceNeg,Int.reduceToNat,reduceCtorEq,qu,iF,hq]
  congr 2
theorem z7 (s:Int):∀ (l:List jg) (i:Int),0≤i→(cp (fun e=>decide (e.sym=s)) l i < 0→eW l s = -1)∧(0≤cp (fun e=>decide (e.sym=s)) l i→∃ (k:Nat) (e:jg),cp (fun e=>decide (e.sym=s)) l i=i+k∧l[k]?=some e∧eW l s=e.to)
  | [],i,_=>⟨fun _=>rfl,fun h=>by simp[cp] at h⟩
  | x :: l,i,h0=>by
    simp only[cp,eW,decide_eq_true_eq]
    by_cases h:x.sym=s
    · rw[if_pos h,if_pos h]
      exact ⟨fun h=>by omega,fun _=>⟨0,x,by simp,rfl,rfl⟩⟩
    · rw[if_neg h,if_neg h]
      obtain ⟨h1,h2⟩:=z7 s l (i+1) (by omega)
      refine ⟨h1,fun h=>?_⟩
      obtain ⟨k,e,k1,k2,k3⟩:=h2 h
      exact ⟨k+1,e,by rw[k1]; push_cast; omega,by simpa using k2,k3⟩
theorem DL {l:List jg} (h:∀ e∈l,bw e.to) (s:Int):bw (eW l s):=by
  induction l with
  | nil=>unfold bw; simp[eW]
  | cons e l ih =>
    rw[eW]; split
    · exact h e (by simp)
    · exact ih fun x hx=>h x (by simp[hx])
set_option maxHeartbeats 8000000 in
theorem Gp (a:List dM) (_:aJ a) (he:∀ s∈a,aJ s.c6∧∀ e∈s.c6,bw e.sym∧bw e.to) (fr:Int) (syms:List Int) (hs:aJ syms):aC Tryz.prog 28 [bY a,gi fr,encI syms] (.aV [gi (na a fr syms).1,gb (na a fr syms).2]):=by
  unfold aJ at hs
  refine aC.tree (by
    intro v hv; simp at hv
    rcases hv with rfl | rfl | rfl
    · exact kA _
    · exact .val _
    · exact fF _) (xT (.val _) (.val _)) fun H=>?_
  refine aH.of mixed wc ?_
  unfold na
  simp (disch:=omega) only [↓wr,↓reduceIte,wq,ai,ag,ak,ab,ae,af,aj,isNil,Nat.reduceEqDiff,Nat.reduceAdd,Nat.reduceLT,Nat.reduceLeDiff,Int.reduceNeg,Int.reduceToNat,reduceCtorEq,s6,bY,encI]
  refine ax.dec (fun h1=>?_) (fun h1=>?_)
  · simp (disch:=omega) only [↓wr,↓reduceIte,wq,ai,ag,ak,ab,ae,af,aj,isNil,Nat.reduceEqDiff,Nat.reduceAdd,Nat.reduceLT,Nat.reduceLeDiff,Int.reduceNeg,Int.reduceToNat,reduceCtorEq]
    rw[if_pos (by omega)]
  simp (disch:=omega) only [↓wr,↓reduceIte,wq,ai,ag,ak,ab,ae,af,aj,isNil,Nat.reduceEqDiff,Nat.reduceAdd,Nat.reduceLT,Nat.reduceLeDiff,Int.reduceNeg,Int.reduceToNat,reduceCtorEq,bY]
  refine ax.dec (fun h2=>?_) (fun h2=>?_)
  · simp (disch:=omega) only [↓wr,↓reduceIte,wq,ai,ag,ak,ab,ae,af,aj,isNil,Nat.reduceEqDiff,Nat.reduceAdd,Nat.reduceLT,Nat.reduceLeDiff,Int.reduceNeg,Int.reduceToNat,reduceCtorEq]
    rw[if_pos (by omega)]
  rw[if_neg (by omega)]
  simp (disch:=omega) only [↓wr,↓reduceIte,wq,ai,ag,ak,ab,ae,af,aj,isNil,Nat.reduceEqDiff,Nat.reduceAdd,Nat.reduceLT,Nat.reduceLeDiff,Int.reduceNeg,Int.reduceToNat,reduceCtorEq]
  refine cD.up syms.length (fun i T H'=>∃ at_:Int,0≤at_∧at_ < a.length∧iv a at_ (syms.drop i)=iv a fr syms∧T 0=bY a∧T 8=gi at_∧T 21=encI syms∧T 22=gi syms.length∧T 23=gi i) ⟨fr,by omega,by omega,rfl,rfl,rfl,rfl,rfl,rfl⟩ ?_
  rintro i k T H' hk ⟨at_,q1,q2,hw,t0,t8,t21,t22,t23⟩
  simp (disch:=omega) only [↓wr,↓reduceIte,wq,ai,ag,ak,ab,ae,af,aj,isNil,Nat.reduceEqDiff,Nat.reduceAdd,Nat.reduceLT,Nat.reduceLeDiff,Int.reduceNeg,Int.reduceToNat,reduceCtorEq,qy,t0,t8,t21,t22,t23,encI]
  refine ax.dec (fun hc=>?_) (fun hc=>?_)
  · have hx:syms[i]?=some (syms[i]'(by omega)):=List.getElem?_eq_getElem (by omega)
    rw[List.drop_eq_getElem_cons (show i < syms.length by omega)] at hw
    generalize syms[i]'(by omega)=x at hx hw
    have hS:a[at_.toNat]?=some (a.getD at_.toNat uq):=getD_some (by omega)
    obtain ⟨hE1,hE2⟩:=he _ (List.mem_of_getElem? hS)
    rw[iv] at hw
    have hb:=DL (fun e h=>(hE2 e h).2) x
    generalize a.getD at_.toNat uq=S at hS hE1 hE2 hw hb
    simp (disch:=omega) only [↓wr,↓reduceIte,wq,ai,ag,ak,ab,ae,af,aj,isNil,Nat.reduceEqDiff,Nat.reduceAdd,Nat.reduceLT,Nat.reduceLeDiff,Int.reduceNeg,Int.reduceToNat,reduceCtorEq,t0,t8,t21,t22,t23,encI,List.getElem?_map,hx,Option.map_some]
    intro q hq
    rw[set_set]
    have hqq:(H'.set q (.arr 1 [[gi x]])) q=.arr 1 [[gi x]]:=by simp[View.set]
    generalize H'.set q (.arr 1 [[gi x]])=H4 at hqq
    simp (disch:=omega) only [↓wr,↓reduceIte,wq,ai,ag,ak,ab,ae,af,aj,isNil,Nat.reduceEqDiff,Nat.reduceAdd,Nat.reduceLT,Nat.reduceLeDiff,Int.reduceNeg,Int.reduceToNat,reduceCtorEq,t0,t8,bY,List.getElem?_map,hS,Option.map_some,iH]
    refine aN.wi ((Cy S.c6 hE1 69 [.ptr q 0 0] (fun e=>decide (e.sym=x)) H4 (fun e _=>GC e x q H4 hqq)).mono ?_)
    rintro r H5 ⟨rfl,rfl⟩
    obtain ⟨i1,i2⟩:=z7 x S.c6 0 (by omega)
    unfold aJ at hE1
    simp (disch:=omega) only [↓wr,↓reduceIte,wq,ai,ag,ak,ab,ae,af,aj,isNil,Nat.reduceEqDiff,Nat.reduceAdd,Nat.reduceLT,Nat.reduceLeDiff,Int.reduceNeg,Int.reduceToNat,reduceCtorEq]
    refine ax.dec (fun h3=>?_) (fun h3=>?_)
    · simp (disch:=omega) only [↓wr,↓reduceIte,wq,ai,ag,ak,ab,ae,af,aj,isNil,Nat.reduceEqDiff,Nat.reduceAdd,Nat.reduceLT,Nat.reduceLeDiff,Int.reduceNeg,Int.reduceToNat,reduceCtorEq]
      rw[← hw,i1 h3,if_neg (by omega)]
    · obtain ⟨j,e,j1,j2,j3⟩:=i2 (by omega)
      have jl:=(List.getElem?_eq_some_iff.1 j2).1
      rw[j1]
      have hj:((0:Int)+(j:Int))=(j:Int):=by omega
      rw[hj]
      rw[j3] at hw hb
      unfold bw at hb
      simp (disch:=omega) only [↓wr,↓reduceIte,wq,ai,ag,ak,ab,ae,af,aj,isNil,Nat.reduceEqDiff,Nat.reduceAdd,Nat.reduceLT,Nat.reduceLeDiff,Int.reduceNeg,Int.reduceToNat,reduceCtorEq,t0,t8,bY,List.getElem?_map,hS,Option.map_some,iH,rG,j2,iF]
      refine ax.dec (fun h4=>?_) (fun h4=>?_)
      · simp (disch:=omega) only [↓wr,↓reduceIte,wq,ai,ag,ak,ab,ae,af,aj,isNil,Nat.reduceEqDiff,Nat.reduceAdd,Nat.reduceLT,Nat.reduceLeDiff,Int.reduceNeg,Int.reduceToNat,reduceCtorEq]
        rw[← hw,if_neg (by omega)]
      · simp (disch:=omega) only [↓wr,↓reduceIte,wq,ai,ag,ak,ab,ae,af,aj,isNil,Nat.reduceEqDiff,Nat.reduceAdd,Nat.reduceLT,Nat.reduceLeDiff,Int.reduceNeg,Int.reduceToNat,reduceCtorEq,t0,bY]
        refine ax.dec (fun h5=>?_) (fun h5=>?_)
        · simp (disch:=omega) only [↓wr,↓reduceIte,wq,ai,ag,ak,ab,ae,af,aj,isNil,Nat.reduceEqDiff,Nat.reduceAdd,Nat.reduceLT,Nat.reduceLeDiff,Int.reduceNeg,Int.reduceToNat,reduceCtorEq]
          rw[← hw,if_neg (by omega)]
        · simp (disch:=omega) only [↓wr,↓reduceIte,wq,ai,ag,ak,ab,ae,af,aj,isNil,Nat.reduceEqDiff,Nat.reduceAdd,Nat.reduceLT,Nat.reduceLeDiff,Int.reduceNeg,Int.reduceToNat,reduceCtorEq,t0,t21,t22,t23]
          rw[if_pos ⟨by omega,by omega⟩] at hw
          exact bI hk (by omega) ⟨e.to,by omega,by omega,hw,t0,rfl,t21,t22,rfl⟩
  · simp (disch:=omega) only [↓wr,↓reduceIte,wq,ai,ag,ak,ab,ae,af,aj,isNil,Nat.reduceEqDiff,Nat.reduceAdd,Nat.reduceLT,Nat.reduceLeDiff,Int.reduceNeg,Int.reduceToNat,reduceCtorEq,t8]
    rw[List.drop_eq_nil_of_le (by omega),iv] at hw
    rw[← hw]
theorem Dt (a:List dM) (ha:aJ a) (hs:∀ s∈a,aJ s.fH∧aJ s.c6):∃ b:Bool,aC Tryz.prog 27 [bY a] (gb b)∧(b=false→a.length≤310∧∀ s∈a,s.fH.length≤300∧s.c6.length≤100)∧(b=true→¬ (a.length≤310∧∀ s∈a,s.fH.length≤300∧s.c6.length≤100)):=by
  refine ⟨!decide (a.length≤310∧∀ s∈a,s.fH.length≤300∧s.c6.length≤100),?_,fun h=>by simpa only [Bool.not_eq_false',decide_eq_true_eq] using h,fun h=>by simpa only [Bool.not_eq_true',decide_eq_false_iff_not] using h⟩
  unfold aJ at ha
  refine aC.val (by intro v hv; simp at hv; subst hv; exact kA _) fun H=>?_
  refine aH.of mixed nQ ?_
  simp (disch:=omega) only [↓wr,↓reduceIte,wq,ai,ag,ak,ab,ae,af,aj,isNil,Nat.reduceEqDiff,Nat.reduceAdd,Nat.reduceLT,Nat.reduceLeDiff,Int.reduceNeg,Int.reduceToNat,reduceCtorEq,jU,bY]
  refine ax.dec (fun h1=>?_) (fun h1=>?_)
  · simp (disch:=omega) only [↓wr,↓reduceIte,wq,ai,ag,ak,ab,ae,af,aj,isNil,Nat.reduceEqDiff,Nat.reduceAdd,Nat.reduceLT,Nat.reduceLeDiff,Int.reduceNeg,Int.reduceToNat,reduceCtorEq]
    rw[decide_eq_false (fun h=>by have:=h.1; omega)]; rfl
  simp (disch:=omega) only [↓wr,↓reduceIte,wq,ai,ag,ak,ab,ae,af,aj,isNil,Nat.reduceEqDiff,Nat.reduceAdd,Nat.reduceLT,Nat.reduceLeDiff,Int.reduceNeg,Int.reduceToNat,reduceCtorEq]
  refine cD.up a.length (fun i T H'=>(∀ s∈a.take i,s.fH.length≤300∧s.c6.length≤100)∧T 0=bY a∧T 3=gi i) ⟨by simp,rfl,rfl⟩ ?_
  rintro i k T H' hk ⟨hall,t0,t3⟩
  simp (disch:=omega) only [↓wr,↓reduceIte,wq,ai,ag,ak,ab,ae,af,aj,isNil,Nat.reduceEqDiff,Nat.reduceAdd,Nat.reduceLT,Nat.reduceLeDiff,Int.reduceNeg,Int.reduceToNat,reduceCtorEq,iW,t0,t3,bY]
  refine ax.dec (fun hc=>?_) (fun hc=>?_)
  · have hx:a[i]?=some (a[i]'(by omega)):=List.getElem?_eq_getElem (by omega)
    have hm:=List.getElem_mem (show i < a.length by omega)
    have htk:a.take (i+1)=a.take i ++ [a[i]'(by omega)]:=by rw[List.take_add_one,hx]; rfl
    generalize a[i]'(by omega)=x at hx hm htk
    obtain ⟨k1,k2⟩:=hs x hm
    unfold aJ at k1 k2
    simp (disch:=omega) only [↓wr,↓reduceIte,wq,ai,ag,ak,ab,ae,af,aj,isNil,Nat.reduceEqDiff,Nat.reduceAdd,Nat.reduceLT,Nat.reduceLeDiff,Int.reduceNeg,Int.reduceToNat,reduceCtorEq,t0,t3,bY,List.getElem?_map,hx,Option.map_some,iH,Fa,rG]
    refine ax.dec (fun h2=>?_) (fun h2=>?_)
    · simp (disch:=omega) only [↓wr,↓reduceIte,wq,ai,ag,ak,ab,ae,af,aj,isNil,Nat.reduceEqDiff,Nat.reduceAdd,Nat.reduceLT,Nat.reduceLeDiff,Int.reduceNeg,Int.reduceToNat,reduceCtorEq]
      rw[decide_eq_false (fun h=>by have:=h.2 x hm; omega)]; rfl
    · simp (disch:=omega) only [↓wr,↓reduceIte,wq,ai,ag,ak,ab,ae,af,aj,isNil,Nat.reduceEqDiff,Nat.reduceAdd,Nat.reduceLT,Nat.reduceLeDiff,Int.reduceNeg,Int.reduceToNat,reduceCtorEq,t0,t3,bY,List.getElem?_map,hx,Option.map_some,iH,Fa,rG]
      refine ax.dec (fun h3=>?_) (fun h3=>?_)
      · simp (disch:=omega) only [↓wr,↓reduceIte,wq,ai,ag,ak,ab,ae,af,aj,isNil,Nat.reduceEqDiff,Nat.reduceAdd,Nat.reduceLT,Nat.reduceLeDiff,Int.reduceNeg,Int.reduceToNat,reduceCtorEq]
        rw[decide_eq_false (fun h=>by have:=h.2 x hm; omega)]; rfl
      · simp (disch:=omega) only [↓wr,↓reduceIte,wq,ai,ag,ak,ab,ae,af,aj,isNil,Nat.reduceEqDiff,Nat.reduceAdd,Nat.reduceLT,Nat.reduceLeDiff,Int.reduceNeg,Int.reduceToNat,reduceCtorEq,t0,t3]
        refine bI hk (by omega) ⟨fun s hs=>?_,t0,rfl⟩
        rw[htk] at hs
        rcases List.mem_append.1 hs with hs | hs
        · exact hall s hs
        · simp at hs; subst hs; omega
  · rw[List.take_of_length_le (by omega)] at hall
    simp (disch:=omega) only [↓wr,↓reduceIte,wq,ai,ag,ak,ab,ae,af,aj,isNil,Nat.reduceEqDiff,Nat.reduceAdd,Nat.reduceLT,Nat.reduceLeDiff,Int.reduceNeg,Int.reduceToNat,reduceCtorEq]
    rw[decide_eq_true ⟨by omega,hall⟩]; rfl
def dM.Ok (s:dM):Prop:=(aJ s.fH∧∀ x∈s.fH,bw x.aZ∧bw x.dot)∧aJ s.c6∧∀ e∈s.c6,bw e.sym∧bw e.to
set_option maxHeartbeats 4000000 in
theorem Ac (a:List dM) (ha:aJ a) (hs:∀ s∈a,s.Ok) (fr:Int) (_:bw fr) (syms:List Int) (hl:aJ syms) (_:∀ x∈syms,bw x):aC Tryz.prog 5 [bY a,gi fr,encI syms] (gb true):=by
  refine aC.val (by
    intro v hv; simp at hv
    rcases hv with rfl | rfl | rfl
    · exact kA _
    · exact .val _
    · exact fF _) fun H=>?_
  have hl':=hl
  unfold aJ at hl'
  obtain ⟨b,hb,_⟩:=Dt a ha (fun s h=>⟨(hs s h).1.1,(hs s h).2.1⟩)
  have h1:=Gp a ha (fun s h=>(hs s h).2) fr syms hl
  have h2:=Ft a ha (fun s h=>(hs s h).2) fr syms hl
  refine aH.of mixed lu ?_
  simp (disch:=omega) only [↓wr,↓reduceIte,wq,ai,ag,ak,ab,ae,af,aj,isNil,Nat.reduceEqDiff,Nat.reduceAdd,Nat.reduceLT,Nat.reduceLeDiff,Int.reduceNeg,Int.reduceToNat,reduceCtorEq,hX]
  refine aN.pure CR (by kernel_rfl) ?_
  simp (disch:=omega) only [↓wr,↓reduceIte,wq,ai,ag,ak,ab,ae,af,aj,isNil,Nat.reduceEqDiff,Nat.reduceAdd,Nat.reduceLT,Nat.reduceLeDiff,Int.reduceNeg,Int.reduceToNat,reduceCtorEq]
  refine aN.pure hb (by kernel_rfl) ?_
  cases b with
  | true=>simp (disch:=omega) only [↓wr,↓reduceIte,wq,ai,ag,ak,ab,ae,af,aj,isNil,Nat.reduceEqDiff,Nat.reduceAdd,Nat.reduceLT,Nat.reduceLeDiff,Int.reduceNeg,Int.reduceToNat,reduceCtorEq]
  | false =>
    simp (disch:=omega) only [↓wr,↓reduceIte,wq,ai,ag,ak,ab,ae,af,aj,isNil,Nat.reduceEqDiff,Nat.reduceAdd,Nat.reduceLT,Nat.reduceLeDiff,Int.reduceNeg,Int.reduceToNat,reduceCtorEq,encI]
    refine ax.dec (fun h3=>?_) (fun h3=>?_)
    · simp (disch:=omega) only [↓wr,↓reduceIte,wq,ai,ag,ak,ab,ae,af,aj,isNil,Nat.reduceEqDiff,Nat.reduceAdd,Nat.reduceLT,Nat.reduceLeDiff,Int.reduceNeg,Int.reduceToNat,reduceCtorEq]
    · simp (disch:=omega) only [↓wr,↓reduceIte,wq,ai,ag,ak,ab,ae,af,aj,isNil,Nat.reduceEqDiff,Nat.reduceAdd,Nat.reduceLT,Nat.reduceLeDiff,Int.reduceNeg,Int.reduceToNat,reduceCtorEq]
      refine aN.pure h1 (by kernel_rfl) ?_
      simp (disch:=omega) only [↓wr,↓reduceIte,wq,ai,ag,ak,ab,ae,af,aj,isNil,Nat.reduceEqDiff,Nat.reduceAdd,Nat.reduceLT,Nat.reduceLeDiff,Int.reduceNeg,Int.reduceToNat,reduceCtorEq]
      refine aN.pure h2 (by kernel_rfl) ?_
      simp (disch:=omega) only [↓wr,↓reduceIte,wq,ai,ag,ak,ab,ae,af,aj,isNil,Nat.reduceEqDiff,Nat.reduceAdd,Nat.reduceLT,Nat.reduceLeDiff,Int.reduceNeg,Int.reduceToNat,reduceCtorEq]
      refine ax.eq (fun _=>?_) (fun h=>absurd rfl h)
      simp (disch:=omega) only [↓wr,↓reduceIte,wq,ai,ag,ak,ab,ae,af,aj,isNil,Nat.reduceEqDiff,Nat.reduceAdd,Nat.reduceLT,Nat.reduceLeDiff,Int.reduceNeg,Int.reduceToNat,reduceCtorEq]
      simp
theorem Hs:rh Tryz.prog 33 Dg (fun x=>bw x.aZ∧bw x.dot):=fun enc w base sp held fuel cs x h hw=>by
  obtain ⟨hl,hf⟩:=q8 Tryz.underlying33 (by
    intro i f hi
    match i,hi with
    | 0,hi=>simp at hi; subst hi; exact ⟨rfl,by kernel_rfl⟩
    | 1,hi=>simp at hi; subst hi; exact ⟨rfl,by kernel_rfl⟩
    | n+2,hi=>simp at hi) (by kernel_rfl) h hw
  obtain ⟨a,h0,h1⟩:=hf 0 _ rfl mL
  obtain ⟨b,h2,h3⟩:=hf 1 _ rfl mL
  refine ⟨⟨a,b⟩,⟨h0,h2⟩,?_⟩
  rw[Ih hl]
  exact jf h1 (jf h3 tz)
theorem GI:rh Tryz.prog 27 (fun l:List cR=>[.aI (Fa l)]) (fun l=>aJ l∧∀ x∈l,bw x.aZ∧bw x.dot) :=
  pV Tryz.underlying27 (of_decide_eq_true (by kernel_rfl)) (of_decide_eq_true (by kernel_rfl)) Hs
theorem Gd:rh Tryz.prog 50 iH dM.Ok:=fun enc w base sp held fuel cs x h hw=>by
  obtain ⟨hl,hf⟩:=q8 Tryz.underlying50 (by
    intro i f hi
    match i,hi with
    | 0,hi=>simp at hi; subst hi; exact ⟨rfl,by kernel_rfl⟩
    | 1,hi=>simp at hi; subst hi; exact ⟨rfl,by kernel_rfl⟩
    | n+2,hi=>simp at hi) (by kernel_rfl) h hw
  obtain ⟨a,h0,h1⟩:=hf 0 _ rfl GI
  obtain ⟨b,h2,h3⟩:=hf 1 _ rfl (pV Tryz.underlying48 (of_decide_eq_true (by kernel_rfl)) (of_decide_eq_true (by kernel_rfl)) H0)
  refine ⟨⟨a,b⟩,⟨h0,h2⟩,?_⟩
  rw[Ih hl]
  exact jf h1 (jf h3 tz)
theorem Fq:rh Tryz.prog 38 (fun l:List dM=>[bY l]) (fun l=>aJ l∧∀ s∈l,s.Ok) :=
  pV Tryz.underlying38 (of_decide_eq_true (by kernel_rfl)) (of_decide_eq_true (by kernel_rfl)) Gd
end Gv
