/-
  Part 15 of the proof: what the machine does and what the functions answer.
  Conditions: those that each lemma names.
-/
import Derived.Test.YtomcjampldmjoaaGreatSGzVN
set_option linter.unusedSimpArgs false
set_option linter.unusedVariables false
set_option maxRecDepth 100000
namespace Gv
open Go Go.Proofs
def my:SC :=
  .seq (.seq (al [ae 59 11,au 60 1 9,ao 61 60,aL 62 61,aR 63 .lss 59 62]) <|
  .cond (.tmp 63) (.skip) (.exit 0)) <|
  .seq (.block 1 (.seq (.seq (al [au 66 1 9,ao 67 66,ae 68 11,aP 69 1 67 68,ao 70 69,az 71 .geq 70 0]) <|
  .cond (.tmp 71) (.seq (al [au 72 1 10,ao 73 72,au 74 1 9,ao 75 74,ae 76 11,aP 77 1 75 76,ao 78 77,((some 79),.op (.bJ 1 1 [(.val (.int .i64 0))] [(0,(.tmp 78))])),((some 80),.op (.app 1 8 (.tmp 73) (.tmp 79))),au 81 1 10,(none,.op (.store 1 (.tmp 81) (.tmp 80)))]) <|
  .exit 1) (.skip)) <|
  .seq (.lh [] [⟨none,[aU 82 4 4,ae 83 1,au 84 0 10,ao 85 84,au 86 1 9,ao 87 86,ae 88 11,aP 89 1 87 88,ao 90 89,((some 91),.op (.arith .sub (.val (.val (.int .i64 (-1)))) (.tmp 90))),aN 92 118 [82,83,85,91],((some 12),.op (.alloc [(.val (.int .i64 0)),(.emp 1),(.val (.int .i64 0)),(.emp 1)])),(none,.op (.store 4 (.tmp 12) (.tmp 92)))]⟩]) <|
  .seq (.seq (al [au 93 0 12,ao 94 93,az 95 .eql 94 0]) <|
  .cond (.tmp 95) (.seq (al [((some 96),.op (.build [(.val (.int .i64 0)),(.emp 1),(.val (.int .i64 0)),(.emp 1)] [])),(none,.op (.store 4 (.tmp 8) (.tmp 96)))]) <|
  .ret) (.skip)) <|
  .seq (.lh [(101,104)] [⟨none,[au 97 0 12,ao 98 97,au 99 2 10,ao 100 99,au 101 2 12,ao 102 101,((some 103),.op (.mm true (.tmp 100) (.tmp 102))),au 104 0 10,(none,.op (.store 1 (.tmp 104) (.tmp 98))),au 105 2 10,(none,.op (.store 1 (.tmp 105) (.tmp 103)))]⟩]) <|
  .lh [(111,107),(113,107)] [⟨none,[au 106 1 10,ao 107 106,au 108 1 12,ao 109 108,((some 110),.op (.app 1 8 (.tmp 107) (.tmp 109))),au 111 3 10,ao 112 111,au 113 3 12,ao 114 113,((some 115),.op (.app 1 8 (.tmp 112) (.tmp 114))),au 116 1 10,(none,.op (.store 1 (.tmp 116) (.tmp 110))),au 117 3 10,(none,.op (.store 1 (.tmp 117) (.tmp 115)))]⟩])) <|
  al [ae 64 11,az 65 .add 64 1,ae 11 65]
def jG:SF:=⟨.seq (al [cM 4 0,((some 8),.op (.alloc [(.val (.int .i64 0)),(.emp 1),(.val (.int .i64 0)),(.emp 1)]))]) <|
  .seq (.seq (.region false [⟨none,[ae 13 2,ae 14 1,aL 15 14,aR 16 .geq 13 15,ae 17 16]⟩,⟨(some (17,false)),[ae 18 1,ae 19 2,aP 20 1 18 19,ao 21 20,az 22 .lss 21 0]⟩,⟨none,[bC 23 17 22,ae 24 23]⟩,⟨(some (24,false)),[ae 25 1,ae 26 2,aP 27 1 25 26,ao 28 27,au 29 2 4,ao 30 29,aL 31 30,aR 32 .geq 28 31]⟩,⟨none,[bC 33 24 32,ae 34 33]⟩,⟨(some (34,false)),[au 35 2 4,ao 36 35,ae 37 1,ae 38 2,aP 39 1 37 38,ao 40 39,aP 41 3 36 40,au 42 0 41,ao 43 42,ae 44 3,aR 45 .neq 43 44]⟩,⟨none,[bC 46 34 45]⟩]) <|
  .cond (.tmp 46) (.seq (al [((some 47),.op (.build [(.val (.int .i64 0)),(.emp 1),(.val (.int .i64 0)),(.emp 1)] [])),(none,.op (.store 4 (.tmp 8) (.tmp 47)))]) <|
  .ret) (.skip)) <|
  .seq (al [au 48 2 4,ao 49 48,ae 50 1,ae 51 2,aP 52 1 50 51,ao 53 52,aP 54 3 49 53,aU 55 3 54,((some 9),.op (.alloc [(.val (.int .i64 0)),(.emp 1),(.val (.int .i64 0))])),(none,.op (.store 3 (.tmp 9) (.tmp 55)))]) <|
  .seq (al [ae 56 2,az 57 .add 56 1,((some 58),.op (.build [(.val (.int .i64 0)),(.emp 1),(.val (.int .i64 0)),(.emp 1)] [(0,1,(.tmp 57))])),((some 10),.op (.alloc [(.val (.int .i64 0)),(.emp 1),(.val (.int .i64 0)),(.emp 1)])),(none,.op (.store 4 (.tmp 10) (.tmp 58)))]) <|
  .seq (.seq (al [aH 11 0]) <|
  .block 0 (.loop my)) <|
  .seq (al [au 118 2 10,ao 119 118,az 120 .add 119 1,au 121 2 10,(none,.op (.store 1 (.tmp 121) (.tmp 120)))]) <|
  .seq (al [au 122 3 10,ao 123 122,ae 124 1,ae 125 2,aP 126 1 124 125,ao 127 126,((some 128),.op (.bJ 1 1 [(.val (.int .i64 0))] [(0,(.tmp 127))])),((some 129),.op (.app 1 8 (.tmp 123) (.tmp 128))),au 130 3 10,(none,.op (.store 1 (.tmp 130) (.tmp 129)))]) <|
  .seq (al [aU 131 4 10,(none,.op (.store 4 (.tmp 8) (.tmp 131)))]) <|
  .ret,
  [.cell 8 (some 4)],132⟩
theorem ll:aW Tryz.prog 118 [4,100000]=some jG:=by kernel_rfl
def np:SF:=⟨.seq (al [cM 2 0,((some 4),.op (.alloc [(.val (.int .i64 0)),(.emp 1),(.val (.int .i64 0)),(.emp 1)]))]) <|
  .seq (.seq (.region false [⟨none,[aU 6 4 2,aN 7 48 [6],bZ 8 7,ae 9 8]⟩,⟨(some (9,false)),[ae 10 1,aL 11 10,az 12 .gtr 11 300]⟩,⟨none,[bC 13 9 12]⟩]) <|
  .cond (.tmp 13) (.seq (al [((some 14),.op (.build [(.val (.int .i64 0)),(.emp 1),(.val (.int .i64 0)),(.emp 1)] [])),(none,.op (.store 4 (.tmp 4) (.tmp 14)))]) <|
  .ret) (.skip)) <|
  .seq (al [aU 15 4 2,ae 16 1,au 17 3 2,ao 18 17,cT 19 118 [(.tmp 15),(.tmp 16),(.val (.val (.int .i64 0))),(.tmp 18)],((some 5),.op (.alloc [(.val (.int .i64 0)),(.emp 1),(.val (.int .i64 0)),(.emp 1)])),(none,.op (.store 4 (.tmp 5) (.tmp 19)))]) <|
  .seq (.seq (al [au 20 0 5,ao 21 20,ae 22 1,aL 23 22,aR 24 .neq 21 23]) <|
  .cond (.tmp 24) (.seq (al [((some 25),.op (.build [(.val (.int .i64 0)),(.emp 1),(.val (.int .i64 0)),(.emp 1)] [])),(none,.op (.store 4 (.tmp 4) (.tmp 25)))]) <|
  .ret) (.skip)) <|
  .seq (al [aU 26 4 5,(none,.op (.store 4 (.tmp 4) (.tmp 26)))]) <|
  .ret,
  [.cell 4 (some 4)],27⟩
theorem sG:aW Tryz.prog 68 [2]=some np:=by kernel_rfl
def oR:SF:=⟨.seq (al [cM 2 0,((some 4),.op (.bc (.val (.emp 1)))),aH 5 0]) <|
  .seq (al [aU 7 4 2,ae 8 1,aN 9 68 [7,8],((some 6),.op (.alloc [(.val (.int .i64 0)),(.emp 1),(.val (.int .i64 0)),(.emp 1)])),(none,.op (.store 4 (.tmp 6) (.tmp 9)))]) <|
  .seq (.seq (al [au 10 0 6,ao 11 10,az 12 .eql 11 0]) <|
  .cond (.tmp 12) (.seq (al [((some 4),.op (.bc (.val (.emp 1)))),aH 5 1]) <|
  .ret) (.skip)) <|
  .seq (al [au 13 1 6,ao 14 13,ae 4 14,aH 5 0]) <|
  .ret,
  [.tmp 4,.tmp 5],15⟩
theorem ta:aW Tryz.prog 39 [2]=some oR:=by kernel_rfl
theorem Ci {g:an} : ∀ (f:Nat) (l rest:List Int) (x:Wk),bF g f l rest=some x→∃ p,rest=p ++ x.rest:=by
  intro f
  induction f with
  | zero =>
    intro l
    induction l with
    | nil=>intro rest x h; rw[dO] at h; simp at h; subst h; exact ⟨[],rfl⟩
    | cons s l ih =>
      intro rest x h
      by_cases hs:0≤s
      · rw[fG hs] at h
        cases hw:bF g 0 l rest with
        | none=>rw[hw] at h; simp at h
        | some y=>rw[hw] at h; simp at h; subst h; exact ih rest y hw
      · rw[j0 (by omega)] at h; simp at h
  | succ f ihf =>
    intro l
    induction l with
    | nil=>intro rest x h; rw[dO] at h; simp at h; subst h; exact ⟨[],rfl⟩
    | cons s l ih =>
      intro rest x h
      by_cases hs:0≤s
      · rw[fG hs] at h
        cases hw:bF g (f+1) l rest with
        | none=>rw[hw] at h; simp at h
        | some y=>rw[hw] at h; simp at h; subst h; exact ih rest y hw
      · cases rest with
        | nil=>rw[fT (by omega)] at h; simp at h
        | cons t rest =>
          rw[dU (by omega)] at h
          cases hr:dK g t with
          | none=>rw[hr] at h; simp at h
          | some R =>
            rw[hr] at h
            simp only at h
            split at h
            · cases hw:bF g f R.right rest with
              | none=>rw[hw] at h; simp at h
              | some y =>
                rw[hw] at h
                simp only at h
                cases hz:bF g (f+1) l y.rest with
                | none=>rw[hz] at h; simp at h
                | some z =>
                  rw[hz] at h; simp at h; subst h
                  obtain ⟨p,hp⟩:=ihf R.right rest y hw
                  obtain ⟨q,hq⟩:=ih y.rest z hz
                  exact ⟨t :: (p ++ q),by rw[hp,hq]; simp[pt]⟩
            · simp at h
theorem za {g:an} {f:Nat} {s:Int} {rest:List Int} {y:Wk} (hs:s < 0) (h:bF g f [s] rest=some y):y.rest.length < rest.length:=by
  cases f with
  | zero=>rw[j0 (by omega)] at h; simp at h
  | succ f =>
    cases rest with
    | nil=>rw[fT (by omega)] at h; simp at h
    | cons t rest =>
      rw[dU (by omega)] at h
      cases hr:dK g t with
      | none=>rw[hr] at h; simp at h
      | some R =>
        rw[hr] at h
        simp only at h
        split at h
        · cases hw:bF g f R.right rest with
          | none=>rw[hw] at h; simp at h
          | some y =>
            rw[hw] at h
            simp only[dO,Option.map_some,Option.some.injEq] at h
            subst h
            obtain ⟨p,hp⟩:=Ci f R.right rest y hw
            have:=congrArg List.length hp
            simp only[List.length_append] at this
            simp only[pt,List.length_cons]
            omega
        · simp at h
theorem Em (l:List Int):((bq l).all fun e=>e.length == 1 && e.all aT)=true:=by simp[List.all_map,aT]
theorem Lz {t p r:List Int} {a:Nat} (h:t.drop a=p ++ r):t.drop (t.length - r.length)=r:=by
  have e:t=t.take a ++ (p ++ r):=by rw[← h,List.take_append_drop]
  have hl:t.length=(t.take a).length+(p.length+r.length):=by
    have:=congrArg List.length e
    simpa using this
  rw[e,← List.append_assoc]
  have:(t.take a ++ p ++ r).length - r.length=(t.take a ++ p).length:=by simp; omega
  rw[this,List.drop_left]
theorem Fe {H:View} {u:V} {l:List Int} {b j z:Nat} {e:List (List V)} (ho:aX H u 1 (bq l)) (hb:H b=.arr z e) (hz:z≠1):gq (.ptr b 0 j) u:=by
  rcases ho with ⟨_,k,rfl⟩ | ⟨n,rfl,hn⟩
  · trivial
  · show b≠n
    rintro rfl
    rw[hb] at hn
    simp only[bN.arr.injEq] at hn
    exact hz hn.1
theorem Kl {H:View} {u:V} {sz f z:Nat} {es:List (List V)} {e:List (List V)} (ho:aX H u sz es) (hf:H f=.arr z e) (hz:sz≠z):owner u≠some f:=fun e2=>by
  have:=(ho.live e2).1
  rw[hf] at this
  simp only[bN.arr.injEq] at this
  exact hz this.1.symm
def mP (o:Option Wk) (tl:Nat):V:=match o with
  | some x=>.agg [gi (tl - x.rest.length:Nat),encI x.word,gi x.high,encI x.post]
  | none=>.agg [gi 0,encI [],gi 0,encI []]
theorem LD {h:aE} {uw up:V} {x:Wk} {tl:Nat} (hw:aX h.view uw 1 (bq x.word)) (hp:aX h.view up 1 (bq x.post)):c7 h (.agg [gi (tl - x.rest.length:Nat),uw,gi x.high,up]) (mP (some x) tl):=by
  refine .agg _ _ rfl fun j hj=>?_
  match j,hj with
  | 0,_=>exact .val _
  | 1,_=>exact ix hw
  | 2,_=>exact .val _
  | 3,_=>exact ix hp
  | n+4,hj=>exact absurd hj (by simp only[List.length_cons,List.length_nil]; omega)
theorem fM {h:aE} {tl:Nat} : c7 h (.agg [gi 0,.emp 1,gi 0,.emp 1]) (mP none tl):=by
  refine .agg _ _ rfl fun j hj=>?_
  match j,hj with
  | 0,_=>exact .val _
  | 1,_=>exact .emp _
  | 2,_=>exact .val _
  | 3,_=>exact .emp _
  | n+4,hj=>exact absurd hj (by simp only[List.length_cons,List.length_nil]; omega)
theorem zD (g:an) (t:List Int) (a b:Int):∀ v∈[V.agg (ar g),encI t,gi a,gi b],Tree v:=by
  intro v hv; simp at hv
  rcases hv with rfl | rfl | rfl | rfl
  · exact cE _ (cR g)
  · exact bQ t
  · exact .val _
  · exact .val _
set_option maxHeartbeats 8000000 in
theorem NY (g:an) (hg:g.Ok) (hf:g.iw) (t:List Int) (ht:t.length≤300):∀ (f:Nat) (n:Int) (a:Nat),f≤300→0≤n→n < g.av.length→a≤t.length→t.length - a≤f →
    cd Tryz.prog 118 [.agg (ar g),encI t,gi a,gi n] (mP (bF g f [-1 - n] (t.drop a)) t.length):=by
  intro f
  induction f with
  | zero =>
    intro n a hf3 hn0 hn1 ha hl
    refine cd.of (zD g t a n) ?_
    refine aA.of mixed ll ?_
    simp (disch:=omega) only [↓wr,↓reduceIte,wq,ai,ah,ak,Nat.reduceEqDiff,Nat.reduceAdd,Nat.reduceLeDiff,Int.reduceNeg,jG,ar,encS,encI]
    intro b8
    refine aq.dec (fun _=>?_) (fun h=>absurd (by omega) h)
    simp (disch:=omega) only [↓wr,↓reduceIte,wq,aa,af,Nat.reduceEqDiff,Nat.reduceAdd,Nat.reduceLT,Nat.reduceLeDiff,Int.reduceNeg,reduceCtorEq]
    intro h' _
    rw[List.drop_eq_nil_of_le (by omega),fT (by omega)]
    exact fM
  | succ f ih =>
    intro n a hf3 hn0 hn1 ha hl
    refine cd.of (zD g t a n) ?_
    refine aA.of mixed ll ?_
    simp (disch:=omega) only [↓wr,↓reduceIte,wq,ai,ah,ak,Nat.reduceEqDiff,Nat.reduceAdd,Nat.reduceLeDiff,Int.reduceNeg,jG,ar,encS,encI]
    intro b8
    refine aq.dec (fun h=>?_) (fun h=>?_)
    · simp (disch:=omega) only [↓wr,↓reduceIte,wq,aa,af,Nat.reduceEqDiff,Nat.reduceAdd,Nat.reduceLT,Nat.reduceLeDiff,Int.reduceNeg,reduceCtorEq]
      intro h' _
      rw[List.drop_eq_nil_of_le (by omega),fT (by omega)]
      exact fM
    · have hg1:t[a]?=some (t[a]'(by omega)):=List.getElem?_eq_getElem (by omega)
      have hdr:t.drop a=t[a]'(by omega) :: t.drop (a+1):=List.drop_eq_getElem_cons (by omega)
      generalize t[a]'(by omega)=c at hg1 hdr
      have bad:(∀ R,dK g c=some R→R.left≠n)→bF g (f+1) [-1 - n] (t.drop a)=none:=fun h=>by
        rw[hdr,dU (by omega)]
        cases hr:dK g c with
        | none=>rfl
        | some R =>
          simp only
          rw[if_neg (by have:=h R hr; omega)]
      simp (disch:=omega) only [↓wr,↓reduceIte,wq,ah,Nat.reduceEqDiff,Nat.reduceLT,Int.reduceNeg,List.getElem?_map,hg1]
      refine aq.dec (fun hc=>?_) (fun hc=>?_)
      · simp (disch:=omega) only [↓wr,↓reduceIte,wq,aa,af,Nat.reduceEqDiff,Nat.reduceAdd,Nat.reduceLT,Nat.reduceLeDiff,Int.reduceNeg,reduceCtorEq]
        intro h' _
        rw[bad fun R hR=>by unfold dK at hR; rw[if_neg (by omega)] at hR; simp at hR]
        exact fM
      · obtain ⟨k,rfl⟩:∃ k:Nat,c=k:=⟨c.toNat,by omega⟩
        simp (disch:=omega) only [↓wr,↓reduceIte,wq,ah,ak,Nat.reduceEqDiff,Nat.reduceAdd,Nat.reduceLT,Int.reduceNeg,List.getElem?_map,hg1]
        refine aq.dec (fun hk=>?_) (fun hk=>?_)
        · simp (disch:=omega) only [↓wr,↓reduceIte,wq,aa,af,Nat.reduceEqDiff,Nat.reduceAdd,Nat.reduceLT,Nat.reduceLeDiff,Int.reduceNeg,reduceCtorEq]
          intro h' _
          rw[bad fun R hR=>by
            unfold dK at hR
            rw[if_pos (by omega),Int.toNat_natCast] at hR
            have:=(List.getElem?_eq_some_iff.1 hR).1
            omega]
          exact fM
        · have hR:g.rules[k]?=some (g.rules[k]'(by omega)):=List.getElem?_eq_getElem (by omega)
          have hmr:=List.mem_of_getElem? hR
          generalize g.rules[k]'(by omega)=R at hR hmr
          have hra:dK g (k:Int)=some R:=by rw[dK,if_pos (by omega),Int.toNat_natCast]; exact hR
          have hrw:=hg.bd R hmr
          have hr6:=hf.right R hmr
          simp (disch:=omega) only [↓wr,↓reduceIte,wq,ah,Nat.reduceEqDiff,Nat.reduceAdd,Nat.reduceLT,Int.reduceNeg,encI,List.getElem?_map,hg1,hR,aO]
          refine aq.ne (fun he=>?_) (fun he=>?_)
          · simp (disch:=omega) only [↓wr,↓reduceIte,wq,aa,af,Nat.reduceEqDiff,Nat.reduceAdd,Nat.reduceLT,Nat.reduceLeDiff,Int.reduceNeg,reduceCtorEq]
            intro h' _
            rw[bad fun R' hR'=>by rw[hra] at hR'; simp at hR'; subst hR'; exact he]
            exact fM
          · simp (disch:=omega) only [↓wr,↓reduceIte,wq,ah,aa,af,Nat.reduceEqDiff,Nat.reduceAdd,Nat.reduceLT,Nat.reduceLeDiff,Int.reduceNeg,encI,List.getElem?_map,hg1,hR,aO]
            intro b9 h9 b10 h10
            have o1:=(bI.nil (H:=fun _=>bN.dead)).new (n:=b8) rfl 4 [[gi 0,.emp 1,gi 0,.emp 1]]
            have o2:=(o1.new (n:=b9) h9 3 [[gi 0,.emp 1,gi 0]]).put (es':=[[gi R.left,encI R.right,gi R.prec]]) rfl rfl
            have h10':((((View.set (fun _=>bN.dead) b8 (.arr 4 [[gi 0,.emp 1,gi 0,.emp 1]])).set b9 (.arr 3 [[gi 0,.emp 1,gi 0]])).set b9 (.arr 3 [[gi R.left,encI R.right,gi R.prec]]))) b10=.dead:=h10
            have o3:=(o2.new h10' 4 [[gi 0,.emp 1,gi 0,.emp 1]]).put (es':=[[gi (a+1),.emp 1,gi 0,.emp 1]]) rfl rfl
            have hend:((t.length - (t.drop (a+1)).length:Nat):Int)=a+1:=by simp; omega
            refine bb.up R.right.length (fun i T H'=>∃ x uw up,bF g f (R.right.take i) (t.drop (a+1))=some x∧bI H' [(.sl b10 0 1 4,4,[[gi (t.length - x.rest.length:Nat),uw,gi x.high,up]]),(uw,1,bq x.word),(up,1,bq x.post),(.sl b9 0 1 3,3,[[gi R.left,encI R.right,gi R.prec]]),(.sl b8 0 1 4,4,[[gi 0,.emp 1,gi 0,.emp 1]])] ∧
              T 1=encI t∧T 2=gi a∧T 4=.aS (ar g) 0∧T 8=.ptr b8 0 0∧T 9=.ptr b9 0 0∧T 10=.ptr b10 0 0∧T 11=gi i) ?_ ?_
            · refine ⟨⟨t.drop (a+1),[],[],0⟩,.emp 1,.emp 1,dO _ _ _,?_,rfl,rfl,rfl,rfl,rfl,rfl,rfl⟩
              simp only[hend]
              exact ((o3.emp (k:=1) (sz:=1)).emp (k:=1) (sz:=1)).perm Bo.symm
            · clear o1 o2 o3 h9 h10 h10'
              rintro i j T H1 hj ⟨x,uw,up,hx,ho,t1,t2,t4,t8,t9,t10,t11⟩
              obtain ⟨z1,z2,z3,z4⟩:=qa hf.right f _ _ x hx
              have hdl:(t.drop (a+1)).length=t.length - (a+1):=by simp
              have hb10:=ho.is 0 rfl (by simp)
              have hb9:=ho.is 3 rfl (by simp)
              simp (disch:=omega) only [↓wr,↓reduceIte,wq,ah,ak,Nat.reduceEqDiff,Nat.reduceAdd,Nat.reduceLT,Int.reduceNeg,my,t9,t11,hb9,encI]
              refine aq.dec (fun hi=>?_) (fun hi=>?_)
              · have hg2:R.right[i]?=some (R.right[i]'(by omega)):=List.getElem?_eq_getElem (by omega)
                have hmem:R.right[i]'(by omega)∈R.right:=List.getElem_mem _
                have htk:R.right.take (i+1)=R.right.take i ++ [R.right[i]'(by omega)]:=by rw[List.take_add_one,hg2]; rfl
                have hap:=lF g f (R.right.take i) [R.right[i]'(by omega)] (t.drop (a+1))
                rw[← htk,hx] at hap
                generalize R.right[i]'(by omega)=s at hg2 hmem htk hap
                simp only at hap
                have hs64:=hrw.2.2.2 s hmem
                unfold bW at hs64
                simp only[List.length_take] at z3
                simp (disch:=omega) only [↓wr,↓reduceIte,wq,ah,Nat.reduceEqDiff,Nat.reduceAdd,Nat.reduceLT,Int.reduceNeg,t9,t11,hb9,encI,List.getElem?_map,hg2]
                refine aq.dec (fun hs=>?_) (fun hs=>?_)
                · simp (disch:=omega) only [↓wr,↓reduceIte,wq,ag,Nat.reduceEqDiff,Nat.reduceAdd,Nat.reduceLT,Int.reduceNeg,t9,t10,t11,hb9,hb10,encI,List.getElem?_map,hg2]
                  intro m hm
                  rw[cp]
                  simp (disch:=omega) only [↓wr,↓reduceIte,wq,Nat.reduceEqDiff,Int.reduceNeg]
                  refine cH ((ho.at 1 (by simp)).fresh hm) (by simp[aT]) (by unfold aI; simp; omega) (by unfold aI; simp; omega) ?_
                  intro u2 H2 o2 _
                  simp only[List.eraseIdx_cons_succ,List.eraseIdx_cons_zero] at o2
                  have hb2:=o2.is 1 rfl (by simp)
                  have c2:=o2.head.cells
                  have k2:=o2.head.gL
                  simp (disch:=omega) only [↓wr,↓reduceIte,wq,ah,aa,Nat.reduceEqDiff,Nat.reduceAdd,Nat.reduceLT,Nat.reduceLeDiff,Int.reduceNeg,reduceCtorEq,t1,t2,t8,t10,t11,hb2,c2,k2]
                  have o3:=(o2.at 1 (by simp)).put (es':=[[gi (t.length - x.rest.length:Nat),u2,gi x.high,up]]) rfl rfl
                  simp only[List.eraseIdx_cons_succ,List.eraseIdx_cons_zero] at o3
                  rw[fG hs,dO] at hap
                  simp only[Option.map_some] at hap
                  refine aK hj (by omega) ⟨_,u2,up,hap,?_,t1,t2,t4,t8,t9,t10,rfl⟩
                  simpa [nR,qP,encI] using o3
                · simp (disch:=omega) only [↓wr,↓reduceIte,wq,ah,Nat.reduceEqDiff,Nat.reduceAdd,Nat.reduceLT,Nat.reduceLeDiff,Int.reduceNeg,t1,t4,t9,t10,t11,hb9,hb10,encI,List.getElem?_map,hg2,ar,encS]
                  have hns : -1 - s < g.av.length:=by
                    have:=hf.sym R hmr s hmem
                    unfold gu at this
                    rw[if_neg (by omega)] at this
                    simpa using this
                  have hdx:t.drop (t.length - x.rest.length)=x.rest:=by
                    obtain ⟨p,hp⟩:=Ci f _ _ x hx
                    exact Lz hp
                  have hcall:=ih (-1 - s) (t.length - x.rest.length) (by omega) (by omega) hns (by omega) (by omega)
                  rw[show -1 - (-1 - s)=s by omega,hdx] at hcall
                  simp only[ar,encS,encI] at hcall
                  refine aF.rE hcall (by kernel_rfl) ⟨.tree (cE _ (cR g)),.tree (bQ t),.tree (.val _),.tree (.val _),trivial⟩ ?_
                  cases hy:bF g f [s] x.rest with
                  | none =>
                    rw[hy] at hap
                    rw[show mP none t.length=.agg [gi 0,encI [],gi 0,encI []] from rfl]
                    simp (disch:=omega) only [↓wr,↓reduceIte,wq,ah,aa,Nat.reduceEqDiff,Nat.reduceAdd,Nat.reduceLT,Nat.reduceLeDiff,Int.reduceNeg]
                    intro b12 hb12
                    have hnone:bF g (f+1) [-1 - n] (t.drop a)=none:=by
                      rw[hdr,dU (by omega),hra]
                      simp only
                      rw[if_pos (by omega)]
                      have e:=lF g f (R.right.take (i+1)) (R.right.drop (i+1)) (t.drop (a+1))
                      rw[List.take_append_drop,hap] at e
                      rw[e]; rfl
                    refine ⟨rfl,?_⟩
                    refine aq.eq (fun _=>?_) (fun e=>absurd rfl e)
                    have hb8:=ho.is 4 rfl (by simp)
                    have d8:b8≠b12:=fun e=>by rw[e] at hb8; rw[hb8] at hb12; simp at hb12
                    simp (disch:=omega) only [↓wr,↓reduceIte,wq,ah,aa,af,Nat.reduceEqDiff,Nat.reduceAdd,Nat.reduceLT,Nat.reduceLeDiff,Int.reduceNeg,reduceCtorEq,t8,hb8,d8]
                    intro h' _
                    rw[hnone]
                    exact fM
                  | some y =>
                    rw[hy] at hap
                    have hyh:=uS (by omega) hy
                    obtain ⟨v1,v2,v3,v4⟩:=qa hf.right f _ _ y hy
                    have hlt:y.rest.length < x.rest.length:=za (by omega) hy
                    rw[show mP (some y) t.length=.agg [gi (t.length - y.rest.length:Nat),encI y.word,gi y.high,encI y.post] from rfl]
                    simp (disch:=omega) only [↓wr,↓reduceIte,wq,ah,aa,Nat.reduceEqDiff,Nat.reduceAdd,Nat.reduceLT,Nat.reduceLeDiff,Int.reduceNeg]
                    intro b12 hb12
                    refine ⟨rfl,?_⟩
                    refine aq.eq (fun e=>absurd e (by omega)) (fun _=>?_)
                    have d10:b10≠b12:=fun e=>by rw[e] at hb10; rw[hb10] at hb12; simp at hb12
                    simp (disch:=omega) only [↓wr,↓reduceIte,wq,aa,Nat.reduceEqDiff,Nat.reduceAdd,Nat.reduceLT,Nat.reduceLeDiff,Int.reduceNeg,t10,hb10,d10,d10.symm,set_set,encI]
                    simp only[List.length_cons,List.length_nil] at v3
                    have off12:∀ z∈[((V.sl b10 0 1 4,4,[[gi (t.length - x.rest.length:Nat),uw,gi x.high,up]]):fE),(uw,1,bq x.word),(up,1,bq x.post),(.sl b9 0 1 3,3,[[gi R.left,encI R.right,gi R.prec]]),(.sl b8 0 1 4,4,[[gi 0,.emp 1,gi 0,.emp 1]])],owner z.1≠some b12:=fun z hz e=>ho.live hz e hb12
                    have o1a:=ho.fresh (o:=.arr [V.val (Value.int .i64 0),V.emp 1,V.val (Value.int .i64 0),V.emp 1].length [[V.val (Value.int .i64 0),V.emp 1,V.val (Value.int .i64 0),V.emp 1]]) hb12
                    have o1b:bI (((H1.set b12 (.arr [V.val (Value.int .i64 0),V.emp 1,V.val (Value.int .i64 0),V.emp 1].length [[V.val (Value.int .i64 0),V.emp 1,V.val (Value.int .i64 0),V.emp 1]]))).set b12 (.arr 4 [[gi (t.length - y.rest.length:Nat),encI y.word,gi y.high,encI y.post]])) _:=⟨fun z hz=>(o1a.1 z hz).other (off12 z hz),o1a.2⟩
                    have o1:=(o1b.put (es':=[[gi (t.length - y.rest.length:Nat),uw,gi x.high,up]]) rfl rfl).put (es':=[[gi (t.length - y.rest.length:Nat),uw,gi (if (y.high:Int) > x.high then y.high else x.high),up]]) rfl rfl
                    have f12:(((((H1.set b12 (.arr [V.val (Value.int .i64 0),V.emp 1,V.val (Value.int .i64 0),V.emp 1].length [[V.val (Value.int .i64 0),V.emp 1,V.val (Value.int .i64 0),V.emp 1]]))).set b12 (.arr 4 [[gi (t.length - y.rest.length:Nat),encI y.word,gi y.high,encI y.post]])).set b10 (.arr 4 [[gi (t.length - y.rest.length:Nat),uw,gi x.high,up]])).set b10 (.arr 4 [[gi (t.length - y.rest.length:Nat),uw,gi (if (y.high:Int) > x.high then y.high else x.high),up]])) b12=.arr 4 [[gi (t.length - y.rest.length:Nat),encI y.word,gi y.high,encI y.post]]:=by simp[View.set,d10.symm]
                    have a1:=Fe (j:=3) (o1.own 1 rfl) (o1.is 0 rfl (by simp)) (by decide)
                    have a2:=Fe (j:=3) (o1.own 1 rfl) f12 (by decide)
                    have lw:=Kl (o1.own 1 rfl) f12 (by decide)
                    refine cH (o1.at 1 (by simp)) (Em y.word) (by unfold aI; simp; omega) (by unfold aI; simp; omega) ?_
                    intro u2 H2 o2 l2
                    have g12:H2 b12=.arr 4 [[gi (t.length - y.rest.length:Nat),encI y.word,gi y.high,encI y.post]]:=(l2 b12 (fun e=>by have:=f12.symm.trans e; simp at this) lw).1.trans f12
                    simp only[List.eraseIdx_cons_succ,List.eraseIdx_cons_zero] at o2
                    have hb2:=o2.is 1 rfl (by simp)
                    have c2:=o2.head.cells
                    have k2:=o2.head.gL
                    simp (disch:=omega) only [↓wr,↓reduceIte,wq,Nat.reduceEqDiff,Nat.reduceAdd,Nat.reduceLT,Int.reduceNeg,t10,hb2,g12,encI]
                    refine cH (o2.at 2 (by simp)) (Em y.post) (by unfold aI; simp; omega) (by unfold aI; simp; omega) ?_
                    intro u3 H3 o3 _
                    simp only[List.eraseIdx_cons_succ,List.eraseIdx_cons_zero] at o3
                    have hb3:=o3.is 2 rfl (by simp)
                    have c3:=o3.head.cells
                    have k3:=o3.head.gL
                    simp (disch:=omega) only [↓wr,↓reduceIte,wq,ah,aa,Nat.reduceEqDiff,Nat.reduceAdd,Nat.reduceLT,Nat.reduceLeDiff,Int.reduceNeg,reduceCtorEq,t1,t2,t8,t10,t11,hb3,c2,k2,c3,k3,encI]
                    have o4:=((o3.at 2 (by simp)).put (es':=[[gi (t.length - y.rest.length:Nat),u2,gi (if (y.high:Int) > x.high then y.high else x.high),up]]) rfl rfl).put (es':=[[gi (t.length - y.rest.length:Nat),u2,gi (if (y.high:Int) > x.high then y.high else x.high),u3]]) rfl rfl
                    simp only[List.eraseIdx_cons_succ,List.eraseIdx_cons_zero] at o4
                    refine ⟨a1,a2,aK hj (by omega) ⟨_,u2,u3,hap,?_,t1,t2,t4,t8,t9,t10,rfl⟩⟩
                    have eh:gi (if (y.high:Int) > x.high then (y.high:Int) else x.high)=gi ((nR x y).high:Nat):=by
                      congr 2
                      simp only[nR]
                      split <;> omega
                    rw[← eh]
                    have o5:=o4.perm (.cons _ (.swap _ _ _))
                    simpa [nR,encI] using o5
              · rw[List.take_of_length_le (by omega)] at hx
                simp (disch:=omega) only [↓wr,↓reduceIte,wq,ah,aa,ag,Nat.reduceEqDiff,Nat.reduceAdd,Nat.reduceLT,Nat.reduceLeDiff,Int.reduceNeg,reduceCtorEq,t1,t2,t8,t10,hb10,encI,List.getElem?_map,hg1]
                intro m hm
                have o1:=ho.put (es':=[[gi (t.length - x.rest.length:Nat),uw,gi (x.high+1),up]]) rfl rfl
                rw[cp]
                simp (disch:=omega) only [↓wr,↓reduceIte,wq,Nat.reduceEqDiff,Int.reduceNeg]
                refine cH ((o1.at 2 (by simp)).fresh hm) (by simp[aT]) (by unfold aI; simp; omega) (by unfold aI; simp; omega) ?_
                intro u2 H2 o2 _
                simp only[List.eraseIdx_cons_succ,List.eraseIdx_cons_zero] at o2
                have hb2:=o2.is 1 rfl (by simp)
                have hb8:=o2.is 4 rfl (by simp)
                have c2:=o2.head.cells
                have k2:=o2.head.gL
                have d8:b8≠b10:=o2.Fw 4 1 rfl rfl (by decide)
                simp (disch:=omega) only [↓wr,↓reduceIte,wq,aa,Nat.reduceEqDiff,Nat.reduceAdd,Nat.reduceLT,Nat.reduceLeDiff,Int.reduceNeg,reduceCtorEq,t8,t10,hb2,hb8,c2,k2,d8]
                have o3:=(o2.at 1 (by simp)).put (es':=[[gi (t.length - x.rest.length:Nat),uw,gi (x.high+1),u2]]) rfl rfl
                simp only[List.eraseIdx_cons_succ,List.eraseIdx_cons_zero] at o3
                have o4:=(o3.at 4 (by simp)).put (es':=[[gi (t.length - x.rest.length:Nat),uw,gi (x.high+1),u2]]) rfl rfl
                simp only[List.eraseIdx_cons_succ,List.eraseIdx_cons_zero] at o4
                refine ⟨by simp[(o2.own 2 rfl).gL],fun h' hv=>?_⟩
                have hfin:bF g (f+1) [-1 - n] (t.drop a)=some ⟨x.rest,x.word ++ [],x.post ++ [(k:Int)],max (x.high+1) 0⟩:=by
                  rw[hdr,dU (by omega),hra]
                  simp only
                  rw[if_pos (by omega),hx]
                  simp only[dO,Option.map_some,pt]
                rw[hfin]
                rw[← hv] at o4
                have f1:=LD (h:=h') (uw:=uw) (up:=u2) (x:=⟨x.rest,x.word ++ [],x.post ++ [(k:Int)],max (x.high+1) 0⟩) (tl:=t.length) (by simpa using o4.own 3 rfl) (by simpa using o4.own 2 rfl)
                simpa using f1
theorem BK (o:Option Wk) (tl:Nat):Tree (mP o tl):=by
  have h:∀ (a b:Int) (l m:List Int),Tree (.agg [gi a,encI l,gi b,encI m]):=by
    intro a b l m
    refine cE _ fun v hv=>?_
    simp only[List.mem_cons,List.not_mem_nil,or_false] at hv
    rcases hv with rfl | rfl | rfl | rfl
    · exact .val _
    · exact bQ l
    · exact .val _
    · exact bQ m
  cases o with
  | none=>exact h 0 0 [] []
  | some x=>exact h _ _ x.word x.post
set_option maxHeartbeats 4000000 in
theorem Hf (g:an) (hg:g.Ok) (t:List Int) (ht:aM t):aD Tryz.prog 68 [.agg (ar g),encI t] (mP (eF g t) t.length):=by
  refine aD.of (qE g t) ?_
  have hc:=jY g hg
  unfold aM at ht
  refine aA.of mixed sG ?_
  simp only[ar,encS] at hc
  simp (disch:=omega) only [↓wr,↓reduceIte,wq,ai,Nat.reduceEqDiff,Nat.reduceAdd,Nat.reduceLeDiff,np,ar,encS]
  intro b4
  refine aF.pure hc (by kernel_rfl) ?_
  simp (disch:=omega) only [↓wr,↓reduceIte,wq]
  refine aq.split (fun hr=>?_) (fun hr=>?_)
  · simp (disch:=omega) only [↓wr,↓reduceIte,wq,ah,ak,Nat.reduceEqDiff,encI]
    refine aq.dec (fun hl=>?_) (fun hl=>?_)
    · simp (disch:=omega) only [↓wr,↓reduceIte,wq,aa,af,Nat.reduceEqDiff,Nat.reduceAdd,Nat.reduceLT,Nat.reduceLeDiff,reduceCtorEq]
      intro h' _
      rw[eF,if_neg (by rintro ⟨_,h⟩; omega)]
      exact (fM (tl:=0)).pF
    · have hf:=aZ hr
      have hwh:eF g t=match bF g t.length [-1 - g.start] t with
          | some x=>if x.rest=[] then some x else none
          | none=>none:=by rw[eF,if_pos ⟨hr,by omega⟩]; rfl
      have hcall:=NY g hg hf t (by omega) t.length g.start 0 (by omega) hf.dW hf.start (by omega) (by omega)
      rw[List.drop_zero] at hcall
      simp only[ar,encS,encI] at hcall
      simp (disch:=omega) only [↓wr,↓reduceIte,wq,Nat.reduceEqDiff,Nat.reduceAdd,Nat.reduceLT,Nat.reduceLeDiff]
      refine aF.rE hcall (by kernel_rfl) ⟨.tree (cE _ (cR g)),.tree (bQ t),.tree (.val _),.tree (.val _),trivial⟩ ?_
      rw[hwh]
      cases hx:bF g t.length [-1 - g.start] t with
      | none =>
        rw[show mP none t.length=.agg [gi 0,encI [],gi 0,encI []] from rfl]
        simp (disch:=omega) only [↓wr,↓reduceIte,wq,ah,ak,aa,Nat.reduceEqDiff,Nat.reduceAdd,Nat.reduceLT,Nat.reduceLeDiff]
        intro b5 h5
        have d:b4≠b5:=fun e=>by simp[e] at h5
        simp (disch:=omega) only [wq,encI]
        refine aq.ne (fun _=>?_) (fun _=>?_)
        · simp (disch:=omega) only [↓wr,↓reduceIte,wq,aa,af,Nat.reduceEqDiff,Nat.reduceAdd,Nat.reduceLT,Nat.reduceLeDiff,reduceCtorEq,d]
          intro h' _
          exact (fM (tl:=0)).pF
        · simp (disch:=omega) only [↓wr,↓reduceIte,wq,aa,Nat.reduceEqDiff,Nat.reduceAdd,Nat.reduceLT,Nat.reduceLeDiff,reduceCtorEq,d]
          intro h' _
          exact .tree _ (BK none t.length)
      | some x =>
        have hlt:=za (by have:=hf.dW; omega) hx
        rw[show mP (some x) t.length=.agg [gi (t.length - x.rest.length:Nat),encI x.word,gi x.high,encI x.post] from rfl]
        simp (disch:=omega) only [↓wr,↓reduceIte,wq,ah,ak,aa,Nat.reduceEqDiff,Nat.reduceAdd,Nat.reduceLT,Nat.reduceLeDiff]
        intro b5 h5
        have d:b4≠b5:=fun e=>by simp[e] at h5
        simp (disch:=omega) only [wq,encI]
        refine aq.ne (fun hc=>?_) (fun hc=>?_)
        · simp (disch:=omega) only [↓wr,↓reduceIte,wq,aa,af,Nat.reduceEqDiff,Nat.reduceAdd,Nat.reduceLT,Nat.reduceLeDiff,reduceCtorEq,d]
          intro h' _
          try simp only
          rw[if_neg (by intro e; rw[e] at hc; simp at hc)]
          exact (fM (tl:=0)).pF
        · simp (disch:=omega) only [↓wr,↓reduceIte,wq,aa,Nat.reduceEqDiff,Nat.reduceAdd,Nat.reduceLT,Nat.reduceLeDiff,reduceCtorEq,d]
          intro h' _
          try simp only
          rw[if_pos (List.length_eq_zero_iff.1 (by omega))]
          exact .tree _ (BK (some x) t.length)
  · simp (disch:=omega) only [↓wr,↓reduceIte,wq,aa,af,Nat.reduceEqDiff,Nat.reduceAdd,Nat.reduceLT,Nat.reduceLeDiff,reduceCtorEq]
    intro h' _
    rw[eF,if_neg (by rintro ⟨h,_⟩; rw[h] at hr; simp at hr)]
    exact (fM (tl:=0)).pF
theorem Gs {g:an} {t:List Int} {x:Wk} (h:eF g t=some x):x.rest=[]∧0 < t.length:=by
  unfold eF at h
  split at h
  · rename_i hr
    have h0:=(aZ hr.1).dW
    cases hx:bF g t.length [-1 - g.start] t with
    | none=>rw[hx] at h; simp at h
    | some y =>
      rw[hx] at h
      simp only at h
      split at h
      · rename_i hy
        simp only[Option.some.injEq] at h
        subst h
        have:=za (by omega) hx
        exact ⟨hy,by omega⟩
      · simp at h
  · simp at h
set_option maxHeartbeats 4000000 in
theorem HQ (g:an) (hg:g.Ok) (t:List Int) (ht:aM t):aD Tryz.prog 39 [.agg (ar g),encI t] (kX (iY g t)):=by
  refine aD.of (qE g t) ?_
  have hc:=Hf g hg t ht
  refine aA.of mixed ta ?_
  simp only[ar,encS] at hc
  simp (disch:=omega) only [↓wr,↓reduceIte,wq,ai,Nat.reduceEqDiff,Nat.reduceAdd,Nat.reduceLeDiff,oR,ar,encS]
  refine aF.pure hc (by kernel_rfl) ?_
  unfold iY
  cases hw:eF g t with
  | none =>
    rw[show mP none t.length=.agg [gi 0,encI [],gi 0,encI []] from rfl]
    simp (disch:=omega) only [↓wr,↓reduceIte,wq,ah,aa,Nat.reduceEqDiff,Nat.reduceAdd,Nat.reduceLT,Nat.reduceLeDiff]
    intro b6
    simp (disch:=omega) only [wq,encI]
    refine aq.eq (fun _=>?_) (fun e=>absurd rfl e)
    simp (disch:=omega) only [↓wr,↓reduceIte,wq,Nat.reduceEqDiff,Nat.reduceAdd,reduceCtorEq]
    intro h' _
    exact (fv (x:=([],1)) (.emp _)).pF
  | some x =>
    obtain ⟨e1,e2⟩:=Gs hw
    have e3:x.rest.length=0:=by rw[e1]; rfl
    rw[show mP (some x) t.length=.agg [gi (t.length - x.rest.length:Nat),encI x.word,gi x.high,encI x.post] from rfl]
    simp (disch:=omega) only [↓wr,↓reduceIte,wq,ah,aa,Nat.reduceEqDiff,Nat.reduceAdd,Nat.reduceLT,Nat.reduceLeDiff]
    intro b6
    simp (disch:=omega) only [wq,encI]
    refine aq.eq (fun e=>absurd e (by omega)) (fun _=>?_)
    simp (disch:=omega) only [↓wr,↓reduceIte,wq,Nat.reduceEqDiff,Nat.reduceAdd,Nat.reduceLT,reduceCtorEq]
    intro h' _
    exact .bo _ _ rfl fun j hj=>match j,hj with
      | 0,_=>.tree _ (bQ x.word)
      | 1,_=>.tree _ (.val _)
      | n+2,hj=>absurd hj (by simp only[List.length_cons,List.length_nil]; omega)
def kO {κ:Type} (kv:κ→V) (m:dp κ):List (V × V × Nat):=m.map fun x=>(kv x.1,x.2.1,x.2.2)
structure Qp {κ:Type} [BEq κ] (P:Program) (kt:TypeId) (kv:κ→V):Prop where
  find:∀ k e m,l7 P kt (kv k) e (kO kv m)=some (jO k m)
  same:∀ k,sameKey (kv k) (kv k)=true
def CR {κ:Type} (m:dp κ) (c:Nat):Prop:=(m.map (·.2.2)).Nodup∧∀ x∈m,x.2.2 < c
def mJ {κ:Type} [BEq κ] (m:dp κ) (k:κ):Option Nat:=(m.find? fun x=>k == x.1).map (·.2.2)
section
variable {κ:Type} [BEq κ] [LawfulBEq κ] {kv:κ→V}
theorem Ed (k:κ):∀ m:dp κ,match jO k m with
    | some i=>∃ x,m[i]?=some x∧x.1=k∧getM m k=some x.2.1∧mJ m k=some x.2.2∧(kO kv m)[i]?=some (kv k,x.2.1,x.2.2)∧∀ v c,(kO kv m).set i (kv k,v,x.2.2)=kO kv (cW k v c m)∧mJ (cW k v c m) k=some x.2.2∧(cW k v c m).map (·.2.2)=m.map (·.2.2)
    | none=>getM m k=none∧mJ m k=none∧∀ v c,kO kv m ++ [(kv k,v,c)]=kO kv (cW k v c m)∧mJ (cW k v c m) k=some c∧(cW k v c m).map (·.2.2)=m.map (·.2.2) ++ [c]
  | []=>⟨rfl,rfl,fun v c=>⟨rfl,by simp[cW,mJ],rfl⟩⟩
  | x :: r=>by
    have ih:=Ed k r
    simp only[jO]
    cases hk:k == x.1 with
    | true =>
      have hx:x.1=k:=(eq_of_beq hk).symm
      exact ⟨x,rfl,hx,by simp[getM,hk],by simp[mJ,hk],by simp[kO,hx],fun v c=>by simp[cW,hk,kO,mJ]⟩
    | false =>
      simp only[Bool.false_eq_true,if_false]
      cases hi:jO k r with
      | some i =>
        rw[hi] at ih
        obtain ⟨y,h1,h2,h3,h4,h5,h6⟩:=ih
        refine ⟨y,by simpa using h1,h2,by simpa [getM,hk] using h3,by simpa [mJ,hk] using h4,by simpa [kO] using h5,fun v c=>?_⟩
        obtain ⟨g1,g2,g3⟩:=h6 v c
        exact ⟨by simp only[kO] at g1 ⊢; simp[cW,hk,g1],by simpa [cW,hk,mJ] using g2,by simp[cW,hk,g3]⟩
      | none =>
        rw[hi] at ih
        refine ⟨by simpa [getM,hk] using ih.1,by simpa [mJ,hk] using ih.2.1,fun v c=>?_⟩
        obtain ⟨g1,g2,g3⟩:=ih.2.2 v c
        exact ⟨by simp only[kO] at g1 ⊢; simp[cW,hk,g1],by simpa [cW,hk,mJ] using g2,by simp[cW,hk,g3]⟩
theorem CR.put {m:dp κ} {c:Nat} (h:CR m c) (k:κ) (v:V):CR (cW k v c m) (c+1):=by
  have hg:=Ed (kv:=fun _=>V.any) k m
  cases hj:jO k m with
  | some j =>
    rw[hj] at hg
    obtain ⟨y,_,_,_,_,_,h6⟩:=hg
    have e:=(h6 v c).2.2
    refine ⟨by rw[e]; exact h.1,fun x hx=>?_⟩
    have:x.2.2∈m.map (·.2.2):=by rw[← e]; exact List.mem_map.2 ⟨x,hx,rfl⟩
    obtain ⟨y,hy,e2⟩:=List.mem_map.1 this
    have:=h.2 y hy
    omega
  | none =>
    rw[hj] at hg
    have e:=(hg.2.2 v c).2.2
    refine ⟨?_,fun x hx=>?_⟩
    · rw[e,List.nodup_append]
      refine ⟨h.1,by simp,fun a ha b hb=>?_⟩
      simp at hb; subst hb
      obtain ⟨y,hy,rfl⟩:=List.mem_map.1 ha
      have:=h.2 y hy
      omega
    · have:x.2.2∈m.map (·.2.2) ++ [c]:=by rw[← e]; exact List.mem_map.2 ⟨x,hx,rfl⟩
      rcases List.mem_append.1 this with h1 | h1
      · obtain ⟨y,hy,e2⟩:=List.mem_map.1 h1
        have:=h.2 y hy
        omega
      · simp at h1; omega
variable {P:Program} {T:Env} {H:View} {kt et t ty:TypeId}
end
def uR (x:Item):List V:=[ak x.bd,ak x.dot,ak x.k9]
def P9 (x:Item):V:=.agg (uR x)
structure Qr (P:Program) (kt:TypeId):Prop where
  ty:∃ f0 f1 f2:Field,P.underlying kt=some (.struct #[f0,f1,f2])∧f0.name≠ "_" ∧ f1.name≠ "_" ∧ f2.name≠ "_" ∧ P.underlying f0.type=some (.int .i64)∧P.underlying f1.type=some (.int .i64)∧P.underlying f2.type=some (.int .i64)∧f0.offset=0∧f1.offset=1∧f2.offset=2
  held:P.stoodInHeld kt=false
def Qh (m:dp Item) (s:List Item) (B:Nat):Prop:=∀ x,(x∈s→∃ k:Nat,getM m x=some (ak k)∧1≤k∧k≤B)∧(x ∉ s→getM m x=none)
structure qB (H:View) (c sid mid:Nat) (sv:Nat→V) (mi:Nat→Nat) (mm:Nat→dp Item) (cl:Nat→Nat) (g:an) (p:List Int) (nu:V) (S S1:Nat→List Item) (B n:Nat) (K:List (Nat × bN)):Prop where
  box:H c=.arr 8 [[.aY (g.ax.map ct),encS g.av,.aY (g.rules.map aO),gi g.start,encI p,nu,.sl sid 0 n 1,.sl mid 0 n 1]]
  jH:H sid=.arr 1 ((List.range n).map fun j=>[sv j])
  seen:H mid=.arr 1 ((List.range n).map fun j=>[.mp (mi j)])
  set:∀ j,j < n→aX H (sv j) 3 ((S j).map uR)
  map:∀ j,j < n→H (mi j)=.map (kO P9 (mm j)) (cl j)∧CR (mm j) (cl j)∧Qh (mm j) (S1 j) B
  ne:sid≠mid
  y3:∀ i j o,i < n→j < n→owner (sv i)=some o→owner (sv j)=some o→i=j
  GC:∀ i j,i < n→j < n→mi i=mi j→i=j
  off:∀ q∈K,H q.1=q.2∧q.2≠.dead∧q.1≠sid∧(∀ j,j < n→q.1≠mi j)∧∀ j,j < n→owner (sv j)≠some q.1
def Ch (H:View) (c:Nat) (g:an) (p:List Int) (nu:V) (S:Nat→List Item) (B n:Nat) (K:List (Nat × bN)):Prop:=∃ sid mid sv mi mm cl,qB H c sid mid sv mi mm cl g p nu S S B n K
def wH (S:Nat→List Item) (a:Nat) (x:Item):Nat→List Item:=fun b=>if b=a then (if x∈S a then S a else S a ++ [x]) else S b
theorem Ch.more {H:View} {c:Nat} {g:an} {p:List Int} {nu:V} {S:Nat→List Item} {B B' n:Nat} {K:List (Nat × bN)} (h:Ch H c g p nu S B n K) (hB:B≤B'):Ch H c g p nu S B' n K:=by
  obtain ⟨sid,mid,sv,mi,mm,cl,h⟩:=h
  refine ⟨sid,mid,sv,mi,mm,cl,h.box,h.jH,h.seen,h.set,fun j hj=>⟨(h.map j hj).1,(h.map j hj).2.1,fun x=>⟨fun hx=>?_,((h.map j hj).2.2 x).2⟩⟩,h.ne,h.y3,h.GC,h.off⟩
  obtain ⟨k,h1,h2,h3⟩:=((h.map j hj).2.2 x).1 hx
  exact ⟨k,h1,h2,by omega⟩
theorem Ch.drop {H:View} {c:Nat} {g:an} {p:List Int} {nu:V} {S:Nat→List Item} {B n:Nat} {q:Nat × bN} {K:List (Nat × bN)} (h:Ch H c g p nu S B n (q :: K)):Ch H c g p nu S B n K:=by
  obtain ⟨sid,mid,sv,mi,mm,cl,h⟩:=h
  exact ⟨sid,mid,sv,mi,mm,cl,h.box,h.jH,h.seen,h.set,h.map,h.ne,h.y3,h.GC,fun q hq=>h.off q (by simp[hq])⟩
theorem qB.new {H:View} {c sid mid:Nat} {sv:Nat→V} {mi:Nat→Nat} {mm:Nat→dp Item} {cl:Nat→Nat} {g:an} {p:List Int} {nu:V} {S S1:Nat→List Item} {B n:Nat} {K:List (Nat × bN)} (h:qB H c sid mid sv mi mm cl g p nu S S1 B n K)
    {b:Nat} {o:bN} (hb:H b=.dead) (ho:o≠.dead):qB (H.set b o) c sid mid sv mi mm cl g p nu S S1 B n ((b,o) :: K):=by
  have keep:∀ id,H id≠.dead→(H.set b o) id=H id:=fun id hid=>by
    have e:id≠b:=by rintro rfl; exact hid hb
    simp[View.set,e]
  have live:∀ {id},H id≠.dead→b≠id:=fun hid e=>hid (e ▸ hb)
  refine ⟨?_,?_,?_,fun j hj=>?_,fun j hj=>?_,h.ne,h.y3,h.GC,fun q hq=>?_⟩
  · rw[keep _ (by rw[h.box]; simp)]; exact h.box
  · rw[keep _ (by rw[h.jH]; simp)]; exact h.jH
  · rw[keep _ (by rw[h.seen]; simp)]; exact h.seen
  · exact (h.set j hj).fresh hb
  · rw[keep _ (by rw[(h.map j hj).1]; simp)]; exact h.map j hj
  · rcases List.mem_cons.1 hq with rfl | hq
    · refine ⟨by simp[View.set],ho,live (by rw[h.jH]; simp),fun j hj=>live (by rw[(h.map j hj).1]; simp),fun j hj=>?_⟩
      have:=(h.set j hj).ne hb
      exact this
    · obtain ⟨h1,h2,h3⟩:=h.off q hq
      exact ⟨by rw[keep _ (by rw[h1]; exact h2)]; exact h1,h2,h3⟩
theorem Ch.new {H:View} {c:Nat} {g:an} {p:List Int} {nu:V} {S:Nat→List Item} {B n b:Nat} {o:bN} {K:List (Nat × bN)} (h:Ch H c g p nu S B n K) (hb:H b=.dead) (ho:o≠.dead):Ch (H.set b o) c g p nu S B n ((b,o) :: K):=by
  obtain ⟨sid,mid,sv,mi,mm,cl,h⟩:=h
  exact ⟨sid,mid,sv,mi,mm,cl,h.new hb ho⟩
theorem Ch.kept {H:View} {c:Nat} {g:an} {p:List Int} {nu:V} {S:Nat→List Item} {B n:Nat} {K:List (Nat × bN)} (h:Ch H c g p nu S B n K):∀ q∈K,H q.1=q.2:=by
  obtain ⟨sid,mid,sv,mi,mm,cl,h⟩:=h
  exact fun q hq=>(h.off q hq).1
theorem qB.Qk {H H':View} {c sid mid:Nat} {sv:Nat→V} {mi:Nat→Nat} {mm:Nat→dp Item} {cl:Nat→Nat} {g:an} {p:List Int} {nu:V} {S S1:Nat→List Item} {B n:Nat} {K:List (Nat × bN)} (h:qB H c sid mid sv mi mm cl g p nu S S1 B n K)
    {at0:Nat} (ha:at0 < n) {x:Item} (hx:¬ x∈S at0) {u':V} (ho:aX H' u' 3 ((S at0).map uR ++ [uR x])) (hl:Left H H' (sv at0) u') :
    qB (H'.set sid (.arr 1 (((List.range n).map fun j=>[sv j]).set at0 [u']))) c sid mid (fun j=>if j=at0 then u' else sv j) mi mm cl g p nu (wH S at0 x) S1 B n K:=by
  have own:∀ {id},owner (sv at0)=some id→H id=.arr 3 ((S at0).map uR):=fun hid=>((h.set at0 ha).live hid).1
  have n1:owner (sv at0)≠some sid:=fun e=>by
    have:=own e
    rw[h.jH] at this; simp at this
  have keep:∀ id,H id≠.dead→owner (sv at0)≠some id→H' id=H id∧owner u'≠some id:=hl
  have ns:=keep sid (by rw[h.jH]; simp) n1
  have keep2:∀ id,H id≠.dead→owner (sv at0)≠some id→id≠sid→(H'.set sid (.arr 1 (((List.range n).map fun j=>[sv j]).set at0 [u']))) id=H id:=fun id h1 h2 h3=>by
    simp only[View.set,if_neg h3]; exact (keep id h1 h2).1
  have no3:∀ {id o},H id=o→o≠.arr 3 ((S at0).map uR)→owner (sv at0)≠some id:=fun h1 h2 e=>h2 (by rw[← h1]; exact own e)
  refine ⟨?_,?_,?_,fun j hj=>?_,fun j hj=>?_,h.ne,fun i j o hi hj h1 h2=>?_,h.GC,fun q hq=>?_⟩
  · rw[keep2 c (by rw[h.box]; simp) (no3 h.box (by simp)) (by rintro rfl; have:=h.box; rw[h.jH] at this; simp at this)]; exact h.box
  · simp only[View.set,if_true]
    congr 1
    rw[AL]
    apply List.map_congr_left
    intro j _
    split <;> rfl
  · rw[keep2 mid (by rw[h.seen]; simp) (no3 h.seen (by simp)) h.ne.symm]; exact h.seen
  · by_cases e:j=at0
    · subst e
      simp only[if_true,wH,if_neg hx,List.map_append,List.map_cons,List.map_nil]
      exact ho.other ns.2
    · simp only[if_neg e,wH]
      refine (h.set j hj).keep fun id hid=>?_
      have hlv:=((h.set j hj).live hid).1
      refine keep2 id (by rw[hlv]; simp) (fun e2=>e (h.y3 j at0 id hj ha hid e2)) ?_
      rintro rfl; rw[h.jH] at hlv; simp at hlv
  · obtain ⟨g1,g2,g3⟩:=h.map j hj
    refine ⟨?_,g2,g3⟩
    rw[keep2 (mi j) (by rw[g1]; simp) (no3 g1 (by simp)) (by intro e; rw[e,h.jH] at g1; simp at g1)]; exact g1
  · by_cases e1:i=at0
    · by_cases e2:j=at0
      · omega
      · simp only[if_pos e1,if_neg e2] at h1 h2
        exfalso
        have hlv:=((h.set j hj).live h2).1
        exact (keep o (by rw[hlv]; simp) (fun e3=>e2 (h.y3 j at0 o hj ha h2 e3))).2 h1
    · by_cases e2:j=at0
      · simp only[if_neg e1,if_pos e2] at h1 h2
        exfalso
        have hlv:=((h.set i hi).live h1).1
        exact (keep o (by rw[hlv]; simp) (fun e3=>e1 (h.y3 i at0 o hi ha h1 e3))).2 h2
      · simp only[if_neg e1,if_neg e2] at h1 h2
        exact h.y3 i j o hi hj h1 h2
  · obtain ⟨h1,h2,h3,h4,h5⟩:=h.off q hq
    refine ⟨?_,h2,h3,h4,fun j hj=>?_⟩
    · rw[keep2 q.1 (by rw[h1]; exact h2) (h5 at0 ha) h3]; exact h1
    · by_cases e:j=at0
      · simp only[if_pos e]; exact (keep q.1 (by rw[h1]; exact h2) (h5 at0 ha)).2
      · simp only[if_neg e]; exact h5 j hj
inductive DB (g:an) (p:List Int):Int→Nat→Prop
  | start:DB g p g.start 0
  | step (R:aQ) (l1 l2:List Int) (n:Int) (f a:Nat):R∈g.rules→R.right=l1 ++ (-1 - n) :: l2→DB g p R.left f→Sp g p l1 f a→DB g p n a
def GI (g:an) (p:List Int) (x:Item):Prop:=∃ R,g.rules[x.bd]?=some R∧DB g p R.left x.k9
inductive Di (g:an) (p:List Int):Int→Nat→Prop
  | full (R:aQ) (l1 l2:List Int) (f:Nat):R∈g.rules→R.right=l1 ++ l2→Sp g p l1 f p.length→Di g p R.left f
  | deep (R:aQ) (l1 l2:List Int) (s:Int) (f a:Nat):R∈g.rules→R.right=l1 ++ s :: l2→s < 0→Sp g p l1 f a→a < p.length→Di g p (-1 - s) a→Di g p R.left f
theorem DB.len {g:an} {p:List Int} {n:Int} {a:Nat} (h:DB g p n a):a≤p.length:=by
  induction h with
  | start=>omega
  | step _ _ _ _ _ _ _ _ _ hs ih=>exact hs.len ih
theorem Mz {l:List Int} {d:Nat} {s:Int} (h:l[d]?=some s):l=l.take d ++ s :: l.drop (d+1):=by
  have h1:=(List.getElem?_eq_some_iff.1 h)
  obtain ⟨hl,he⟩:=h1
  rw[← he]
  simp
theorem GI.ask {g:an} {p:List Int} {a:Nat} {x:Item} (h:GI g p x) (hs:Sound g p a x) {R:aQ} (hR:g.rules[x.bd]?=some R) {s:Int} (hd:R.right[x.dot]?=some s):DB g p (-1 - s) a:=by
  obtain ⟨R1,h1,h2⟩:=h
  obtain ⟨R2,h3,_,_,h4⟩:=hs
  rw[hR] at h1 h3; simp at h1 h3; subst h1; subst h3
  refine .step R (R.right.take x.dot) (R.right.drop (x.dot+1)) (-1 - s) x.k9 a (List.mem_of_getElem? hR) ?_ h2 h4
  rw[show -1 - (-1 - s)=s by omega]
  exact Mz hd
theorem Sp.cut {g:an} {p:List Int} {k:Nat} {l:List Int} {i j:Nat} (h:Sp g p l i j):j≤k→Sp g (p.take k) l i j:=by
  induction h with
  | nil i=>exact fun _=>.nil i
  | term s l i j h0 hf h ih =>
    intro hk
    have:=h.le
    obtain ⟨c,hc,h2⟩:=hf
    exact .term s l i j h0 ⟨c,by rw[List.getElem?_take,if_pos (by omega)]; exact hc,h2⟩ (ih hk)
  | bU s l R i m j h0 hR hl h1 h2 ih1 ih2 =>
    intro hk
    have:=h2.le
    exact .bU s l R i m j h0 hR hl (ih1 (by omega)) (ih2 hk)
def Grow (a:Nat) (S S':Nat→List Item):Prop:=∀ b,S b <+: S' b∧(b < a→S' b=S b)
structure Good (g:an) (p:List Int) (S:Nat→List Item):Prop where
  nodup:∀ a,(S a).Nodup
  sound:∀ a x,x∈S a→Sound g p a x
  top:∀ a x,x∈S a→GI g p x
  out:∀ a,p.length < a→S a=[]
theorem Grow.refl (a:Nat) (S:Nat→List Item):Grow a S S:=fun _=>⟨List.prefix_refl _,fun _=>rfl⟩
theorem Grow.trans {a:Nat} {S S' S'':Nat→List Item} (h:Grow a S S') (h':Grow a S' S''):Grow a S S'':=fun b=>⟨(h b).1.trans (h' b).1,fun hb=>((h' b).2 hb).trans ((h b).2 hb)⟩
theorem Grow.mem {a b:Nat} {S S':Nat→List Item} (h:Grow a S S') {x:Item} (hx:x∈S b):x∈S' b:=(h b).1.subset hx
theorem Good.put {g:an} {p:List Int} {S:Nat→List Item} (h:Good g p S) {a:Nat} {x:Item} (hx:Sound g p a x) (ht:GI g p x) (ha:a≤p.length):Good g p (wH S a x):=by
  refine ⟨fun b=>?_,fun b y hy=>?_,fun b y hy=>?_,fun b hb=>?_⟩
  · unfold wH
    split
    · rename_i e
      subst e
      split
      · exact h.nodup _
      · rename_i hn
        rw[List.nodup_append]
        refine ⟨h.nodup _,by simp,fun u hu v hv=>?_⟩
        simp at hv
        rintro rfl
        exact hn (hv ▸ hu)
    · exact h.nodup _
  · unfold wH at hy
    split at hy
    · rename_i e
      subst e
      split at hy
      · exact h.sound _ _ hy
      · rcases List.mem_append.1 hy with hy | hy
        · exact h.sound _ _ hy
        · simp at hy; subst hy; exact hx
    · exact h.sound _ _ hy
  · unfold wH at hy
    split at hy
    · rename_i e
      subst e
      split at hy
      · exact h.top _ _ hy
      · rcases List.mem_append.1 hy with hy | hy
        · exact h.top _ _ hy
        · simp at hy; subst hy; exact ht
    · exact h.top _ _ hy
  · unfold wH
    rw[if_neg (by omega)]
    exact h.out b hb
theorem sy:∀ (N:Nat) (l:List Nat),l.Nodup→(∀ x∈l,x < N)→l.length≤N
  | 0,l,_,h=>by
    cases l with
    | nil=>simp
    | cons x l=>exact absurd (h x (by simp)) (by omega)
  | N+1,l,hd,h=>by
    by_cases e:N∈l
    · have h1:=sy N (l.erase N) (hd.erase N) fun x hx=>by
        have h2:=(hd.mem_erase_iff).1 hx
        have:=h x h2.2
        have:=h2.1
        omega
      rw[List.length_erase_of_mem e] at h1
      omega
    · have:=sy N l hd fun x hx=>by
        have:=h x hx
        have:x≠N:=by rintro rfl; exact e hx
        omega
      omega
theorem CA {α:Type} {f:α→Nat} : ∀ {l:List α},l.Nodup→(∀ x∈l,∀ y∈l,f x=f y→x=y)→(l.map f).Nodup
  | [],_,_=>by simp
  | x :: l,hd,h=>by
    rw[List.nodup_cons] at hd
    rw[List.map_cons,List.nodup_cons]
    refine ⟨fun hm=>?_,CA hd.2 fun a ha b hb=>h a (by simp[ha]) b (by simp[hb])⟩
    obtain ⟨y,hy,e⟩:=List.mem_map.1 hm
    have:=h y (by simp[hy]) x (by simp) e
    exact hd.1 (this ▸ hy)
theorem Sound.small {g:an} (hf:g.iw) {p:List Int} {a:Nat} {x:Item} (h:Sound g p a x):x.bd < 40∧x.dot < 7∧x.k9≤a:=by
  obtain ⟨R,hR,hd,hfr,_⟩:=h
  have h1:=(List.getElem?_eq_some_iff.1 hR).1
  have h2:=hf.rules
  have h3:=hf.right R (List.mem_of_getElem? hR)
  omega
theorem Good.len {g:an} (hf:g.iw) {p:List Int} (hp:p.length≤60) {S:Nat→List Item} (h:Good g p S) (a:Nat):(S a).length≤17080:=by
  by_cases ha:p.length < a
  · rw[h.out a ha]; simp
  · have hb:∀ x∈S a,x.bd < 40∧x.dot < 7∧x.k9 < 61:=fun x hx=>by
      have:=(h.sound a x hx).small hf
      omega
    have:=sy 17080 ((S a).map fun x=>x.bd * 427+x.dot * 61+x.k9) (CA (h.nodup a) fun x hx y hy e=>by
      have h1:=hb x hx
      have h2:=hb y hy
      cases x; cases y
      simp only at e h1 h2
      simp only[Item.mk.injEq]
      omega) (fun v hv=>by
      obtain ⟨x,hx,rfl⟩:=List.mem_map.1 hv
      have:=hb x hx
      omega)
    simpa using this
theorem Ch.box {H:View} {c:Nat} {g:an} {p:List Int} {nu:V} {S:Nat→List Item} {B n:Nat} {K:List (Nat × bN)} (h:Ch H c g p nu S B n K) :
    ∃ sid mid,H c=.arr 8 [[.aY (g.ax.map ct),encS g.av,.aY (g.rules.map aO),gi g.start,encI p,nu,.sl sid 0 n 1,.sl mid 0 n 1]]:=by
  obtain ⟨sid,mid,sv,mi,mm,cl,h⟩:=h
  exact ⟨sid,mid,h.box⟩
theorem Ch.set {H:View} {c:Nat} {g:an} {p:List Int} {nu:V} {S:Nat→List Item} {B n:Nat} {K:List (Nat × bN)} (h:Ch H c g p nu S B n K) {a:Nat} (ha:a < n) :
    ∃ (sid mid:Nat) (sv:Nat→V),H c=.arr 8 [[.aY (g.ax.map ct),encS g.av,.aY (g.rules.map aO),gi g.start,encI p,nu,.sl sid 0 n 1,.sl mid 0 n 1]]∧H sid=.arr 1 ((List.range n).map fun j=>[sv j])∧aX H (sv a) 3 ((S a).map uR):=by
  obtain ⟨sid,mid,sv,mi,mm,cl,h⟩:=h
  exact ⟨sid,mid,sv,h.box,h.jH,h.set a ha⟩
def P2 (g:an) (bU:Int) (S:Nat→List Item) (at_:Nat) (x:Item):Prop:=∀ R,g.rules[x.bd]?=some R→R.right[x.dot]?=some (-1 - bU)→(⟨x.bd,x.dot+1,x.k9⟩:Item)∈S at_
theorem Sound.on {g:an} {p:List Int} {f a:Nat} {x:Item} (h:Sound g p f x) {R:aQ} (hR:g.rules[x.bd]?=some R) {s:Int} (hs:R.right[x.dot]?=some s) (hsp:Sp g p [s] f a):Sound g p a ⟨x.bd,x.dot+1,x.k9⟩:=by
  obtain ⟨R',hR',h1,h2,h3⟩:=h
  rw[hR] at hR'; simp at hR'; subst hR'
  have hlt:=(List.getElem?_eq_some_iff.1 hs).1
  refine ⟨R,hR,hlt,Nat.le_trans h2 hsp.le,?_⟩
  have:R.right.take (x.dot+1)=R.right.take x.dot ++ [s]:=by rw[List.take_add_one,hs]; rfl
  rw[this]
  exact h3.app hsp
structure J5 (g:an) (p:List Int) (S:Nat→List Item) (a:Nat) (x:Item):Prop where
  term:∀ R s,g.rules[x.bd]?=some R→R.right[x.dot]?=some s→0≤s→oZ p a s→(⟨x.bd,x.dot+1,x.k9⟩:Item)∈S (a+1)
  pred:∀ R s i R',g.rules[x.bd]?=some R→R.right[x.dot]?=some s→s < 0→g.rules[i]?=some R'→R'.left = -1 - s→(⟨i,0,a⟩:Item)∈S a
  null:∀ R s,g.rules[x.bd]?=some R→R.right[x.dot]?=some s→s < 0→(aJ g false).getD (-1 - s).toNat false=true→(⟨x.bd,x.dot+1,x.k9⟩:Item)∈S a
  comp:∀ R,g.rules[x.bd]?=some R→x.dot=R.right.length→x.k9 < a→∀ y∈S x.k9,P2 g R.left S a y
theorem J5.grow {g:an} {p:List Int} {S S':Nat→List Item} {a:Nat} {x:Item} (h:J5 g p S a x) (hg:Grow a S S'):J5 g p S' a x where
  term:=fun R s h1 h2 h3 h4=>hg.mem (h.term R s h1 h2 h3 h4)
  pred:=fun R s i R' h1 h2 h3 h4 h5=>hg.mem (h.pred R s i R' h1 h2 h3 h4 h5)
  null:=fun R s h1 h2 h3 h4=>hg.mem (h.null R s h1 h2 h3 h4)
  comp:=fun R h1 h2 h3 y hy R' h4 h5=>hg.mem (h.comp R h1 h2 h3 y (by rw[(hg x.k9).2 h3] at hy; exact hy) R' h4 h5)
structure uC (H:View) (c sid:Nat) (u:V) (mi:Nat→Nat) (g:an) (p:List Int) (nu:V) (n k:Nat):Prop where
  box:H c=.arr 8 [[.aY (g.ax.map ct),encS g.av,.aY (g.rules.map aO),gi g.start,encI p,nu,.sl sid 0 n 1,u]]
  jH:H sid=.arr 1 ((List.range n).map fun _=>[.emp 1])
  seen:aX H u 1 ((List.range k).map fun j=>[.mp (mi j)])
  map:∀ j,j < k→H (mi j)=.map [] 0
  inj:∀ i j,i < k→j < k→mi i=mi j→i=j
theorem uC.N4 {H:View} {c sid:Nat} {u:V} {mi:Nat→Nat} {g:an} {p:List Int} {nu:V} {n k:Nat} (h:uC H c sid u mi g p nu n k) (hn:0 < n):owner u≠some sid:=fun e=>by
  have h1:=(h.seen.live e).1
  rw[h.jH] at h1
  simp only[bN.arr.injEq,true_and] at h1
  have h2:=congrArg (·[0]?) h1
  simp[hn] at h2
  by_cases hk:0 < k
  · simp[hk] at h2
  · have:k=0:=by omega
    subst this
    simp at h2
theorem uC.Qg {H:View} {c sid:Nat} {u:V} {mi:Nat→Nat} {g:an} {p:List Int} {nu:V} {n k:Nat} (h:uC H c sid u mi g p nu n k):owner u≠some c:=fun e=>by
  have h1:=(h.seen.live e).1
  rw[h.box] at h1
  simp at h1
theorem uC.Qo {H:View} {c sid:Nat} {u:V} {mi:Nat→Nat} {g:an} {p:List Int} {nu:V} {n:Nat} (h:uC H c sid u mi g p nu n n) (hn:0 < n):Ch H c g p nu (fun _=>[]) 0 n []:=by
  obtain ⟨mid,hu,hm⟩:=h.seen.sl (by simp; omega)
  have hoff:=h.N4 hn
  refine ⟨sid,mid,fun _=>.emp 1,mi,fun _=>[],fun _=>0,?_,h.jH,hm,fun j hj=>aX.nil,fun j hj=>⟨h.map j hj,?_,fun x=>⟨fun hx=>by simp at hx,fun _=>rfl⟩⟩,?_,fun i j o _ _ h1=>by simp[owner] at h1,fun i j hi hj e=>h.inj i j hi hj e,fun q hq=>by simp at hq⟩
  · have:=h.box
    rw[hu] at this
    simpa using this
  · exact ⟨by simp,fun x hx=>by simp at hx⟩
  · rintro rfl
    rw[hu] at hoff
    exact hoff rfl
theorem uC.next {H H2:View} {c sid m:Nat} {u u':V} {mi:Nat→Nat} {g:an} {p:List Int} {nu:V} {n k:Nat} (h:uC H c sid u mi g p nu n k) (hn:0 < n) (hm:H m=.dead) (ho:aX H2 u' 1 (((List.range k).map fun j=>[.mp (mi j)]) ++ [[.mp m]])) (hm2:H2 m=.map [] 0)
    (hl:∀ id,H id≠.dead→owner u≠some id→H2 id=H id∧owner u'≠some id) :
    uC (H2.set c (.arr 8 [[.aY (g.ax.map ct),encS g.av,.aY (g.rules.map aO),gi g.start,encI p,nu,.sl sid 0 n 1,u']])) c sid u' (fun j=>if j=k then m else mi j) g p nu n (k+1):=by
  have hC:=hl c (by rw[h.box]; simp) h.Qg
  have hS:=hl sid (by rw[h.jH]; simp) (h.N4 hn)
  have hcs:sid≠c:=by rintro rfl; have:=h.box; rw[h.jH] at this; simp at this
  have hmn:∀ j,j < k→mi j≠m:=fun j hj e=>by have:=h.map j hj; rw[e,hm] at this; simp at this
  refine ⟨by simp[View.set],?_,?_,fun j hj=>?_,fun i j hi hj e=>?_⟩
  · simp only[View.set,if_neg hcs]
    rw[hS.1]; exact h.jH
  · refine aX.other ?_ hC.2
    have:(List.range (k+1)).map (fun j=>[V.mp (if j=k then m else mi j)])=(List.range k).map (fun j=>[V.mp (mi j)]) ++ [[.mp m]]:=by
      rw[List.range_succ,List.map_append,List.map_cons,List.map_nil,if_pos rfl]
      congr 1
      apply List.map_congr_left
      intro j hj
      rw[if_neg (by have:=List.mem_range.1 hj; omega)]
    rw[this]; exact ho
  · by_cases e:j=k
    · simp only[if_pos e]
      have:m≠c:=by rintro rfl; rw[h.box] at hm; simp at hm
      simp only[View.set,if_neg this]
      exact hm2
    · simp only[if_neg e]
      have h1:=h.map j (by omega)
      have:mi j≠c:=by intro e2; rw[e2,h.box] at h1; simp at h1
      simp only[View.set,if_neg this]
      rw[(hl (mi j) (by rw[h1]; simp) (fun e2=>by have:=(h.seen.live e2).1; rw[h1] at this; simp at this)).1]
      exact h1
  · by_cases e1:i=k
    · by_cases e2:j=k
      · omega
      · simp only[if_pos e1,if_neg e2] at e
        exact absurd e.symm (hmn j (by omega))
    · by_cases e2:j=k
      · simp only[if_neg e1,if_pos e2] at e
        exact absurd e (hmn i (by omega))
      · simp only[if_neg e1,if_neg e2] at e
        exact h.inj i j (by omega) (by omega) e
def Kept (H H':View):Prop:=∀ id,H id≠.dead→H' id=H id
theorem Kept.refl (H:View):Kept H H:=fun _ _=>rfl
theorem Kept.trans {H H' H'':View} (h:Kept H H') (h':Kept H' H''):Kept H H'':=fun id hid=>by
  have h1:=h id hid
  rw[← h1] at hid
  rw[h' id hid,h1]
theorem Kept.new {H:View} {b:Nat} {o:bN} (hb:H b=.dead):Kept H (H.set b o):=fun id hid=>by
  have:id≠b:=by rintro rfl; exact hid hb
  simp[View.set,this]
def Ku (H:View) (c:Nat) (g:an) (p:List Int):Prop:=∃ nu sid mid n,H c=.arr 8 [[.aY (g.ax.map ct),encS g.av,.aY (g.rules.map aO),gi g.start,encI p,nu,.sl sid 0 n 1,.sl mid 0 n 1]]
theorem Ku.keep {H H':View} {c:Nat} {g:an} {p:List Int} (h:Ku H c g p) (hs:Kept H H'):Ku H' c g p:=by
  obtain ⟨nu,sid,mid,n,h⟩:=h
  exact ⟨nu,sid,mid,n,by rw[hs c (by rw[h]; simp)]; exact h⟩
abbrev Pt:=List (List Bool)
def D3 (P:Pt) (N M:Nat):Prop:=P.length=N∧∀ r∈P,r.length=M
def Pz (P:Pt):V:=.aY (P.map fun c=>[bw c])
theorem D3.row {P:Pt} {N M n:Nat} (h:D3 P N M) (hn:n < N):∃ r,P[n]?=some r∧r.length=M∧P.getD n []=r:=by
  have hl:n < P.length:=by rw[h.1]; exact hn
  exact ⟨P[n],List.getElem?_eq_getElem hl,h.2 _ (List.getElem_mem hl),by simp[List.getD_eq_getElem?_getD,hl]⟩
structure lP (H:View) (I N M:Nat) (R:Nat→Nat) (P:Pt):Prop where
  top:H I=.arr 1 ((List.range N).map fun n=>[.sl (R n) 0 M 1])
  row:∀ n,n < N→H (R n)=.arr 1 (bB (P.getD n []))
  inj:∀ n n',n < N→n' < N→R n=R n'→n=n'
structure D0 (H:View) (I N M k:Nat) (R:Nat→Nat):Prop where
  top:H I=.arr 1 ((List.range N).map fun n=>[if n < k then .sl (R n) 0 M 1 else .emp 1])
  row:∀ n,n < k→H (R n)=.arr 1 (List.replicate M [gb false])
  inj:∀ n n',n < k→n' < k→R n=R n'→n=n'
def Pk (N M:Nat):Pt:=List.replicate N (List.replicate M false)
def F3 (P:Pt) (n i:Nat):Pt:=P.set n ((P.getD n []).set i true)
theorem lP.P4 {H:View} {I N M:Nat} {R:Nat→Nat} {P:Pt} (h:lP H I N M R P) (hP:D3 P N M) (hM:0 < M) {n:Nat} (hn:n < N):I≠R n:=fun e=>by
  have h1:=h.row n hn
  obtain ⟨r,_,h2,h3⟩:=hP.row hn
  rw[← e,h.top,h3] at h1
  simp only[bN.arr.injEq,true_and] at h1
  exact yW (by omega) h1.symm fun _ _=>by simp
theorem lP.keep {H H':View} {I N M:Nat} {R:Nat→Nat} {P:Pt} (h:lP H I N M R P) (hk:∀ id,H id≠.dead→H' id=H id):lP H' I N M R P :=
  ⟨by rw[hk _ (by rw[h.top]; simp)]; exact h.top,fun n hn=>by rw[hk _ (by rw[h.row n hn]; simp)]; exact h.row n hn,h.inj⟩
theorem lP.put {H:View} {I N M:Nat} {R:Nat→Nat} {P:Pt} (h:lP H I N M R P) (hP:D3 P N M) {n i:Nat} (hn:n < N) (hi:i < M) :
    lP (H.set (R n) (.arr 1 (bB ((P.getD n []).set i true)))) I N M R (F3 P n i):=by
  have hI:=h.P4 hP (by omega) hn
  have hnl:n < P.length:=by rw[hP.1]; exact hn
  refine ⟨by simp only[View.set,if_neg hI]; exact h.top,fun m hm=>?_,h.inj⟩
  by_cases e:R m=R n
  · have:=h.inj m n hm hn e
    subst this
    simp only[View.set,if_true]
    congr 2
    simp[F3,List.getD_eq_getElem?_getD,hnl]
  · simp only[View.set,if_neg e]
    rw[h.row m hm]
    congr 2
    have:n≠m:=fun e2=>e (by rw[e2])
    simp[F3,List.getD_eq_getElem?_getD,this]
theorem lP.zd {H:View} {I N M:Nat} {R:Nat→Nat} {P:Pt} (hG:lP H I N M R P) (hP:D3 P N M):di H (.sl I 0 N 1) (Pz P):=by
  rintro h rfl
  refine c7.pF ?_
  refine .sl I 0 N 1 1 _ _ hG.top (by simp) (by simp[hP.1]) (fun n hn=>?_) (fun n j hn hj=>?_)
  · obtain ⟨r,hr,_⟩:=hP.row hn
    simp[List.getD_eq_getElem?_getD,hr,hn]
  · obtain ⟨r,hr,hrl,hrg⟩:=hP.row hn
    have e1:((P.map fun c=>[bw c]).getD n [])=[bw r]:=by simp[List.getD_eq_getElem?_getD,hr]
    have e2:(((List.range N).map fun n=>[V.sl (R n) 0 M 1]).getD (0+n) [])=[V.sl (R n) 0 M 1]:=by simp[List.getD_eq_getElem?_getD,hn]
    rw[e1] at hj ⊢
    rw[e2]
    have:j=0:=by simp at hj; omega
    subst this
    simp only[List.getD_cons_zero]
    have hro:=hG.row n hn
    rw[hrg] at hro
    have:=jB (h:=h) (id:=R n) (is:=r) hro
    rwa [hrl] at this
theorem D0.done {H:View} {I N M:Nat} {R:Nat→Nat} (h:D0 H I N M N R):lP H I N M R (Pk N M):=by
  refine ⟨?_,fun n hn=>?_,h.inj⟩
  · rw[h.top]
    congr 1
    apply List.map_congr_left
    intro n hn
    rw[if_pos (by simpa using hn)]
  · rw[h.row n hn]
    simp[Pk,List.getD_eq_getElem?_getD,hn]
theorem D0.next {H:View} {I N M k:Nat} {R:Nat→Nat} {r:Nat} (h:D0 H I N M k R) (hk:k < N) (hr:H r=.dead) :
    D0 ((H.set r (.arr 1 (List.replicate M [gb false]))).set I (.arr 1 ((List.range N).map fun n=>[if n < k+1 then .sl (if n=k then r else R n) 0 M 1 else .emp 1]))) I N M (k+1) (fun n=>if n=k then r else R n):=by
  have hI:r≠I:=by rintro rfl; rw[h.top] at hr; simp at hr
  have hRI:∀ n,n < k→R n≠I:=fun n hn e=>by
    have h1:=h.row n hn
    rw[e,h.top] at h1
    simp only[bN.arr.injEq,true_and] at h1
    have h2:=congrArg (·[0]?) h1
    simp only[List.getElem?_map,List.getElem?_range (show 0 < N by omega),List.getElem?_replicate] at h2
    split at h2 <;> simp at h2
    split at h2 <;> simp at h2
  have hRr:∀ n,n < k→R n≠r:=fun n hn e=>by have:=h.row n hn; rw[e,hr] at this; simp at this
  refine ⟨by simp[View.set],fun n hn=>?_,fun n n' hn hn' e=>?_⟩
  · by_cases e:n=k
    · simp only[if_pos e,View.set,if_neg hI,if_true]
    · simp only[if_neg e,View.set,if_neg (hRI n (by omega)),if_neg (hRr n (by omega))]
      exact h.row n (by omega)
  · by_cases e1:n=k
    · by_cases e2:n'=k
      · omega
      · simp only[if_pos e1,if_neg e2] at e
        exact absurd e.symm (hRr n' (by omega))
    · by_cases e2:n'=k
      · simp only[if_neg e1,if_pos e2] at e
        exact absurd e (hRr n (by omega))
      · simp only[if_neg e1,if_neg e2] at e
        exact h.inj n n' (by omega) (by omega) e
def L9:List Int:=[37,37,32,115,32,58,32,39,97,39,32,115,32,124,32,59]
def p0:an:=⟨[⟨⟨#[39,97,39]⟩,0,0⟩],[⟨#[115]⟩],[⟨0,[0,(-1)],0⟩,⟨0,[],(-1)⟩],0⟩
def L2:an:=⟨[⟨⟨#[39,97,39]⟩,0,0⟩,⟨⟨#[39,98,39]⟩,0,0⟩],[⟨#[115]⟩,⟨#[110]⟩],[⟨0,[(-1),(-1)],(-1)⟩,⟨0,[(-2),0,(-2),1],1⟩,⟨0,[],(-1)⟩,⟨1,[(-2)],(-1)⟩,⟨1,[],(-1)⟩],0⟩
theorem PL:cd Tryz.prog 41 [yF L9] (qn p0):=FD (by kernel_rfl)
section
variable {g:an} {p:List Int} {T:Tb} {N:Nat}
end
theorem n6 (p:List Int) (i:Nat):Sp L2 p [-2] i i:=.bU (-2) [] ⟨1,[],-1⟩ i i i (by decide) (by simp[L2]) (by decide) (.nil i) (.nil i)
theorem NP {g:an} (hr:bp g=true) {p l:List Int} {i j:Nat} (h:Sp g p l i j):dt l (aJ g true) true=true:=by
  induction h with
  | nil=>rfl
  | term s l i j h0 _ _ ih =>
    simp only[dt,List.all_cons,Bool.and_eq_true] at ih ⊢
    rw[if_pos h0]
    exact ⟨rfl,ih⟩
  | bU s l R i k j h0 hR hl _ _ ih1 ih2 =>
    have g1:=q5 hr hR ih1
    rw[hl] at g1
    simp only[dt,List.all_cons,Bool.and_eq_true] at ih2 ⊢
    rw[if_neg (by omega)]
    exact ⟨g1,ih2⟩
section
variable {g r:an} {p q:List Bool} {o:List Int}
theorem dR.sp (h:dR g p q o r) {w l:List Int} {i j:Nat} (hs:Sp g w l i j):(∀ s∈l,s < 0→-1 - s∈o)→Sp r w (l.map fun s=>if s < 0 then -1 - bh o (-1 - s) else s) i j:=by
  induction hs with
  | nil=>exact fun _=>.nil _
  | term s l i j h0 hf _ ih =>
    intro hl
    rw[List.map_cons,if_neg (by omega)]
    exact .term s _ i j h0 hf (ih fun s hs=>hl s (by simp[hs]))
  | bU s l R i k j h0 hR hle h1 _ ih1 ih2 =>
    intro hl
    have hso:=hl s (by simp) h0
    obtain ⟨R1,hR1,hk1,e1⟩:=h.from_ _ hso
    have hk:bD p q R=true:=by
      rw[bD,Bool.and_eq_true] at hk1 ⊢
      refine ⟨by rw[hle,← e1]; exact hk1.1,?_⟩
      rw[h.pe]
      exact NP h.right h1
    have hin:=(h.kept R hR hk).2
    have hm:bf (bh o) R∈r.rules:=by rw[h.rules]; exact List.mem_map.2 ⟨R,List.mem_filter.2 ⟨hR,hk⟩,rfl⟩
    have hb:=jT hso
    rw[List.map_cons,if_pos h0]
    exact .bU _ _ (bf (bh o) R) i k j (by omega) hm (by simp only[bf]; rw[hle]; omega) (ih1 hin) (ih2 fun s hs=>hl s (by simp[hs]))
end
theorem I4 {g:an} {p:List Int} {k:Nat} (hk:k≤p.length) {l:List Int} {i j:Nat} (h:Sp g p l i j):i≤k→k≤j →
    (∃ l1 l2,l=l1 ++ l2∧Sp g (p.take k) l1 i k)∨(∃ l1 s l2 a,l=l1 ++ s :: l2∧s < 0∧Sp g (p.take k) l1 i a∧a < k∧Di g (p.take k) (-1 - s) a):=by
  induction h with
  | nil i =>
    intro h1 h2
    have:i=k:=by omega
    subst this
    exact .inl ⟨[],[],rfl,.nil _⟩
  | term s l i j h0 hf hs ih =>
    intro h1 h2
    by_cases e:i=k
    · subst e; exact .inl ⟨[],s :: l,rfl,.nil _⟩
    · have hf':oZ (p.take k) i s:=by
        obtain ⟨c,hc,h3⟩:=hf
        exact ⟨c,by rw[List.getElem?_take,if_pos (by omega)]; exact hc,h3⟩
      rcases ih (by omega) h2 with ⟨l1,l2,e2,h3⟩ | ⟨l1,s',l2,a,e2,h3,h4,h5,h6⟩
      · exact .inl ⟨s :: l1,l2,by rw[e2]; rfl,.term s l1 i k h0 hf' h3⟩
      · exact .inr ⟨s :: l1,s',l2,a,by rw[e2]; rfl,h3,.term s l1 i a h0 hf' h4,h5,h6⟩
  | bU s l R i m j h0 hR hl hs1 hs2 ih1 ih2 =>
    intro h1 h2
    by_cases e:i=k
    · subst e; exact .inl ⟨[],s :: l,rfl,.nil _⟩
    · by_cases hm:m≤k
      · have c1:=hs1.cut (k:=k) hm
        rcases ih2 hm h2 with ⟨l1,l2,e2,h3⟩ | ⟨l1,s',l2,a,e2,h3,h4,h5,h6⟩
        · exact .inl ⟨s :: l1,l2,by rw[e2]; rfl,.bU s l1 R i m k h0 hR hl c1 h3⟩
        · exact .inr ⟨s :: l1,s',l2,a,by rw[e2]; rfl,h3,.bU s l1 R i m a h0 hR hl c1 h4,h5,h6⟩
      · have hlen:(p.take k).length=k:=by simp; omega
        refine .inr ⟨[],s,l,i,rfl,h0,.nil _,by omega,?_⟩
        rw[← hl]
        rcases ih1 h1 (by omega) with ⟨l1,l2,e2,h3⟩ | ⟨l1,s',l2,a,e2,h3,h4,h5,h6⟩
        · exact .full R l1 l2 i hR e2 (by rw[hlen]; exact h3)
        · exact .deep R l1 l2 s' i a hR e2 h3 h4 (by rw[hlen]; exact h5) h6
theorem Di.cut {g:an} {p:List Int} {k:Nat} (hk:k≤p.length) {n:Int} {f:Nat} (h:Di g p n f):f≤k→Di g (p.take k) n f:=by
  have hlen:(p.take k).length=k:=by simp; omega
  induction h with
  | full R l1 l2 f hR e hs =>
    intro hf
    rcases I4 hk hs hf hk with ⟨a1,a2,e2,h3⟩ | ⟨a1,s',a2,a,e2,h3,h4,h5,h6⟩
    · exact .full R a1 (a2 ++ l2) f hR (by rw[e,e2]; simp) (by rw[hlen]; exact h3)
    · exact .deep R a1 (a2 ++ l2) s' f a hR (by rw[e,e2]; simp) h3 h4 (by rw[hlen]; exact h5) h6
  | deep R l1 l2 s f a hR e h0 h1 h2 _ ih =>
    intro hf
    by_cases ha:a < k
    · exact .deep R l1 l2 s f a hR e h0 (h1.cut (by omega)) (by rw[hlen]; exact ha) (ih (by omega))
    · rcases I4 hk h1 hf (by omega) with ⟨a1,a2,e2,h3⟩ | ⟨a1,s',a2,b,e2,h3,h4,h5,h6⟩
      · exact .full R a1 (a2 ++ s :: l2) f hR (by rw[e,e2]; simp) (by rw[hlen]; exact h3)
      · exact .deep R a1 (a2 ++ s :: l2) s' f b hR (by rw[e,e2]; simp) h3 h4 (by rw[hlen]; exact h5) h6
theorem Sp.wide {g:an} {p p':List Int} (hp:∀ i s,oZ p i s→oZ p' i s) {l:List Int} {i j:Nat} (h:Sp g p l i j):Sp g p' l i j:=by
  induction h with
  | nil i=>exact .nil i
  | term s l i j h0 hf _ ih=>exact .term s l i j h0 (hp _ _ hf) ih
  | bU s l R i k j h0 hR hl _ _ ih1 ih2=>exact .bU s l R i k j h0 hR hl ih1 ih2
section
variable {fit:List Int→Bool} {T b:Nat}
end
def cn (l:List (List Int)):V:=.aY (l.map fun w=>[encI w])
theorem Ad (l:List (List Int)):Tree (cn l):=ee _ _ fun x _ v hv=>by
  simp at hv; subst hv; exact bQ x
abbrev LZ:=List (V × List Int)
def nz (b:LZ):List (List V):=b.map fun x=>[x.1]
def kx (H:View) (u:V) (out:List (List Int)):Prop:=∃ b:LZ,b.map (·.2)=out∧aX H u 1 (nz b)∧∀ x∈b,aX H x.1 1 (bq x.2)
theorem kx.nil {H:View} {k:Nat} : kx H (.emp k) []:=⟨[],rfl,.nil,by simp⟩
theorem kx.len {H:View} {u:V} {out:List (List Int)} (h:kx H u out):dM u=some out.length:=by
  obtain ⟨b,rfl,ho,_⟩:=h
  rw[ho.len]; simp[nz]
theorem kx.cells {H:View} {u:V} {out:List (List Int)} (h:kx H u out):V.cells u=[u]∧aT u=true:=by
  obtain ⟨b,_,ho,_⟩:=h
  exact ⟨ho.cells,ho.gL⟩
theorem Ny {H:View} {u:V} {b:LZ} (ho:aX H u 1 (nz b)) (hb:∀ x∈b,aX H x.1 1 (bq x.2)) {x:V × List Int} (hx:x∈b) {id:Nat} (hid:owner x.1=some id):owner u≠some id:=by
  intro e
  have h1:=(ho.live e).1
  have h2:=((hb x hx).live hid).1
  rw[h2] at h1
  simp only[bN.arr.injEq,true_and] at h1
  cases b with
  | nil=>simp at hx
  | cons y r =>
    have h3:=hb y (by simp)
    cases hw:x.2 with
    | nil=>rw[hw] at h1; simp[nz] at h1
    | cons c w =>
      rw[hw] at h1
      simp only[nz,List.map_cons,List.cons.injEq] at h1
      rcases h3 with ⟨_,k,e2⟩ | ⟨n,e2,_⟩
      · rw[e2] at h1; simp at h1
      · rw[e2] at h1; simp at h1
theorem kx.keep {H H':View} {u:V} {out:List (List Int)} (h:kx H u out) (hk:∀ id,H id≠.dead→H' id=H id):kx H' u out:=by
  obtain ⟨b,e,ho,hb⟩:=h
  exact ⟨b,e,ho.keep fun id hid=>hk id (by rw[(ho.live hid).1]; simp),fun x hx=>(hb x hx).keep fun id hid=>hk id (by rw[((hb x hx).live hid).1]; simp)⟩
theorem kx.add {H H':View} {u u' v:V} {b:LZ} {w:List Int} (ho:aX H u 1 (nz b)) (hb:∀ x∈b,aX H x.1 1 (bq x.2)) (hv:aX H v 1 (bq w)) (hd:∀ id,owner v=some id→owner u≠some id)
    (h1:aX H' u' 1 (nz b ++ [[v]])) (h2:Left H H' u u'):kx H' u' (b.map (·.2) ++ [w]):=by
  refine ⟨b ++ [(v,w)],by simp,by simpa [nz] using h1,fun x hx=>?_⟩
  rcases List.mem_append.1 hx with hx | hx
  · exact (hb x hx).left h2 fun id hid=>Ny ho hb hx hid
  · simp at hx; subst hx
    exact hv.left h2 hd
theorem kx.OM {h:aE} {u:V} {out:List (List Int)} (ho:kx h.view u out):c7 h u (cn out):=by
  obtain ⟨b,rfl,ho,hb⟩:=ho
  have hg:∀ i (hi:i < b.length),(nz b).getD i []=[(b[i]).1]∧(((b.map (·.2)).map fun w=>[encI w]).getD i [])=[encI (b[i]).2]:=fun i hi=>by
    simp[nz,List.getD_eq_getElem?_getD,hi]
  refine c7.own ho (by simp[nz]) (fun i hi=>?_) (fun i j hi hj=>?_)
  · have hi':i < b.length:=by simpa [nz] using hi
    rw[(hg i hi').1,(hg i hi').2]; rfl
  · have hi':i < b.length:=by simpa [nz] using hi
    rw[(hg i hi').2] at hj ⊢
    rw[(hg i hi').1]
    have:j=0:=by simp at hj; omega
    subst this
    simp only[List.getD_cons_zero]
    exact c7.JM (hb _ (List.getElem_mem hi'))
def Gz (H:View) (v:V) (p:List Int):Prop:=v=encI p∨(p≠[]∧∃ n,v=.sl n 0 p.length 1∧H n=.arr 1 (bq p))
theorem Gz.zd {H:View} {v:V} {p:List Int} (h:Gz H v p):di H v (encI p):=by
  rcases h with rfl | ⟨_,n,rfl,hn⟩
  · exact .tree (bQ p)
  · exact zX hn rfl
theorem Gz.len {H:View} {v:V} {p:List Int} (h:Gz H v p):dM v=some p.length:=by
  rcases h with rfl | ⟨_,n,rfl,hn⟩
  · simp[encI,dM]
  · rfl
def rJ (H H':View) (f:Nat) (u u':V):Prop:=∀ id,H id≠.dead→id≠f→owner u≠some id→H' id=H id∧owner u'≠some id
theorem rJ.refl {H:View} {f:Nat} {u:V} : rJ H H f u u:=fun _ _ _ h=>⟨rfl,h⟩
theorem rJ.trans {H H1 H2:View} {f:Nat} {u u1 u2:V} (h1:rJ H H1 f u u1) (h2:rJ H1 H2 f u1 u2):rJ H H2 f u u2:=fun id hd hf hu=>by
  obtain ⟨a,b⟩:=h1 id hd hf hu
  obtain ⟨c,d⟩:=h2 id (by rw[a]; exact hd) hf b
  exact ⟨c.trans a,d⟩
theorem rJ.kept {H H':View} {f:Nat} {u:V} (h:∀ id,H id≠.dead→H' id=H id):rJ H H' f u u:=fun id hd _ hu=>⟨h id hd,hu⟩
theorem FA {H:View} {u:V} {sz f z:Nat} {es:List (List V)} {e:List (List V)} (ho:aX H u sz es) (hf:H f=.arr z e) (hz:sz≠z):owner u≠some f:=fun e2=>by
  have:=(ho.live e2).1
  rw[hf] at this
  simp only[bN.arr.injEq] at this
  exact hz this.1.symm
theorem kx.box {H:View} {u:V} {out:List (List Int)} {f:Nat} {e:List (List V)} {o:bN} (h:kx H u out) (hf:H f=.arr 6 e):kx (H.set f o) u out:=by
  obtain ⟨b,e1,ho,hb⟩:=h
  exact ⟨b,e1,ho.other (FA ho hf (by decide)),fun x hx=>(hb x hx).other (FA (hb x hx) hf (by decide))⟩
def tR:SC :=
  .seq (al [aR 26 .lss 25 24]) <|
  .seq (.cond (.tmp 26) (.skip) (.exit 2)) <|
  .seq (.block 3 (.seq (al [aP 27 1 23 25,ao 28 27,ae 9 28]) <|
  .seq (.region false [⟨none,[ae 29 9,az 30 .geq 29 0,ae 31 30]⟩,⟨(some (31,true)),[ae 32 9,ae 33 5,aL 34 33,aR 35 .lss 32 34]⟩,⟨none,[bO 36 31 35]⟩]) <|
  .cond (.tmp 36) (al [ae 37 5,ae 38 9,aP 39 1 37 38,(none,.op (.store 1 (.tmp 39) (.val (.val (.bool true)))))]) (.skip))) <|
  al [az 40 .add 25 1,ae 25 40]
def tg:SC :=
  .seq (al [aR 20 .lss 19 18]) <|
  .seq (.cond (.tmp 20) (.skip) (.exit 0)) <|
  .seq (.block 1 (.seq (al [aP 21 1 17 19,ao 22 21,ae 7 22]) <|
  .seq (al [ae 23 7,aL 24 23,aH 25 0]) <|
  .block 2 (.loop tR))) <|
  al [az 41 .add 19 1,ae 19 41]
def vS:SF:=⟨.seq (al [cM 2 0,((some 4),.op (.bc (.val (.emp 1))))]) <|
  .seq (.seq (al [aU 10 4 2,aN 11 45 [10],bZ 12 11]) <|
  .cond (.tmp 12) (.seq (al [((some 4),.op (.bc (.val (.emp 1))))]) <|
  .ret) (.skip)) <|
  .seq (al [au 13 2 2,ao 14 13,aL 15 14,((some 16),.op (.make 1 1 [(.val (.bool false))] (.tmp 15) (.tmp 15))),ae 5 16]) <|
  .seq (.seq (al [ae 17 1,aL 18 17,aH 19 0]) <|
  .block 0 (.loop tg)) <|
  .seq (al [ae 42 5,ae 4 42]) <|
  .ret,
  [.tmp 4],43⟩
theorem Ao:aW Tryz.prog 36 [2]=some vS:=by kernel_rfl
def im (o:List Bool) (x:Int):List Bool:=if 0≤x∧x < o.length then o.set x.toNat true else o
def kQ (o:List Bool) (t:List Int):List Bool:=t.foldl im o
theorem Lr (o:List Bool) (x:Int):(im o x).length=o.length:=by unfold im; split <;> simp
theorem oX:∀ (t:List Int) (o:List Bool),(kQ o t).length=o.length:=by
  intro t
  induction t with
  | nil=>intro o; rfl
  | cons x t ih=>intro o; exact (ih (im o x)).trans (Lr o x)
theorem LJ (o:List Bool) (x:Int) (i:Nat):(im o x)[i]?=(o[i]?).map fun b=>b || decide ((i:Int)=x):=by
  unfold im
  split
  · rename_i h
    rw[List.getElem?_set]
    split
    · rename_i hi
      rw[if_pos (by omega)]
      have:o[i]?=some (o[i]'(by omega)):=List.getElem?_eq_getElem (by omega)
      rw[this]
      simp; omega
    · rename_i hi
      cases o[i]? with
      | none=>rfl
      | some b=>simp; omega
  · rename_i h
    by_cases hi:i < o.length
    · rw[List.getElem?_eq_getElem hi]
      simp; omega
    · rw[List.getElem?_eq_none (by omega)]; rfl
theorem Ik:∀ (t:List Int) (o:List Bool) (i:Nat),(kQ o t)[i]?=(o[i]?).map fun b=>b || decide ((i:Int)∈t):=by
  intro t
  induction t with
  | nil=>intro o i; simp[kQ]
  | cons x t ih =>
    intro o i
    have h:=ih (im o x) i
    rw[LJ] at h
    refine Eq.trans h ?_
    cases o[i]? with
    | none=>rfl
    | some b=>simp[Bool.or_assoc]
theorem xX:∀ (l:List (List Int)) (o:List Bool) (i:Nat),(l.foldl kQ o)[i]?=(o[i]?).map fun b=>b || l.any fun t=>decide ((i:Int)∈t):=by
  intro l
  induction l with
  | nil=>intro o i; simp
  | cons t l ih =>
    intro o i
    rw[List.foldl_cons,ih,Ik]
    cases o[i]? with
    | none=>rfl
    | some b=>simp[Bool.or_assoc]
theorem Jl (g:an) (l:List (List Int)) (h:bp g=true):l.foldl kQ (List.replicate g.rules.length false)=AD g l:=by
  rw[AD,if_pos h]
  refine List.ext_getElem? fun i=>?_
  rw[xX,List.getElem?_map]
  by_cases hi:i < g.rules.length
  · rw[List.getElem?_eq_getElem (by simpa using hi),List.getElem?_eq_getElem (by simpa using hi)]
    simp
  · rw[List.getElem?_eq_none (by simp; omega),List.getElem?_eq_none (by simp; omega)]; rfl
theorem MV (g:an) (l:List (List Int)):∀ v∈[V.agg (ar g),cn l],Tree v:=by
  intro v hv; simp at hv
  rcases hv with rfl | rfl
  · exact cE _ (cR g)
  · exact Ad l
set_option maxHeartbeats 4000000 in
theorem J1 (g:an) (hg:g.Ok) (hsm:g.Small) (l:List (List Int)) (hl:aM l) (hs:∀ w∈l,aM w):cd Tryz.prog 36 [.agg (ar g),cn l] (bw (AD g l)):=by
  refine cd.of (MV g l) ?_
  have hc:=lD g hg hsm.names
  unfold aM at hl
  refine aA.of mixed Ao ?_
  simp only[ar,encS] at hc
  simp (disch:=omega) only [↓wr,↓reduceIte,wq,ai,Nat.reduceEqDiff,Nat.reduceAdd,Nat.reduceLeDiff,vS,ar,encS]
  refine aF.pure hc (by kernel_rfl) ?_
  simp (disch:=omega) only [↓wr,↓reduceIte,wq]
  refine aq.split (fun hr=>?_) (fun hr=>?_)
  · have hf:=aZ hr
    obtain ⟨hR1,hR2⟩:=And.intro hf.DD hf.rules
    simp (disch:=omega) only [↓wr,↓reduceIte,wq,ak,Nat.reduceEqDiff,Nat.reduceAdd,Nat.reduceLT,cn]
    refine ⟨⟨by omega,by unfold aI; omega,by unfold aI; omega⟩,fun hz=>by omega,fun _ m=>?_⟩
    try simp (disch:=omega) only [↓wr,↓reduceIte,wq,ai,ah,ak,aa,af,ag,aj,isNil,Nat.reduceEqDiff,Nat.reduceAdd,Nat.reduceLT,Nat.reduceLeDiff,Int.reduceNeg,Int.reduceToNat,reduceCtorEq,cn]
    refine bb.up l.length (fun i T H'=>∃ is:List Bool,(l.take i).foldl kQ (List.replicate g.rules.length false)=is∧T 17=cn l∧T 18=gi l.length∧T 5=.sl m 0 g.rules.length 1∧H' m=.arr 1 (bB is)∧T 19=gi i) ?_ ?_
    · refine ⟨_,rfl,rfl,rfl,rfl,?_,rfl⟩
      simp[View.set,bB]
    · rintro i k T H' hk ⟨is,hi,t1,t2,t5,hm1,t6⟩
      have hlen:is.length=g.rules.length:=by
        rw[← hi]
        have:∀ (q:List (List Int)) (o:List Bool),(q.foldl kQ o).length=o.length:=by
          intro q
          induction q with
          | nil=>intro o; rfl
          | cons x q ih=>intro o; exact (ih _).trans (oX x o)
        rw[this]; simp
      simp (disch:=omega) only [↓wr,↓reduceIte,wq,ah,reduceCtorEq,tg,t2,t6,cn]
      refine aq.dec (fun hc=>?_) (fun hc=>?_)
      · have h2:l[i]?=some (l[i]'(by omega)):=List.getElem?_eq_getElem (by omega)
        have htk:l.take (i+1)=l.take i ++ [l[i]'(by omega)]:=by rw[List.take_add_one,h2]; rfl
        have hw:=hs _ (List.mem_of_getElem? h2)
        generalize l[i]'(by omega)=w at h2 htk hw
        unfold aM at hw
        simp (disch:=omega) only [↓wr,↓reduceIte,wq,ak,Nat.reduceEqDiff,Nat.reduceLT,t1,t6,cn,encI,List.getElem?_map,h2]
        refine bb.up w.length (fun j T H'=>∃ js:List Bool,(w.take j).foldl im is=js∧T 17=cn l∧T 18=gi l.length∧T 5=.sl m 0 g.rules.length 1∧H' m=.arr 1 (bB js)∧T 19=gi i∧T 23=encI w∧T 24=gi w.length∧T 25=gi j) ?_ ?_
        · exact ⟨is,rfl,t1,t2,t5,hm1,t6,rfl,rfl,rfl⟩
        · rintro j k' T' H'' hk' ⟨js,hj,e1,e2,e5,em,e6,e7,e8,e9⟩
          have hjl:js.length=g.rules.length:=by rw[← hj,← hlen]; exact oX _ _
          simp (disch:=omega) only [↓wr,↓reduceIte,wq,ah,tR,e8,e9,cn,encI]
          refine aq.dec (fun hd=>?_) (fun hd=>?_)
          · have h3:w[j]?=some (w[j]'(by omega)):=List.getElem?_eq_getElem (by omega)
            have htj:w.take (j+1)=w.take j ++ [w[j]'(by omega)]:=by rw[List.take_add_one,h3]; rfl
            generalize w[j]'(by omega)=x at h3 htj
            have hn:(w.take (j+1)).foldl im is=im js x:=by rw[htj,List.foldl_append,hj]; rfl
            simp (disch:=omega) only [↓wr,↓reduceIte,wq,ah,Nat.reduceEqDiff,Nat.reduceLT,e7,e9,encI,List.getElem?_map,h3]
            have keep:¬(0≤x∧x < js.length)→im js x=js:=fun h=>by rw[im,if_neg h]
            refine aq.dec (fun hx=>?_) (fun hx=>?_)
            · simp (disch:=omega) only [↓wr,↓reduceIte,wq,ah,ak,Nat.reduceEqDiff,e5]
              refine aq.dec (fun hy=>?_) (fun hy=>?_)
              · simp (disch:=omega) only [↓wr,↓reduceIte,wq,ah,aa,Nat.reduceEqDiff,Nat.reduceLeDiff,reduceCtorEq,e5,e6,e9,em]
                refine ⟨by omega,by omega,aK hk' (by omega) ⟨_,by rw[hn,im,if_pos ⟨by omega,by omega⟩],e1,e2,e5,?_,e6,e7,e8,rfl⟩⟩
                rw[fN (by omega),← dN]
                simp[View.set]
              · simp (disch:=omega) only [↓wr,↓reduceIte,wq,ah,Nat.reduceEqDiff,reduceCtorEq,e5,e6,e9]
                exact aK hk' (by omega) ⟨js,by rw[hn,keep (by omega)],e1,e2,e5,em,e6,e7,e8,rfl⟩
            · simp (disch:=omega) only [↓wr,↓reduceIte,wq,ah,Nat.reduceEqDiff,reduceCtorEq,e5,e6,e9]
              exact aK hk' (by omega) ⟨js,by rw[hn,keep (by omega)],e1,e2,e5,em,e6,e7,e8,rfl⟩
          · rw[List.take_of_length_le (by omega)] at hj
            simp (disch:=omega) only [↓wr,↓reduceIte,wq,Nat.reduceEqDiff,reduceCtorEq,e5,e6]
            refine aK hk (by omega) ⟨_,rfl,e1,e2,e5,?_,rfl⟩
            rw[htk,List.foldl_append,hi,List.foldl_cons,List.foldl_nil,kQ,hj]
            exact em
      · rw[List.take_of_length_le (by omega)] at hi
        simp (disch:=omega) only [↓wr,↓reduceIte,wq,Nat.reduceEqDiff,reduceCtorEq,t5]
        rintro h' rfl
        rw[← Jl g l hr,hi,← hlen]
        exact jB hm1
  · simp (disch:=omega) only [↓wr,↓reduceIte,wq,reduceCtorEq]
    intro h' _
    rw[AD,if_neg (by rw[hr]; simp)]
    exact .emp _
theorem zn {g:an} {p:Int} {inn:List Int} : ∀ (l m:List Int) (i:Int),cD g p inn i (l ++ m)=match cD g p inn i l with
    | some a=>(cD g p inn (i+l.length) m).map (a ++ ·)
    | none=>none:=by
  intro l
  induction l with
  | nil=>intro m i; simp[cD]
  | cons s l ih =>
    intro m i
    have e:i+((s :: l).length:Nat)=i+1+(l.length:Nat):=by simp; omega
    rw[List.cons_append,cD,cD,e,ih]
    split
    · rfl
    · split
      · cases cD g p inn (i+1) l with
        | none=>rfl
        | some a=>cases cD g p inn (i+1+(l.length:Nat)) m <;> simp
      · split
        · cases cD g p inn (i+1) l with
          | none=>rfl
          | some a=>cases cD g p inn (i+1+(l.length:Nat)) m <;> simp
        · rfl
theorem Ek (g:an) (n:Int):(gO g n).1.length≤300:=by
  unfold gO
  split
  · rename_i hc
    simp only[Bool.and_eq_true,decide_eq_true_eq] at hc
    split
    · simp
    · rename_i hk
      split
      · simp
      · rename_i hz
        have hkn:bt (aw g) n.toNat:=by unfold bt; omega
        have hall:=(KA hc.1.2 hkn).2
        have hso:=A0 hc.1.2 hkn
        have htl:=B2 hall (by rw[hso.1]; omega)
        rw[hso.1] at htl
        simp only
        omega
  · simp
theorem Gm {g:an} {p:Int} {inn:List Int} (hi:inn.length≤300):∀ (l:List Int) (i:Int) (a:List Int),cD g p inn i l=some a→a.length≤300 * l.length:=by
  intro l
  induction l with
  | nil=>intro i a h; simp[cD] at h; subst h; simp
  | cons s l ih =>
    intro i a h
    rw[cD] at h
    have ht:=Ek g (-1 - s)
    simp only[List.length_cons]
    split at h
    · have:=ih _ _ h; omega
    · split at h
      · simp only[Option.map_eq_some_iff] at h
        obtain ⟨b,h1,rfl⟩:=h
        have:=ih _ _ h1
        simp; omega
      · split at h
        · simp only[Option.map_eq_some_iff] at h
          obtain ⟨b,h1,rfl⟩:=h
          have:=ih _ _ h1
          simp; omega
        · simp at h
theorem Dl {h:aE} {u:V} {x:List Int × Bool} (hu:c7 h u (encI x.1)):c7 h (.bo [u,gb x.2]) (.bo [encI x.1,gb x.2]):=yI hu (.val _)
section
variable {P:Program} {T:Env} {H:View} {K:V→View→Prop} {w:cF (T,H,K)} {t t1 e ty:TypeId}
theorem IP {x:Operand} {k:Nat} (he:cB P t=some e) (hx:ev T x=.emp k) (hk:K (ak 0) H):ot P (.call { callee:=.builtin .cap,args:=#[x],argTypes:=#[t] }) ty T H K w:=by
  intro n _
  refine ⟨ak 0,.none,[],?_,hk⟩
  simp[sI,bX,oper,Bj,he,hx]
theorem Ms {s x:Operand} {k l sz bytes:Nat} {z:List V} (he:rp P t=some (sz,bytes,z)) (hd:mr P t1=false) (hi:isInt P t1=true) (hs:ev T s=.emp k) (hx:ev T x=ak l) (h0:l≠0)
    (h1:l * bytes < aI) (h2:l < aI) (hk:∀ n,H n=.dead→K (.sl n 0 l sz) (H.set n (.arr sz (List.replicate l z)))) :
    ot P (.call { callee:=.builtin .append,args:=#[s,x],argTypes:=#[t,t1] }) ty T H K w:=by
  obtain ⟨e,ti,hse,_,hti,hz,hzl,hzok,hs0,rfl,rfl⟩:=nK he
  intro n hn
  refine ⟨.sl n 0 l ti.size,.new (.arr ti.size (List.replicate l z)),[],?_,hk n hn⟩
  have ha:asNat (ak l)=some l:=by simp[asNat,ak]
  have key:qg P t (.emp k) (ak l) n=some (.sl n 0 l ti.size,.new (.arr ti.size (List.replicate l z)),[]):=by
    unfold qg
    rw[hse,ha]
    simp only[hti,hz,if_neg h0]
    rw[if_pos ⟨hzl,hzok,hs0,h1,h2⟩]
  simp[sI,bX,oper,hd,hi,hs,hx,key]
end
def jN:SF:=⟨.seq (al [((some 4),.op (.bc (.val (.emp 1))))]) <|
  .seq (.seq (al [ae 5 1,az 6 .lss 5 0]) <|
  .cond (.tmp 6) (.region false [⟨none,[((some 7),.op (.old (.makeInterface 9 (.const (.string ⟨#[99,97,110,110,111,116,32,98,101,32,110,101,103,97,116,105,118,101]⟩))) 20)),(none,.op (.old (.panic (.tmp 7)) 0))]⟩]) (.skip)) <|
  .seq (.seq (al [ae 8 1,ae 9 0,((some 10),.op (.old (.call { callee:=.builtin .cap,args:=#[(.tmp 9)],argTypes:=#[31] }) 3)),ae 11 0,aL 12 11,aR 13 .sub 10 12,aR 14 .sub 8 13,ae 1 14]) <|
  .seq (al [ae 15 1,az 16 .gtr 15 0]) <|
  .cond (.tmp 16) (al [ae 17 0,ae 18 0,((some 19),.op (.old (.call { callee:=.builtin .cap,args:=#[(.tmp 18)],argTypes:=#[31] }) 3)),((some 20),.op (.slice 1 (.tmp 17) none (some (.tmp 19)))),ae 21 1,((some 22),.op (.old (.call { callee:=.builtin .append,args:=#[(.tmp 20),(.tmp 21)],argTypes:=#[31,3] }) 31)),ae 23 0,aL 24 23,((some 25),.op (.slice 1 (.tmp 22) none (some (.tmp 24)))),ae 0 25]) (.skip)) <|
  .seq (al [ae 26 0,ae 4 26]) <|
  .ret,
  [.tmp 4],27⟩
theorem oF:aW Tryz.prog 128 []=some jN:=by kernel_rfl
def gZ:SC :=
  .seq (al [aR 12 .lss 11 10]) <|
  .seq (.cond (.tmp 12) (.skip) (.exit 0)) <|
  .seq (.block 1 (.seq (al [aP 13 1 9 11,ao 14 13,ae 5 14]) <|
  .seq (al [ae 15 3,ae 16 5,aL 17 16,aR 18 .add 15 17,ae 3 18]) <|
  .seq (al [ae 19 3,az 20 .lss 19 0]) <|
  .cond (.tmp 20) (.region false [⟨none,[((some 21),.op (.old (.makeInterface 9 (.const (.string ⟨#[108,101,110,32,111,117,116,32,111,102,32,114,97,110,103,101]⟩))) 20)),(none,.op (.old (.panic (.tmp 21)) 0))]⟩]) (.skip))) <|
  al [az 22 .add 11 1,ae 11 22]
def hX:SC :=
  .seq (al [aR 28 .lss 27 26]) <|
  .seq (.cond (.tmp 28) (.skip) (.exit 2)) <|
  .seq (.block 3 (.seq (al [aP 29 1 25 27,ao 30 29,ae 8 30]) <|
  al [ae 31 6,ae 32 8,((some 33),.op (.app 1 8 (.tmp 31) (.tmp 32))),ae 6 33])) <|
  al [az 34 .add 27 1,ae 27 34]
def iK:SF:=⟨.seq (al [((some 2),.op (.bc (.val (.emp 1))))]) <|
  .seq (al [aH 3 0]) <|
  .seq (.seq (al [ae 9 0,aL 10 9,aH 11 0]) <|
  .block 0 (.loop gZ)) <|
  .seq (al [ae 23 3,cT 24 128 [(.val (.emp 1)),(.tmp 23)],ae 6 24]) <|
  .seq (.seq (al [ae 25 0,aL 26 25,aH 27 0]) <|
  .block 2 (.loop hX)) <|
  .seq (al [ae 35 6,ae 2 35]) <|
  .ret,
  [.tmp 2],36⟩
theorem mY:aW Tryz.prog 76 []=some iK:=by kernel_rfl
theorem G9 (n:Nat) (hn:n≤100000) (H:View):aA Tryz.prog 128 [.emp 1,gi n] H fun r H'=>(n=0∧r=.emp 1∧H'=H)∨(0 < n∧∃ m es,H m=.dead∧r=.sl m 0 0 1∧H'=H.set m (.arr 1 es)):=by
  refine aA.of mixed oF ?_
  simp (disch:=omega) only [↓wr,↓reduceIte,wq,ai,ah,Nat.reduceEqDiff,Nat.reduceAdd,Nat.reduceLeDiff,jN]
  refine aq.dec (fun h=>absurd h (by omega)) (fun _=>?_)
  simp (disch:=omega) only [↓wr,↓reduceIte,wq,Nat.reduceEqDiff,reduceCtorEq]
  refine IP (k:=1) (e:=3) (by kernel_rfl) (by simp (disch:=omega) only [↓wr,↓reduceIte]) ?_
  simp (disch:=omega) only [↓wr,↓reduceIte,wq,ah,ak,Nat.reduceEqDiff,reduceCtorEq]
  refine aq.dec (fun h=>?_) (fun h=>?_)
  · simp (disch:=omega) only [↓wr,↓reduceIte,wq,reduceCtorEq]
    refine IP (k:=1) (e:=3) (by kernel_rfl) (by simp (disch:=omega) only [↓wr,↓reduceIte]) ?_
    simp (disch:=omega) only [↓wr,↓reduceIte,wq,ak,Nat.reduceEqDiff]
    rw[show hE 1 (.emp 1) none (some (.val (.int .i64 ((0:Nat):Int))))=some (.emp 1,.none,[]) from rfl]
    simp (disch:=omega) only [↓wr,↓reduceIte,wq,Nat.reduceEqDiff]
    refine Ms (k:=1) (l:=n) (sz:=1) (bytes:=8) (z:=[gi 0]) (by kernel_rfl) (by kernel_rfl) (by kernel_rfl) (by simp (disch:=omega) only [↓wr,↓reduceIte,Nat.reduceEqDiff]) (by simp (disch:=omega) only [↓wr,↓reduceIte,ak]; simp) (by omega) (by unfold aI; omega) (by unfold aI; omega) ?_
    intro m hm
    simp (disch:=omega) only [↓wr,↓reduceIte,wq,ak,Nat.reduceEqDiff,reduceCtorEq]
    rw[show hE 1 (.sl m 0 n 1) none (some (.val (.int .i64 ((0:Nat):Int))))=some (.sl m 0 0 1,.none,[]) by simp[hE,bound,asNat]]
    simp (disch:=omega) only [↓wr,↓reduceIte,wq,reduceCtorEq]
    exact .inr ⟨by omega,m,_,hm,rfl,rfl⟩
  · simp (disch:=omega) only [↓wr,↓reduceIte,wq,reduceCtorEq]
    exact .inl (by omega)
def wL (H:View) (u:V) (l:List Int):Prop:=u=encI l∨aX H u 1 (bq l)
theorem wL.elems {H:View} {u:V} {l:List Int} (h:wL H u l):∃ rd,cb H u=some (bq l,rd):=by
  rcases h with rfl | h
  · exact ⟨[],yq _ _⟩
  generalize bq l=es0 at h
  rcases h with ⟨rfl,k,rfl⟩ | ⟨n,rfl,hn⟩
  · exact ⟨_,x9 _ k⟩
  · cases es0 with
    | nil=>exact ⟨[],by simp[cb]⟩
    | cons e es =>
      exact ⟨_,by rw[show (e :: es).length=es.length+1 from rfl,uH _ n 0 es.length 1 1 _ hn (by simp),List.drop_zero,List.take_of_length_le (by simp)]⟩
theorem wL.len {H:View} {u:V} {l:List Int} (h:wL H u l):dM u=some l.length:=by
  rcases h with rfl | h
  · simp[encI,dM]
  · rw[h.len]; simp
theorem wL.keep {H H':View} {u:V} {l:List Int} (h:wL H u l) (hk:∀ id,H id≠.dead→H' id=H id):wL H' u l:=by
  rcases h with rfl | h
  · exact .inl rfl
  · exact .inr (h.keep fun id hid=>hk id (by rw[(h.live hid).1]; simp))
def xR (H:View) (u:V) (l:List Int):Prop:=aX H u 1 (bq l)∨(l=[]∧∃ m es,u=.sl m 0 0 1∧H m=.arr 1 es)
theorem xR.live {H:View} {u:V} {l:List Int} (h:xR H u l) {id:Nat} (hid:owner u=some id):∃ es,H id=.arr 1 es:=by
  rcases h with h | ⟨_,m,es,rfl,hm⟩
  · exact ⟨_,(h.live hid).1⟩
  · simp[owner] at hid; subst hid; exact ⟨es,hm⟩
theorem GM {bytes:Nat} {u:V} {l xs:List Int} {H:View} {K:V→View→Prop} {w:cF (H,K)} (ho:xR H u l) (hl:(l.length+xs.length) * bytes < aI) (hl2:l.length+xs.length < aI) (hb:bytes=8)
    (hk:∀ u' H',xR H' u' (l ++ xs)→(aX H u 1 (bq l)→aX H' u' 1 (bq (l ++ xs)))→Left H H' u u'→K u' H'):mQ 1 bytes u (bq xs) H K w:=by
  rcases ho with ho | ⟨rfl,m,es,rfl,hm⟩
  · exact Cg ho (by simp[List.all_map,aT]) (by simpa using hl) (by simpa using hl2) fun u' H' h1 h2=>hk u' H' (.inl (by simpa using h1)) (fun _=>by simpa using h1) h2
  · cases xs with
    | nil=>exact hk _ _ (.inr ⟨rfl,m,es,rfl,hm⟩) (fun h=>by simpa using h) .refl
    | cons x xs =>
      rw[u4 _ _ _ _ _ _ _ _ _ _ (by simp),hm]
      refine ⟨by simp[List.all_map,aT],⟨by simp,rfl,by simpa using hl,by simpa using hl2⟩,fun n hn=>hk _ _ (.inl (.inr ⟨n,by simp,by simp[View.set]⟩)) (fun _=>.inr ⟨n,by simp,by simp[View.set]⟩) fun id hid ho=>?_⟩
      have e:id≠n:=by rintro rfl; exact hid hn
      have e2:id≠m:=by rintro rfl; exact ho rfl
      exact ⟨by simp[View.set,e,e2],by simp[owner,Ne.symm e]⟩
set_option maxHeartbeats 4000000 in
theorem Cm (us:List (V × List Int)) (q:Nat) (H:View) (hq:H q=.arr 1 (us.map fun x=>[x.1])) (ha:∀ x∈us,wL H x.1 x.2) (hl:(us.map (·.2)).flatten.length≤100000) (hu:us.length≤1000) :
    aA Tryz.prog 76 [.sl q 0 us.length 1] H fun r H'=>aX H' r 1 (bq (us.map (·.2)).flatten)∧dw H H' r:=by
  have hsum:∀ i,((us.take i).map (·.2)).flatten.length≤100000:=fun i=>by
    have:=List.take_append_drop i us
    have h2:(us.map (·.2)).flatten=((us.take i).map (·.2)).flatten ++ ((us.drop i).map (·.2)).flatten:=by rw[← List.flatten_append,← List.map_append,this]
    rw[h2,List.length_append] at hl; omega
  refine aA.of mixed mY ?_
  simp (disch:=omega) only [↓wr,↓reduceIte,wq,ai,ak,Nat.reduceLeDiff,reduceCtorEq,iK]
  refine bb.up us.length (fun i T H'=>H'=H∧T 0=.sl q 0 us.length 1∧T 3=gi ((us.take i).map (·.2)).flatten.length∧T 9=.sl q 0 us.length 1∧T 10=gi us.length∧T 11=gi i) ⟨rfl,rfl,rfl,rfl,rfl,rfl⟩ ?_
  rintro i k T H1 hk ⟨rfl,t0,t3,t9,t10,t11⟩
  simp (disch:=omega) only [↓wr,↓reduceIte,wq,ah,gZ,t10,t11]
  refine aq.dec (fun hi=>?_) (fun hi=>?_)
  · have h2:us[i]?=some (us[i]'(by omega)):=List.getElem?_eq_getElem (by omega)
    have hm:=List.mem_of_getElem? h2
    have htk:us.take (i+1)=us.take i ++ [us[i]'(by omega)]:=by rw[List.take_add_one,h2]; rfl
    have hs1:=hsum (i+1)
    have hgd:(us.map fun x=>[x.1]).getD i []=[(us[i]'(by omega)).1]:=by simp[List.getD_eq_getElem?_getD,h2]
    generalize us[i]'(by omega)=x at h2 hm htk hgd
    have hx:=(ha x hm).len
    rw[htk] at hs1
    simp only[List.map_append,List.map_cons,List.map_nil,List.flatten_append,List.flatten_cons,List.flatten_nil,List.append_nil,List.length_append] at hs1
    simp (disch:=omega) only [↓wr,↓reduceIte,wq,ah,ak,Nat.reduceEqDiff,Nat.reduceLT,t3,t9,t11,hq,hgd,hx]
    refine ⟨by omega,by omega,?_⟩
    refine aq.dec (fun h=>absurd h (by omega)) (fun _=>?_)
    simp (disch:=omega) only [↓wr,↓reduceIte,wq,ah,Nat.reduceEqDiff,reduceCtorEq,t11]
    refine aK hk (by omega) ⟨rfl,t0,?_,t9,t10,rfl⟩
    rw[htk,List.map_append,List.flatten_append,List.length_append,List.map_cons,List.map_nil,List.flatten_cons,List.flatten_nil,List.append_nil]
    push_cast
    rfl
  · simp (disch:=omega) only [↓wr,↓reduceIte,wq,Nat.reduceEqDiff,reduceCtorEq,t3]
    have e:us.take i=us:=List.take_of_length_le (by omega)
    rw[e]
    refine aF.iy ((G9 _ hl H1).mono ?_)
    intro r H2 hr
    have hro:xR H2 r []∧dw H1 H2 r:=by
      rcases hr with ⟨_,rfl,rfl⟩ | ⟨_,m,es,hm,rfl,rfl⟩
      · exact ⟨.inl .nil,.emp⟩
      · exact ⟨.inr ⟨rfl,m,es,rfl,by simp[View.set]⟩,.new hm⟩
    have hlast:(us.map (·.2)).flatten.length=0→aX H2 r 1 (bq []):=fun h0=>by
      rcases hr with ⟨_,rfl,_⟩ | ⟨h1,_⟩
      · exact .nil
      · omega
    obtain ⟨hroom,hfr⟩:=hro
    simp (disch:=omega) only [↓wr,↓reduceIte,wq,ak,reduceCtorEq,t0]
    refine bb.up us.length (fun i T H'=>∃ u,T 6=u∧xR H' u ((us.take i).map (·.2)).flatten∧((us.map (·.2)).flatten.length=0→aX H' u 1 (bq ((us.take i).map (·.2)).flatten))∧dw H1 H' u∧T 25=.sl q 0 us.length 1∧T 26=gi us.length∧T 27=gi i) ⟨r,rfl,hroom,hlast,hfr,rfl,rfl,rfl⟩ ?_
    rintro i k T H3 hk ⟨u,t6,ho,hz,hf,t25,t26,t27⟩
    simp (disch:=omega) only [↓wr,↓reduceIte,wq,ah,reduceCtorEq,hX,t26,t27]
    refine aq.dec (fun hi=>?_) (fun hi=>?_)
    · have h2:us[i]?=some (us[i]'(by omega)):=List.getElem?_eq_getElem (by omega)
      have hm:=List.mem_of_getElem? h2
      have htk:us.take (i+1)=us.take i ++ [us[i]'(by omega)]:=by rw[List.take_add_one,h2]; rfl
      have hs1:=hsum (i+1)
      have hgd:(us.map fun x=>[x.1]).getD i []=[(us[i]'(by omega)).1]:=by simp[List.getD_eq_getElem?_getD,h2]
      generalize us[i]'(by omega)=x at h2 hm htk hgd
      rw[htk,List.map_append,List.flatten_append,List.length_append,List.map_cons,List.map_nil,List.flatten_cons,List.flatten_nil,List.append_nil] at hs1
      have hq3:H3 q=.arr 1 (us.map fun x=>[x.1]):=by rw[(hf q (by rw[hq]; simp)).1,hq]
      obtain ⟨rd,he⟩:=((ha x hm).keep fun id hid=>(hf id hid).1).elems
      simp (disch:=omega) only [↓wr,↓reduceIte,wq,Nat.reduceEqDiff,Nat.reduceLT,t6,t25,t27,hq3,hgd,he]
      refine ⟨by omega,by omega,?_⟩
      refine GM ho (by unfold aI; omega) (by unfold aI; omega) rfl ?_
      intro u' H4 ho4 hz4 l4
      simp (disch:=omega) only [↓wr,↓reduceIte,wq,ah,Nat.reduceEqDiff,reduceCtorEq,t27]
      refine aK hk (by omega) ⟨u',rfl,?_,fun h0=>?_,fun id hid=>?_,t25,t26,rfl⟩
      · rw[htk]; simpa using ho4
      · rw[htk]; simpa using hz4 (hz h0)
      · obtain ⟨a,b⟩:=hf id hid
        obtain ⟨c,d⟩:=l4 id (by rw[a]; exact hid) b
        exact ⟨c.trans a,d⟩
    · simp (disch:=omega) only [↓wr,↓reduceIte,wq,Nat.reduceEqDiff,reduceCtorEq,t6]
      have e:us.take i=us:=List.take_of_length_le (by omega)
      rw[e] at ho hz
      refine ⟨?_,hf⟩
      rcases ho with ho | ⟨h0,m,es,rfl,hm⟩
      · exact ho
      · exact hz (by rw[h0]; rfl)
end Gv
