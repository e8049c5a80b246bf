/-
  Part 15 of the proof: what the machine does and what the functions answer.
  Conditions: those that each lemma names.
-/
import Derived.Test.YtomcjampldmjoaaGreatSGzSN
set_option linter.unusedSimpArgs false
set_option linter.unusedVariables false
set_option maxRecDepth 100000
namespace Gv
open Go Go.Proofs
def mX:SC :=
  .seq (.seq (ak [ae 59 11,aq 60 1 9,an 61 60,aP 62 61,aR 63 .lss 59 62]) <|
  .cond (.tmp 63) (.skip) (.exit 0)) <|
  .seq (.block 1 (.seq (.seq (ak [aq 66 1 9,an 67 66,ae 68 11,aQ 69 1 67 68,an 70 69,ax 71 .geq 70 0]) <|
  .cond (.tmp 71) (.seq (ak [aq 72 1 10,an 73 72,aq 74 1 9,an 75 74,ae 76 11,aQ 77 1 75 76,an 78 77,((some 79),.op (.bA 1 1 [(.val (.int .i64 0))] [(0,(.tmp 78))])),((some 80),.op (.app 1 8 (.tmp 73) (.tmp 79))),aq 81 1 10,(none,.op (.store 1 (.tmp 81) (.tmp 80)))]) <|
  .exit 1) (.skip)) <|
  .seq (.lX [] [⟨none,[aT 82 4 4,ae 83 1,aq 84 0 10,an 85 84,aq 86 1 9,an 87 86,ae 88 11,aQ 89 1 87 88,an 90 89,((some 91),.op (.arith .sub (.val (.val (.int .i64 (-1)))) (.tmp 90))),aL 92 118 [82,83,85,91],((some 12),.op (.alloc [(.val (.int .i64 0)),(.emp 1),(.val (.int .i64 0)),(.emp 1)])),(none,.op (.store 4 (.tmp 12) (.tmp 92)))]⟩]) <|
  .seq (.seq (ak [aq 93 0 12,an 94 93,ax 95 .eql 94 0]) <|
  .cond (.tmp 95) (.seq (ak [((some 96),.op (.build [(.val (.int .i64 0)),(.emp 1),(.val (.int .i64 0)),(.emp 1)] [])),(none,.op (.store 4 (.tmp 8) (.tmp 96)))]) <|
  .ret) (.skip)) <|
  .seq (.lX [(101,104)] [⟨none,[aq 97 0 12,an 98 97,aq 99 2 10,an 100 99,aq 101 2 12,an 102 101,((some 103),.op (.mm true (.tmp 100) (.tmp 102))),aq 104 0 10,(none,.op (.store 1 (.tmp 104) (.tmp 98))),aq 105 2 10,(none,.op (.store 1 (.tmp 105) (.tmp 103)))]⟩]) <|
  .lX [(111,107),(113,107)] [⟨none,[aq 106 1 10,an 107 106,aq 108 1 12,an 109 108,((some 110),.op (.app 1 8 (.tmp 107) (.tmp 109))),aq 111 3 10,an 112 111,aq 113 3 12,an 114 113,((some 115),.op (.app 1 8 (.tmp 112) (.tmp 114))),aq 116 1 10,(none,.op (.store 1 (.tmp 116) (.tmp 110))),aq 117 3 10,(none,.op (.store 1 (.tmp 117) (.tmp 115)))]⟩])) <|
  ak [ae 64 11,ax 65 .add 64 1,ae 11 65]
def jI:SF:=⟨.seq (ak [cx 4 0,((some 8),.op (.alloc [(.val (.int .i64 0)),(.emp 1),(.val (.int .i64 0)),(.emp 1)]))]) <|
  .seq (.seq (.region false [⟨none,[ae 13 2,ae 14 1,aP 15 14,aR 16 .geq 13 15,ae 17 16]⟩,⟨(some (17,false)),[ae 18 1,ae 19 2,aQ 20 1 18 19,an 21 20,ax 22 .lss 21 0]⟩,⟨none,[bH 23 17 22,ae 24 23]⟩,⟨(some (24,false)),[ae 25 1,ae 26 2,aQ 27 1 25 26,an 28 27,aq 29 2 4,an 30 29,aP 31 30,aR 32 .geq 28 31]⟩,⟨none,[bH 33 24 32,ae 34 33]⟩,⟨(some (34,false)),[aq 35 2 4,an 36 35,ae 37 1,ae 38 2,aQ 39 1 37 38,an 40 39,aQ 41 3 36 40,aq 42 0 41,an 43 42,ae 44 3,aR 45 .neq 43 44]⟩,⟨none,[bH 46 34 45]⟩]) <|
  .cond (.tmp 46) (.seq (ak [((some 47),.op (.build [(.val (.int .i64 0)),(.emp 1),(.val (.int .i64 0)),(.emp 1)] [])),(none,.op (.store 4 (.tmp 8) (.tmp 47)))]) <|
  .ret) (.skip)) <|
  .seq (ak [aq 48 2 4,an 49 48,ae 50 1,ae 51 2,aQ 52 1 50 51,an 53 52,aQ 54 3 49 53,aT 55 3 54,((some 9),.op (.alloc [(.val (.int .i64 0)),(.emp 1),(.val (.int .i64 0))])),(none,.op (.store 3 (.tmp 9) (.tmp 55)))]) <|
  .seq (ak [ae 56 2,ax 57 .add 56 1,((some 58),.op (.build [(.val (.int .i64 0)),(.emp 1),(.val (.int .i64 0)),(.emp 1)] [(0,1,(.tmp 57))])),((some 10),.op (.alloc [(.val (.int .i64 0)),(.emp 1),(.val (.int .i64 0)),(.emp 1)])),(none,.op (.store 4 (.tmp 10) (.tmp 58)))]) <|
  .seq (.seq (ak [aH 11 0]) <|
  .block 0 (.loop mX)) <|
  .seq (ak [aq 118 2 10,an 119 118,ax 120 .add 119 1,aq 121 2 10,(none,.op (.store 1 (.tmp 121) (.tmp 120)))]) <|
  .seq (ak [aq 122 3 10,an 123 122,ae 124 1,ae 125 2,aQ 126 1 124 125,an 127 126,((some 128),.op (.bA 1 1 [(.val (.int .i64 0))] [(0,(.tmp 127))])),((some 129),.op (.app 1 8 (.tmp 123) (.tmp 128))),aq 130 3 10,(none,.op (.store 1 (.tmp 130) (.tmp 129)))]) <|
  .seq (ak [aT 131 4 10,(none,.op (.store 4 (.tmp 8) (.tmp 131)))]) <|
  .ret,
  [.cell 8 (some 4)],132⟩
theorem lx:aU Tryz.prog 118 [4,100000]=some jI:=by kernel_rfl
def nk:SF:=⟨.seq (ak [cx 2 0,((some 4),.op (.alloc [(.val (.int .i64 0)),(.emp 1),(.val (.int .i64 0)),(.emp 1)]))]) <|
  .seq (.seq (.region false [⟨none,[aT 6 4 2,aL 7 48 [6],cd 8 7,ae 9 8]⟩,⟨(some (9,false)),[ae 10 1,aP 11 10,ax 12 .gtr 11 300]⟩,⟨none,[bH 13 9 12]⟩]) <|
  .cond (.tmp 13) (.seq (ak [((some 14),.op (.build [(.val (.int .i64 0)),(.emp 1),(.val (.int .i64 0)),(.emp 1)] [])),(none,.op (.store 4 (.tmp 4) (.tmp 14)))]) <|
  .ret) (.skip)) <|
  .seq (ak [aT 15 4 2,ae 16 1,aq 17 3 2,an 18 17,cL 19 118 [(.tmp 15),(.tmp 16),(.val (.val (.int .i64 0))),(.tmp 18)],((some 5),.op (.alloc [(.val (.int .i64 0)),(.emp 1),(.val (.int .i64 0)),(.emp 1)])),(none,.op (.store 4 (.tmp 5) (.tmp 19)))]) <|
  .seq (.seq (ak [aq 20 0 5,an 21 20,ae 22 1,aP 23 22,aR 24 .neq 21 23]) <|
  .cond (.tmp 24) (.seq (ak [((some 25),.op (.build [(.val (.int .i64 0)),(.emp 1),(.val (.int .i64 0)),(.emp 1)] [])),(none,.op (.store 4 (.tmp 4) (.tmp 25)))]) <|
  .ret) (.skip)) <|
  .seq (ak [aT 26 4 5,(none,.op (.store 4 (.tmp 4) (.tmp 26)))]) <|
  .ret,
  [.cell 4 (some 4)],27⟩
theorem sU:aU Tryz.prog 68 [2]=some nk:=by kernel_rfl
def oZ:SF:=⟨.seq (ak [cx 2 0,((some 4),.op (.aZ (.val (.emp 1)))),aH 5 0]) <|
  .seq (ak [aT 7 4 2,ae 8 1,aL 9 68 [7,8],((some 6),.op (.alloc [(.val (.int .i64 0)),(.emp 1),(.val (.int .i64 0)),(.emp 1)])),(none,.op (.store 4 (.tmp 6) (.tmp 9)))]) <|
  .seq (.seq (ak [aq 10 0 6,an 11 10,ax 12 .eql 11 0]) <|
  .cond (.tmp 12) (.seq (ak [((some 4),.op (.aZ (.val (.emp 1)))),aH 5 1]) <|
  .ret) (.skip)) <|
  .seq (ak [aq 13 1 6,an 14 13,ae 4 14,aH 5 0]) <|
  .ret,
  [.tmp 4,.tmp 5],15⟩
theorem ud:aU Tryz.prog 39 [2]=some oZ:=by kernel_rfl
theorem Cs {g:ao} : ∀ (f:Nat) (l rest:List Int) (x:Wk),bI g f l rest=some x→∃ p,rest=p ++ x.rest:=by
  intro f
  induction f with
  | zero =>
    intro l
    induction l with
    | nil=>intro rest x h; rw[dT] at h; simp at h; subst h; exact ⟨[],rfl⟩
    | cons s l ih =>
      intro rest x h
      by_cases hs:0≤s
      · rw[fP hs] at h
        cases hw:bI g 0 l rest with
        | none=>rw[hw] at h; simp at h
        | some y=>rw[hw] at h; simp at h; subst h; exact ih rest y hw
      · rw[ki (by omega)] at h; simp at h
  | succ f ihf =>
    intro l
    induction l with
    | nil=>intro rest x h; rw[dT] at h; simp at h; subst h; exact ⟨[],rfl⟩
    | cons s l ih =>
      intro rest x h
      by_cases hs:0≤s
      · rw[fP hs] at h
        cases hw:bI g (f+1) l rest with
        | none=>rw[hw] at h; simp at h
        | some y=>rw[hw] at h; simp at h; subst h; exact ih rest y hw
      · cases rest with
        | nil=>rw[fZ (by omega)] at h; simp at h
        | cons t rest =>
          rw[ec (by omega)] at h
          cases hr:dR g t with
          | none=>rw[hr] at h; simp at h
          | some R =>
            rw[hr] at h
            simp only at h
            split at h
            · cases hw:bI g f R.right rest with
              | none=>rw[hw] at h; simp at h
              | some y =>
                rw[hw] at h
                simp only at h
                cases hz:bI g (f+1) l y.rest with
                | none=>rw[hz] at h; simp at h
                | some z =>
                  rw[hz] at h; simp at h; subst h
                  obtain ⟨p,hp⟩:=ihf R.right rest y hw
                  obtain ⟨q,hq⟩:=ih y.rest z hz
                  exact ⟨t :: (p ++ q),by rw[hp,hq]; simp[pV]⟩
            · simp at h
theorem zI {g:ao} {f:Nat} {s:Int} {rest:List Int} {y:Wk} (hs:s < 0) (h:bI g f [s] rest=some y):y.rest.length < rest.length:=by
  cases f with
  | zero=>rw[ki (by omega)] at h; simp at h
  | succ f =>
    cases rest with
    | nil=>rw[fZ (by omega)] at h; simp at h
    | cons t rest =>
      rw[ec (by omega)] at h
      cases hr:dR g t with
      | none=>rw[hr] at h; simp at h
      | some R =>
        rw[hr] at h
        simp only at h
        split at h
        · cases hw:bI g f R.right rest with
          | none=>rw[hw] at h; simp at h
          | some y =>
            rw[hw] at h
            simp only[dT,Option.map_some,Option.some.injEq] at h
            subst h
            obtain ⟨p,hp⟩:=Cs f R.right rest y hw
            have:=congrArg List.length hp
            simp only[List.length_append] at this
            simp only[pV,List.length_cons]
            omega
        · simp at h
theorem vL (l:List Int):((aW l).all fun e=>e.length == 1 && e.all aO)=true:=by simp[List.all_map,aO]
theorem KP {t p r:List Int} {a:Nat} (h:t.drop a=p ++ r):t.drop (t.length - r.length)=r:=by
  have e:t=t.take a ++ (p ++ r):=by rw[← h,List.take_append_drop]
  have hl:t.length=(t.take a).length+(p.length+r.length):=by
    have:=congrArg List.length e
    simpa using this
  rw[e,← List.append_assoc]
  have:(t.take a ++ p ++ r).length - r.length=(t.take a ++ p).length:=by simp; omega
  rw[this,List.drop_left]
theorem F0 {H:View} {u:V} {l:List Int} {b j z:Nat} {e:List (List V)} (ho:aV H u 1 (aW l)) (hb:H b=.arr z e) (hz:z≠1):gw (.ptr b 0 j) u:=by
  rcases ho with ⟨_,k,rfl⟩ | ⟨n,rfl,hn⟩
  · trivial
  · show b≠n
    rintro rfl
    rw[hb] at hn
    simp only[bR.arr.injEq] at hn
    exact hz hn.1
theorem K8 {H:View} {u:V} {sz f z:Nat} {es:List (List V)} {e:List (List V)} (ho:aV H u sz es) (hf:H f=.arr z e) (hz:sz≠z):owner u≠some f:=fun e2=>by
  have:=(ho.live e2).1
  rw[hf] at this
  simp only[bR.arr.injEq] at this
  exact hz this.1.symm
def mj (o:Option Wk) (tl:Nat):V:=match o with
  | some x=>.agg [gi (tl - x.rest.length:Nat),encI x.word,gi x.high,encI x.post]
  | none=>.agg [gi 0,encI [],gi 0,encI []]
theorem KS {h:aE} {uw up:V} {x:Wk} {tl:Nat} (hw:aV h.view uw 1 (aW x.word)) (hp:aV h.view up 1 (aW x.post)):cP h (.agg [gi (tl - x.rest.length:Nat),uw,gi x.high,up]) (mj (some x) tl):=by
  refine .agg _ _ rfl fun j hj=>?_
  match j,hj with
  | 0,_=>exact .val _
  | 1,_=>exact eU hw
  | 2,_=>exact .val _
  | 3,_=>exact eU hp
  | n+4,hj=>exact absurd hj (by simp only[List.length_cons,List.length_nil]; omega)
theorem fY {h:aE} {tl:Nat} : cP h (.agg [gi 0,.emp 1,gi 0,.emp 1]) (mj none tl):=by
  refine .agg _ _ rfl fun j hj=>?_
  match j,hj with
  | 0,_=>exact .val _
  | 1,_=>exact .emp _
  | 2,_=>exact .val _
  | 3,_=>exact .emp _
  | n+4,hj=>exact absurd hj (by simp only[List.length_cons,List.length_nil]; omega)
theorem Am (g:ao) (t:List Int) (a b:Int):∀ v∈[V.agg (al g),encI t,gi a,gi b],Tree v:=by
  intro v hv; simp at hv
  rcases hv with rfl | rfl | rfl | rfl
  · exact cg _ (cO g)
  · exact bX t
  · exact .val _
  · exact .val _
set_option maxHeartbeats 8000000 in
theorem Nv (g:ao) (hg:g.Ok) (hf:g.gp) (t:List Int) (ht:t.length≤300):∀ (f:Nat) (n:Int) (a:Nat),f≤300→0≤n→n < g.au.length→a≤t.length→t.length - a≤f →
    bP Tryz.prog 118 [.agg (al g),encI t,gi a,gi n] (mj (bI g f [-1 - n] (t.drop a)) t.length):=by
  intro f
  induction f with
  | zero =>
    intro n a hf3 hn0 hn1 ha hl
    refine bP.of (Am g t a n) ?_
    refine az.of mixed lx ?_
    simp (disch:=omega) only [↓wr,↓reduceIte,wq,ah,ag,aj,Nat.reduceEqDiff,Nat.reduceAdd,Nat.reduceLeDiff,Int.reduceNeg,jI,al,encS,encI]
    intro b8
    refine ar.dec (fun _=>?_) (fun h=>absurd (by omega) h)
    simp (disch:=omega) only [↓wr,↓reduceIte,wq,aa,ab,Nat.reduceEqDiff,Nat.reduceAdd,Nat.reduceLT,Nat.reduceLeDiff,Int.reduceNeg,reduceCtorEq]
    intro h' _
    rw[List.drop_eq_nil_of_le (by omega),fZ (by omega)]
    exact fY
  | succ f ih =>
    intro n a hf3 hn0 hn1 ha hl
    refine bP.of (Am g t a n) ?_
    refine az.of mixed lx ?_
    simp (disch:=omega) only [↓wr,↓reduceIte,wq,ah,ag,aj,Nat.reduceEqDiff,Nat.reduceAdd,Nat.reduceLeDiff,Int.reduceNeg,jI,al,encS,encI]
    intro b8
    refine ar.dec (fun h=>?_) (fun h=>?_)
    · simp (disch:=omega) only [↓wr,↓reduceIte,wq,aa,ab,Nat.reduceEqDiff,Nat.reduceAdd,Nat.reduceLT,Nat.reduceLeDiff,Int.reduceNeg,reduceCtorEq]
      intro h' _
      rw[List.drop_eq_nil_of_le (by omega),fZ (by omega)]
      exact fY
    · have hg1:t[a]?=some (t[a]'(by omega)):=List.getElem?_eq_getElem (by omega)
      have hdr:t.drop a=t[a]'(by omega) :: t.drop (a+1):=List.drop_eq_getElem_cons (by omega)
      generalize t[a]'(by omega)=c at hg1 hdr
      have bad:(∀ R,dR g c=some R→R.left≠n)→bI g (f+1) [-1 - n] (t.drop a)=none:=fun h=>by
        rw[hdr,ec (by omega)]
        cases hr:dR g c with
        | none=>rfl
        | some R =>
          simp only
          rw[if_neg (by have:=h R hr; omega)]
      simp (disch:=omega) only [↓wr,↓reduceIte,wq,ag,Nat.reduceEqDiff,Nat.reduceLT,Int.reduceNeg,List.getElem?_map,hg1]
      refine ar.dec (fun hc=>?_) (fun hc=>?_)
      · simp (disch:=omega) only [↓wr,↓reduceIte,wq,aa,ab,Nat.reduceEqDiff,Nat.reduceAdd,Nat.reduceLT,Nat.reduceLeDiff,Int.reduceNeg,reduceCtorEq]
        intro h' _
        rw[bad fun R hR=>by unfold dR at hR; rw[if_neg (by omega)] at hR; simp at hR]
        exact fY
      · obtain ⟨k,rfl⟩:∃ k:Nat,c=k:=⟨c.toNat,by omega⟩
        simp (disch:=omega) only [↓wr,↓reduceIte,wq,ag,aj,Nat.reduceEqDiff,Nat.reduceAdd,Nat.reduceLT,Int.reduceNeg,List.getElem?_map,hg1]
        refine ar.dec (fun hk=>?_) (fun hk=>?_)
        · simp (disch:=omega) only [↓wr,↓reduceIte,wq,aa,ab,Nat.reduceEqDiff,Nat.reduceAdd,Nat.reduceLT,Nat.reduceLeDiff,Int.reduceNeg,reduceCtorEq]
          intro h' _
          rw[bad fun R hR=>by
            unfold dR at hR
            rw[if_pos (by omega),Int.toNat_natCast] at hR
            have:=(List.getElem?_eq_some_iff.1 hR).1
            omega]
          exact fY
        · have hR:g.rules[k]?=some (g.rules[k]'(by omega)):=List.getElem?_eq_getElem (by omega)
          have hmr:=List.mem_of_getElem? hR
          generalize g.rules[k]'(by omega)=R at hR hmr
          have hra:dR g (k:Int)=some R:=by rw[dR,if_pos (by omega),Int.toNat_natCast]; exact hR
          have hrw:=hg.ba R hmr
          have hr6:=hf.right R hmr
          simp (disch:=omega) only [↓wr,↓reduceIte,wq,ag,Nat.reduceEqDiff,Nat.reduceAdd,Nat.reduceLT,Int.reduceNeg,encI,List.getElem?_map,hg1,hR,aK]
          refine ar.ne (fun he=>?_) (fun he=>?_)
          · simp (disch:=omega) only [↓wr,↓reduceIte,wq,aa,ab,Nat.reduceEqDiff,Nat.reduceAdd,Nat.reduceLT,Nat.reduceLeDiff,Int.reduceNeg,reduceCtorEq]
            intro h' _
            rw[bad fun R' hR'=>by rw[hra] at hR'; simp at hR'; subst hR'; exact he]
            exact fY
          · simp (disch:=omega) only [↓wr,↓reduceIte,wq,ag,aa,ab,Nat.reduceEqDiff,Nat.reduceAdd,Nat.reduceLT,Nat.reduceLeDiff,Int.reduceNeg,encI,List.getElem?_map,hg1,hR,aK]
            intro b9 h9 b10 h10
            have o1:=(bC.nil (H:=fun _=>bR.dead)).new (n:=b8) rfl 4 [[gi 0,.emp 1,gi 0,.emp 1]]
            have o2:=(o1.new (n:=b9) h9 3 [[gi 0,.emp 1,gi 0]]).put (es':=[[gi R.left,encI R.right,gi R.prec]]) rfl rfl
            have h10':((((View.set (fun _=>bR.dead) b8 (.arr 4 [[gi 0,.emp 1,gi 0,.emp 1]])).set b9 (.arr 3 [[gi 0,.emp 1,gi 0]])).set b9 (.arr 3 [[gi R.left,encI R.right,gi R.prec]]))) b10=.dead:=h10
            have o3:=(o2.new h10' 4 [[gi 0,.emp 1,gi 0,.emp 1]]).put (es':=[[gi (a+1),.emp 1,gi 0,.emp 1]]) rfl rfl
            have hend:((t.length - (t.drop (a+1)).length:Nat):Int)=a+1:=by simp; omega
            refine bc.up R.right.length (fun i T H'=>∃ x uw up,bI g f (R.right.take i) (t.drop (a+1))=some x∧bC H' [(.sl b10 0 1 4,4,[[gi (t.length - x.rest.length:Nat),uw,gi x.high,up]]),(uw,1,aW x.word),(up,1,aW x.post),(.sl b9 0 1 3,3,[[gi R.left,encI R.right,gi R.prec]]),(.sl b8 0 1 4,4,[[gi 0,.emp 1,gi 0,.emp 1]])] ∧
              T 1=encI t∧T 2=gi a∧T 4=.aS (al g) 0∧T 8=.ptr b8 0 0∧T 9=.ptr b9 0 0∧T 10=.ptr b10 0 0∧T 11=gi i) ?_ ?_
            · refine ⟨⟨t.drop (a+1),[],[],0⟩,.emp 1,.emp 1,dT _ _ _,?_,rfl,rfl,rfl,rfl,rfl,rfl,rfl⟩
              simp only[hend]
              exact ((o3.emp (k:=1) (sz:=1)).emp (k:=1) (sz:=1)).perm qP.symm
            · clear o1 o2 o3 h9 h10 h10'
              rintro i j T H1 hj ⟨x,uw,up,hx,ho,t1,t2,t4,t8,t9,t10,t11⟩
              obtain ⟨z1,z2,z3,z4⟩:=qj hf.right f _ _ x hx
              have hdl:(t.drop (a+1)).length=t.length - (a+1):=by simp
              have hb10:=ho.is 0 rfl (by simp)
              have hb9:=ho.is 3 rfl (by simp)
              simp (disch:=omega) only [↓wr,↓reduceIte,wq,ag,aj,Nat.reduceEqDiff,Nat.reduceAdd,Nat.reduceLT,Int.reduceNeg,mX,t9,t11,hb9,encI]
              refine ar.dec (fun hi=>?_) (fun hi=>?_)
              · have hg2:R.right[i]?=some (R.right[i]'(by omega)):=List.getElem?_eq_getElem (by omega)
                have hmem:R.right[i]'(by omega)∈R.right:=List.getElem_mem _
                have htk:R.right.take (i+1)=R.right.take i ++ [R.right[i]'(by omega)]:=by rw[List.take_add_one,hg2]; rfl
                have hap:=ly g f (R.right.take i) [R.right[i]'(by omega)] (t.drop (a+1))
                rw[← htk,hx] at hap
                generalize R.right[i]'(by omega)=s at hg2 hmem htk hap
                simp only at hap
                have hs64:=hrw.2.2.2 s hmem
                unfold bM at hs64
                simp only[List.length_take] at z3
                simp (disch:=omega) only [↓wr,↓reduceIte,wq,ag,Nat.reduceEqDiff,Nat.reduceAdd,Nat.reduceLT,Int.reduceNeg,t9,t11,hb9,encI,List.getElem?_map,hg2]
                refine ar.dec (fun hs=>?_) (fun hs=>?_)
                · simp (disch:=omega) only [↓wr,↓reduceIte,wq,af,Nat.reduceEqDiff,Nat.reduceAdd,Nat.reduceLT,Int.reduceNeg,t9,t10,t11,hb9,hb10,encI,List.getElem?_map,hg2]
                  intro m hm
                  rw[bQ]
                  simp (disch:=omega) only [↓wr,↓reduceIte,wq,Nat.reduceEqDiff,Int.reduceNeg]
                  refine cp ((ho.at 1 (by simp)).fresh hm) (by simp[aO]) (by unfold aG; simp; omega) (by unfold aG; simp; omega) ?_
                  intro u2 H2 o2 _
                  simp only[List.eraseIdx_cons_succ,List.eraseIdx_cons_zero] at o2
                  have hb2:=o2.is 1 rfl (by simp)
                  have c2:=o2.head.cells
                  have k2:=o2.head.gX
                  simp (disch:=omega) only [↓wr,↓reduceIte,wq,ag,aa,Nat.reduceEqDiff,Nat.reduceAdd,Nat.reduceLT,Nat.reduceLeDiff,Int.reduceNeg,reduceCtorEq,t1,t2,t8,t10,t11,hb2,c2,k2]
                  have o3:=(o2.at 1 (by simp)).put (es':=[[gi (t.length - x.rest.length:Nat),u2,gi x.high,up]]) rfl rfl
                  simp only[List.eraseIdx_cons_succ,List.eraseIdx_cons_zero] at o3
                  rw[fP hs,dT] at hap
                  simp only[Option.map_some] at hap
                  refine aJ hj (by omega) ⟨_,u2,up,hap,?_,t1,t2,t4,t8,t9,t10,rfl⟩
                  simpa [nN,rj,encI] using o3
                · simp (disch:=omega) only [↓wr,↓reduceIte,wq,ag,Nat.reduceEqDiff,Nat.reduceAdd,Nat.reduceLT,Nat.reduceLeDiff,Int.reduceNeg,t1,t4,t9,t10,t11,hb9,hb10,encI,List.getElem?_map,hg2,al,encS]
                  have hns : -1 - s < g.au.length:=by
                    have:=hf.sym R hmr s hmem
                    unfold im at this
                    rw[if_neg (by omega)] at this
                    simpa using this
                  have hdx:t.drop (t.length - x.rest.length)=x.rest:=by
                    obtain ⟨p,hp⟩:=Cs f _ _ x hx
                    exact KP hp
                  have hcall:=ih (-1 - s) (t.length - x.rest.length) (by omega) (by omega) hns (by omega) (by omega)
                  rw[show -1 - (-1 - s)=s by omega,hdx] at hcall
                  simp only[al,encS,encI] at hcall
                  refine aC.qq hcall (by kernel_rfl) ⟨.tree (cg _ (cO g)),.tree (bX t),.tree (.val _),.tree (.val _),trivial⟩ ?_
                  cases hy:bI g f [s] x.rest with
                  | none =>
                    rw[hy] at hap
                    rw[show mj none t.length=.agg [gi 0,encI [],gi 0,encI []] from rfl]
                    simp (disch:=omega) only [↓wr,↓reduceIte,wq,ag,aa,Nat.reduceEqDiff,Nat.reduceAdd,Nat.reduceLT,Nat.reduceLeDiff,Int.reduceNeg]
                    intro b12 hb12
                    have hnone:bI g (f+1) [-1 - n] (t.drop a)=none:=by
                      rw[hdr,ec (by omega),hra]
                      simp only
                      rw[if_pos (by omega)]
                      have e:=ly g f (R.right.take (i+1)) (R.right.drop (i+1)) (t.drop (a+1))
                      rw[List.take_append_drop,hap] at e
                      rw[e]; rfl
                    refine ⟨rfl,?_⟩
                    refine ar.eq (fun _=>?_) (fun e=>absurd rfl e)
                    have hb8:=ho.is 4 rfl (by simp)
                    have d8:b8≠b12:=fun e=>by rw[e] at hb8; rw[hb8] at hb12; simp at hb12
                    simp (disch:=omega) only [↓wr,↓reduceIte,wq,ag,aa,ab,Nat.reduceEqDiff,Nat.reduceAdd,Nat.reduceLT,Nat.reduceLeDiff,Int.reduceNeg,reduceCtorEq,t8,hb8,d8]
                    intro h' _
                    rw[hnone]
                    exact fY
                  | some y =>
                    rw[hy] at hap
                    have hyh:=vt (by omega) hy
                    obtain ⟨v1,v2,v3,v4⟩:=qj hf.right f _ _ y hy
                    have hlt:y.rest.length < x.rest.length:=zI (by omega) hy
                    rw[show mj (some y) t.length=.agg [gi (t.length - y.rest.length:Nat),encI y.word,gi y.high,encI y.post] from rfl]
                    simp (disch:=omega) only [↓wr,↓reduceIte,wq,ag,aa,Nat.reduceEqDiff,Nat.reduceAdd,Nat.reduceLT,Nat.reduceLeDiff,Int.reduceNeg]
                    intro b12 hb12
                    refine ⟨rfl,?_⟩
                    refine ar.eq (fun e=>absurd e (by omega)) (fun _=>?_)
                    have d10:b10≠b12:=fun e=>by rw[e] at hb10; rw[hb10] at hb12; simp at hb12
                    simp (disch:=omega) only [↓wr,↓reduceIte,wq,aa,Nat.reduceEqDiff,Nat.reduceAdd,Nat.reduceLT,Nat.reduceLeDiff,Int.reduceNeg,t10,hb10,d10,d10.symm,set_set,encI]
                    simp only[List.length_cons,List.length_nil] at v3
                    have off12:∀ z∈[((V.sl b10 0 1 4,4,[[gi (t.length - x.rest.length:Nat),uw,gi x.high,up]]):fK),(uw,1,aW x.word),(up,1,aW x.post),(.sl b9 0 1 3,3,[[gi R.left,encI R.right,gi R.prec]]),(.sl b8 0 1 4,4,[[gi 0,.emp 1,gi 0,.emp 1]])],owner z.1≠some b12:=fun z hz e=>ho.live hz e hb12
                    have o1a:=ho.fresh (o:=.arr [V.val (Value.int .i64 0),V.emp 1,V.val (Value.int .i64 0),V.emp 1].length [[V.val (Value.int .i64 0),V.emp 1,V.val (Value.int .i64 0),V.emp 1]]) hb12
                    have o1b:bC (((H1.set b12 (.arr [V.val (Value.int .i64 0),V.emp 1,V.val (Value.int .i64 0),V.emp 1].length [[V.val (Value.int .i64 0),V.emp 1,V.val (Value.int .i64 0),V.emp 1]]))).set b12 (.arr 4 [[gi (t.length - y.rest.length:Nat),encI y.word,gi y.high,encI y.post]])) _:=⟨fun z hz=>(o1a.1 z hz).other (off12 z hz),o1a.2⟩
                    have o1:=(o1b.put (es':=[[gi (t.length - y.rest.length:Nat),uw,gi x.high,up]]) rfl rfl).put (es':=[[gi (t.length - y.rest.length:Nat),uw,gi (if (y.high:Int) > x.high then y.high else x.high),up]]) rfl rfl
                    have f12:(((((H1.set b12 (.arr [V.val (Value.int .i64 0),V.emp 1,V.val (Value.int .i64 0),V.emp 1].length [[V.val (Value.int .i64 0),V.emp 1,V.val (Value.int .i64 0),V.emp 1]]))).set b12 (.arr 4 [[gi (t.length - y.rest.length:Nat),encI y.word,gi y.high,encI y.post]])).set b10 (.arr 4 [[gi (t.length - y.rest.length:Nat),uw,gi x.high,up]])).set b10 (.arr 4 [[gi (t.length - y.rest.length:Nat),uw,gi (if (y.high:Int) > x.high then y.high else x.high),up]])) b12=.arr 4 [[gi (t.length - y.rest.length:Nat),encI y.word,gi y.high,encI y.post]]:=by simp[View.set,d10.symm]
                    have a1:=F0 (j:=3) (o1.own 1 rfl) (o1.is 0 rfl (by simp)) (by decide)
                    have a2:=F0 (j:=3) (o1.own 1 rfl) f12 (by decide)
                    have lw:=K8 (o1.own 1 rfl) f12 (by decide)
                    refine cp (o1.at 1 (by simp)) (vL y.word) (by unfold aG; simp; omega) (by unfold aG; simp; omega) ?_
                    intro u2 H2 o2 l2
                    have g12:H2 b12=.arr 4 [[gi (t.length - y.rest.length:Nat),encI y.word,gi y.high,encI y.post]]:=(l2 b12 (fun e=>by have:=f12.symm.trans e; simp at this) lw).1.trans f12
                    simp only[List.eraseIdx_cons_succ,List.eraseIdx_cons_zero] at o2
                    have hb2:=o2.is 1 rfl (by simp)
                    have c2:=o2.head.cells
                    have k2:=o2.head.gX
                    simp (disch:=omega) only [↓wr,↓reduceIte,wq,Nat.reduceEqDiff,Nat.reduceAdd,Nat.reduceLT,Int.reduceNeg,t10,hb2,g12,encI]
                    refine cp (o2.at 2 (by simp)) (vL y.post) (by unfold aG; simp; omega) (by unfold aG; simp; omega) ?_
                    intro u3 H3 o3 _
                    simp only[List.eraseIdx_cons_succ,List.eraseIdx_cons_zero] at o3
                    have hb3:=o3.is 2 rfl (by simp)
                    have c3:=o3.head.cells
                    have k3:=o3.head.gX
                    simp (disch:=omega) only [↓wr,↓reduceIte,wq,ag,aa,Nat.reduceEqDiff,Nat.reduceAdd,Nat.reduceLT,Nat.reduceLeDiff,Int.reduceNeg,reduceCtorEq,t1,t2,t8,t10,t11,hb3,c2,k2,c3,k3,encI]
                    have o4:=((o3.at 2 (by simp)).put (es':=[[gi (t.length - y.rest.length:Nat),u2,gi (if (y.high:Int) > x.high then y.high else x.high),up]]) rfl rfl).put (es':=[[gi (t.length - y.rest.length:Nat),u2,gi (if (y.high:Int) > x.high then y.high else x.high),u3]]) rfl rfl
                    simp only[List.eraseIdx_cons_succ,List.eraseIdx_cons_zero] at o4
                    refine ⟨a1,a2,aJ hj (by omega) ⟨_,u2,u3,hap,?_,t1,t2,t4,t8,t9,t10,rfl⟩⟩
                    have eh:gi (if (y.high:Int) > x.high then (y.high:Int) else x.high)=gi ((nN x y).high:Nat):=by
                      congr 2
                      simp only[nN]
                      split <;> omega
                    rw[← eh]
                    have o5:=o4.perm (.cons _ (.swap _ _ _))
                    simpa [nN,encI] using o5
              · rw[List.take_of_length_le (by omega)] at hx
                simp (disch:=omega) only [↓wr,↓reduceIte,wq,ag,aa,af,Nat.reduceEqDiff,Nat.reduceAdd,Nat.reduceLT,Nat.reduceLeDiff,Int.reduceNeg,reduceCtorEq,t1,t2,t8,t10,hb10,encI,List.getElem?_map,hg1]
                intro m hm
                have o1:=ho.put (es':=[[gi (t.length - x.rest.length:Nat),uw,gi (x.high+1),up]]) rfl rfl
                rw[bQ]
                simp (disch:=omega) only [↓wr,↓reduceIte,wq,Nat.reduceEqDiff,Int.reduceNeg]
                refine cp ((o1.at 2 (by simp)).fresh hm) (by simp[aO]) (by unfold aG; simp; omega) (by unfold aG; simp; omega) ?_
                intro u2 H2 o2 _
                simp only[List.eraseIdx_cons_succ,List.eraseIdx_cons_zero] at o2
                have hb2:=o2.is 1 rfl (by simp)
                have hb8:=o2.is 4 rfl (by simp)
                have c2:=o2.head.cells
                have k2:=o2.head.gX
                have d8:b8≠b10:=o2.Ey 4 1 rfl rfl (by decide)
                simp (disch:=omega) only [↓wr,↓reduceIte,wq,aa,Nat.reduceEqDiff,Nat.reduceAdd,Nat.reduceLT,Nat.reduceLeDiff,Int.reduceNeg,reduceCtorEq,t8,t10,hb2,hb8,c2,k2,d8]
                have o3:=(o2.at 1 (by simp)).put (es':=[[gi (t.length - x.rest.length:Nat),uw,gi (x.high+1),u2]]) rfl rfl
                simp only[List.eraseIdx_cons_succ,List.eraseIdx_cons_zero] at o3
                have o4:=(o3.at 4 (by simp)).put (es':=[[gi (t.length - x.rest.length:Nat),uw,gi (x.high+1),u2]]) rfl rfl
                simp only[List.eraseIdx_cons_succ,List.eraseIdx_cons_zero] at o4
                refine ⟨by simp[(o2.own 2 rfl).gX],fun h' hv=>?_⟩
                have hfin:bI g (f+1) [-1 - n] (t.drop a)=some ⟨x.rest,x.word ++ [],x.post ++ [(k:Int)],max (x.high+1) 0⟩:=by
                  rw[hdr,ec (by omega),hra]
                  simp only
                  rw[if_pos (by omega),hx]
                  simp only[dT,Option.map_some,pV]
                rw[hfin]
                rw[← hv] at o4
                have f1:=KS (h:=h') (uw:=uw) (up:=u2) (x:=⟨x.rest,x.word ++ [],x.post ++ [(k:Int)],max (x.high+1) 0⟩) (tl:=t.length) (by simpa using o4.own 3 rfl) (by simpa using o4.own 2 rfl)
                simpa using f1
theorem Co (o:Option Wk) (tl:Nat):Tree (mj o tl):=by
  have h:∀ (a b:Int) (l m:List Int),Tree (.agg [gi a,encI l,gi b,encI m]):=by
    intro a b l m
    refine cg _ fun v hv=>?_
    simp only[List.mem_cons,List.not_mem_nil,or_false] at hv
    rcases hv with rfl | rfl | rfl | rfl
    · exact .val _
    · exact bX l
    · exact .val _
    · exact bX m
  cases o with
  | none=>exact h 0 0 [] []
  | some x=>exact h _ _ x.word x.post
set_option maxHeartbeats 4000000 in
theorem GW (g:ao) (hg:g.Ok) (t:List Int) (ht:aN t):aF Tryz.prog 68 [.agg (al g),encI t] (mj (eO g t) t.length):=by
  refine aF.of (zp g t) ?_
  have hc:=kh g hg
  unfold aN at ht
  refine az.of mixed sU ?_
  simp only[al,encS] at hc
  simp (disch:=omega) only [↓wr,↓reduceIte,wq,ah,Nat.reduceEqDiff,Nat.reduceAdd,Nat.reduceLeDiff,nk,al,encS]
  intro b4
  refine aC.pure hc (by kernel_rfl) ?_
  simp (disch:=omega) only [↓wr,↓reduceIte,wq]
  refine ar.split (fun hr=>?_) (fun hr=>?_)
  · simp (disch:=omega) only [↓wr,↓reduceIte,wq,ag,aj,Nat.reduceEqDiff,encI]
    refine ar.dec (fun hl=>?_) (fun hl=>?_)
    · simp (disch:=omega) only [↓wr,↓reduceIte,wq,aa,ab,Nat.reduceEqDiff,Nat.reduceAdd,Nat.reduceLT,Nat.reduceLeDiff,reduceCtorEq]
      intro h' _
      rw[eO,if_neg (by rintro ⟨_,h⟩; omega)]
      exact (fY (tl:=0)).jH
    · have hf:=aX hr
      have hwh:eO g t=match bI g t.length [-1 - g.start] t with
          | some x=>if x.rest=[] then some x else none
          | none=>none:=by rw[eO,if_pos ⟨hr,by omega⟩]; rfl
      have hcall:=Nv g hg hf t (by omega) t.length g.start 0 (by omega) hf.eA hf.start (by omega) (by omega)
      rw[List.drop_zero] at hcall
      simp only[al,encS,encI] at hcall
      simp (disch:=omega) only [↓wr,↓reduceIte,wq,Nat.reduceEqDiff,Nat.reduceAdd,Nat.reduceLT,Nat.reduceLeDiff]
      refine aC.qq hcall (by kernel_rfl) ⟨.tree (cg _ (cO g)),.tree (bX t),.tree (.val _),.tree (.val _),trivial⟩ ?_
      rw[hwh]
      cases hx:bI g t.length [-1 - g.start] t with
      | none =>
        rw[show mj none t.length=.agg [gi 0,encI [],gi 0,encI []] from rfl]
        simp (disch:=omega) only [↓wr,↓reduceIte,wq,ag,aj,aa,Nat.reduceEqDiff,Nat.reduceAdd,Nat.reduceLT,Nat.reduceLeDiff]
        intro b5 h5
        have d:b4≠b5:=fun e=>by simp[e] at h5
        simp (disch:=omega) only [wq,encI]
        refine ar.ne (fun _=>?_) (fun _=>?_)
        · simp (disch:=omega) only [↓wr,↓reduceIte,wq,aa,ab,Nat.reduceEqDiff,Nat.reduceAdd,Nat.reduceLT,Nat.reduceLeDiff,reduceCtorEq,d]
          intro h' _
          exact (fY (tl:=0)).jH
        · simp (disch:=omega) only [↓wr,↓reduceIte,wq,aa,Nat.reduceEqDiff,Nat.reduceAdd,Nat.reduceLT,Nat.reduceLeDiff,reduceCtorEq,d]
          intro h' _
          exact .tree _ (Co none t.length)
      | some x =>
        have hlt:=zI (by have:=hf.eA; omega) hx
        rw[show mj (some x) t.length=.agg [gi (t.length - x.rest.length:Nat),encI x.word,gi x.high,encI x.post] from rfl]
        simp (disch:=omega) only [↓wr,↓reduceIte,wq,ag,aj,aa,Nat.reduceEqDiff,Nat.reduceAdd,Nat.reduceLT,Nat.reduceLeDiff]
        intro b5 h5
        have d:b4≠b5:=fun e=>by simp[e] at h5
        simp (disch:=omega) only [wq,encI]
        refine ar.ne (fun hc=>?_) (fun hc=>?_)
        · simp (disch:=omega) only [↓wr,↓reduceIte,wq,aa,ab,Nat.reduceEqDiff,Nat.reduceAdd,Nat.reduceLT,Nat.reduceLeDiff,reduceCtorEq,d]
          intro h' _
          try simp only
          rw[if_neg (by intro e; rw[e] at hc; simp at hc)]
          exact (fY (tl:=0)).jH
        · simp (disch:=omega) only [↓wr,↓reduceIte,wq,aa,Nat.reduceEqDiff,Nat.reduceAdd,Nat.reduceLT,Nat.reduceLeDiff,reduceCtorEq,d]
          intro h' _
          try simp only
          rw[if_pos (List.length_eq_zero_iff.1 (by omega))]
          exact .tree _ (Co (some x) t.length)
  · simp (disch:=omega) only [↓wr,↓reduceIte,wq,aa,ab,Nat.reduceEqDiff,Nat.reduceAdd,Nat.reduceLT,Nat.reduceLeDiff,reduceCtorEq]
    intro h' _
    rw[eO,if_neg (by rintro ⟨h,_⟩; rw[h] at hr; simp at hr)]
    exact (fY (tl:=0)).jH
theorem G2 {g:ao} {t:List Int} {x:Wk} (h:eO g t=some x):x.rest=[]∧0 < t.length:=by
  unfold eO at h
  split at h
  · rename_i hr
    have h0:=(aX hr.1).eA
    cases hx:bI g t.length [-1 - g.start] t with
    | none=>rw[hx] at h; simp at h
    | some y =>
      rw[hx] at h
      simp only at h
      split at h
      · rename_i hy
        simp only[Option.some.injEq] at h
        subst h
        have:=zI (by omega) hx
        exact ⟨hy,by omega⟩
      · simp at h
  · simp at h
set_option maxHeartbeats 4000000 in
theorem JX (g:ao) (hg:g.Ok) (t:List Int) (ht:aN t):aF Tryz.prog 39 [.agg (al g),encI t] (gV (iI g t)):=by
  refine aF.of (zp g t) ?_
  have hc:=GW g hg t ht
  refine az.of mixed ud ?_
  simp only[al,encS] at hc
  simp (disch:=omega) only [↓wr,↓reduceIte,wq,ah,Nat.reduceEqDiff,Nat.reduceAdd,Nat.reduceLeDiff,oZ,al,encS]
  refine aC.pure hc (by kernel_rfl) ?_
  unfold iI
  cases hw:eO g t with
  | none =>
    rw[show mj none t.length=.agg [gi 0,encI [],gi 0,encI []] from rfl]
    simp (disch:=omega) only [↓wr,↓reduceIte,wq,ag,aa,Nat.reduceEqDiff,Nat.reduceAdd,Nat.reduceLT,Nat.reduceLeDiff]
    intro b6
    simp (disch:=omega) only [wq,encI]
    refine ar.eq (fun _=>?_) (fun e=>absurd rfl e)
    simp (disch:=omega) only [↓wr,↓reduceIte,wq,Nat.reduceEqDiff,Nat.reduceAdd,reduceCtorEq]
    intro h' _
    exact (cW (x:=([],1)) (.emp _)).jH
  | some x =>
    obtain ⟨e1,e2⟩:=G2 hw
    have e3:x.rest.length=0:=by rw[e1]; rfl
    rw[show mj (some x) t.length=.agg [gi (t.length - x.rest.length:Nat),encI x.word,gi x.high,encI x.post] from rfl]
    simp (disch:=omega) only [↓wr,↓reduceIte,wq,ag,aa,Nat.reduceEqDiff,Nat.reduceAdd,Nat.reduceLT,Nat.reduceLeDiff]
    intro b6
    simp (disch:=omega) only [wq,encI]
    refine ar.eq (fun e=>absurd e (by omega)) (fun _=>?_)
    simp (disch:=omega) only [↓wr,↓reduceIte,wq,Nat.reduceEqDiff,Nat.reduceAdd,Nat.reduceLT,reduceCtorEq]
    intro h' _
    exact .bt _ _ rfl fun j hj=>match j,hj with
      | 0,_=>.tree _ (bX x.word)
      | 1,_=>.tree _ (.val _)
      | n+2,hj=>absurd hj (by simp only[List.length_cons,List.length_nil]; omega)
def k7 {κ:Type} (kv:κ→V) (m:dx κ):List (V × V × Nat):=m.map fun x=>(kv x.1,x.2.1,x.2.2)
structure QC {κ:Type} [BEq κ] (P:Program) (kt:TypeId) (kv:κ→V):Prop where
  find:∀ k e m,mA P kt (kv k) e (k7 kv m)=some (jV k m)
  same:∀ k,sameKey (kv k) (kv k)=true
def Dw {κ:Type} (m:dx κ) (c:Nat):Prop:=(m.map (·.2.2)).Nodup∧∀ x∈m,x.2.2 < c
def mM {κ:Type} [BEq κ] (m:dx κ) (k:κ):Option Nat:=(m.find? fun x=>k == x.1).map (·.2.2)
section
variable {κ:Type} [BEq κ] [LawfulBEq κ] {kv:κ→V}
theorem EG (k:κ):∀ m:dx κ,match jV k m with
    | some i=>∃ x,m[i]?=some x∧x.1=k∧getM m k=some x.2.1∧mM m k=some x.2.2∧(k7 kv m)[i]?=some (kv k,x.2.1,x.2.2)∧∀ v c,(k7 kv m).set i (kv k,v,x.2.2)=k7 kv (cT k v c m)∧mM (cT k v c m) k=some x.2.2∧(cT k v c m).map (·.2.2)=m.map (·.2.2)
    | none=>getM m k=none∧mM m k=none∧∀ v c,k7 kv m ++ [(kv k,v,c)]=k7 kv (cT k v c m)∧mM (cT k v c m) k=some c∧(cT k v c m).map (·.2.2)=m.map (·.2.2) ++ [c]
  | []=>⟨rfl,rfl,fun v c=>⟨rfl,by simp[cT,mM],rfl⟩⟩
  | x :: r=>by
    have ih:=EG k r
    simp only[jV]
    cases hk:k == x.1 with
    | true =>
      have hx:x.1=k:=(eq_of_beq hk).symm
      exact ⟨x,rfl,hx,by simp[getM,hk],by simp[mM,hk],by simp[k7,hx],fun v c=>by simp[cT,hk,k7,mM]⟩
    | false =>
      simp only[Bool.false_eq_true,if_false]
      cases hi:jV k r with
      | some i =>
        rw[hi] at ih
        obtain ⟨y,h1,h2,h3,h4,h5,h6⟩:=ih
        refine ⟨y,by simpa using h1,h2,by simpa [getM,hk] using h3,by simpa [mM,hk] using h4,by simpa [k7] using h5,fun v c=>?_⟩
        obtain ⟨g1,g2,g3⟩:=h6 v c
        exact ⟨by simp only[k7] at g1 ⊢; simp[cT,hk,g1],by simpa [cT,hk,mM] using g2,by simp[cT,hk,g3]⟩
      | none =>
        rw[hi] at ih
        refine ⟨by simpa [getM,hk] using ih.1,by simpa [mM,hk] using ih.2.1,fun v c=>?_⟩
        obtain ⟨g1,g2,g3⟩:=ih.2.2 v c
        exact ⟨by simp only[k7] at g1 ⊢; simp[cT,hk,g1],by simpa [cT,hk,mM] using g2,by simp[cT,hk,g3]⟩
theorem Dw.put {m:dx κ} {c:Nat} (h:Dw m c) (k:κ) (v:V):Dw (cT k v c m) (c+1):=by
  have hg:=EG (kv:=fun _=>V.any) k m
  cases hj:jV k m with
  | some j =>
    rw[hj] at hg
    obtain ⟨y,_,_,_,_,_,h6⟩:=hg
    have e:=(h6 v c).2.2
    refine ⟨by rw[e]; exact h.1,fun x hx=>?_⟩
    have:x.2.2∈m.map (·.2.2):=by rw[← e]; exact List.mem_map.2 ⟨x,hx,rfl⟩
    obtain ⟨y,hy,e2⟩:=List.mem_map.1 this
    have:=h.2 y hy
    omega
  | none =>
    rw[hj] at hg
    have e:=(hg.2.2 v c).2.2
    refine ⟨?_,fun x hx=>?_⟩
    · rw[e,List.nodup_append]
      refine ⟨h.1,by simp,fun a ha b hb=>?_⟩
      simp at hb; subst hb
      obtain ⟨y,hy,rfl⟩:=List.mem_map.1 ha
      have:=h.2 y hy
      omega
    · have:x.2.2∈m.map (·.2.2) ++ [c]:=by rw[← e]; exact List.mem_map.2 ⟨x,hx,rfl⟩
      rcases List.mem_append.1 this with h1 | h1
      · obtain ⟨y,hy,e2⟩:=List.mem_map.1 h1
        have:=h.2 y hy
        omega
      · simp at h1; omega
variable {P:Program} {T:Env} {H:View} {kt et t ty:TypeId}
end
def vH (x:Item):List V:=[aj x.ba,aj x.dot,aj x.lA]
def Qo (x:Item):V:=.agg (vH x)
structure QE (P:Program) (kt:TypeId):Prop where
  ty:∃ f0 f1 f2:Field,P.underlying kt=some (.struct #[f0,f1,f2])∧f0.name≠ "_" ∧ f1.name≠ "_" ∧ f2.name≠ "_" ∧ P.underlying f0.type=some (.int .i64)∧P.underlying f1.type=some (.int .i64)∧P.underlying f2.type=some (.int .i64)∧f0.offset=0∧f1.offset=1∧f2.offset=2
  held:P.stoodInHeld kt=false
def Qz (m:dx Item) (s:List Item) (B:Nat):Prop:=∀ x,(x∈s→∃ k:Nat,getM m x=some (aj k)∧1≤k∧k≤B)∧(x ∉ s→getM m x=none)
structure rB (H:View) (c sid mid:Nat) (sv:Nat→V) (mi:Nat→Nat) (mm:Nat→dx Item) (cl:Nat→Nat) (g:ao) (p:List Int) (nu:V) (S S1:Nat→List Item) (B n:Nat) (K:List (Nat × bR)):Prop where
  box:H c=.arr 8 [[.aY (g.ay.map cr),encS g.au,.aY (g.rules.map aK),gi g.start,encI p,nu,.sl sid 0 n 1,.sl mid 0 n 1]]
  jF:H sid=.arr 1 ((List.range n).map fun j=>[sv j])
  seen:H mid=.arr 1 ((List.range n).map fun j=>[.mp (mi j)])
  set:∀ j,j < n→aV H (sv j) 3 ((S j).map vH)
  map:∀ j,j < n→H (mi j)=.map (k7 Qo (mm j)) (cl j)∧Dw (mm j) (cl j)∧Qz (mm j) (S1 j) B
  ne:sid≠mid
  zq:∀ i j o,i < n→j < n→owner (sv i)=some o→owner (sv j)=some o→i=j
  Ho:∀ i j,i < n→j < n→mi i=mi j→i=j
  off:∀ q∈K,H q.1=q.2∧q.2≠.dead∧q.1≠sid∧(∀ j,j < n→q.1≠mi j)∧∀ j,j < n→owner (sv j)≠some q.1
def Ch (H:View) (c:Nat) (g:ao) (p:List Int) (nu:V) (S:Nat→List Item) (B n:Nat) (K:List (Nat × bR)):Prop:=∃ sid mid sv mi mm cl,rB H c sid mid sv mi mm cl g p nu S S B n K
def xl (S:Nat→List Item) (a:Nat) (x:Item):Nat→List Item:=fun b=>if b=a then (if x∈S a then S a else S a ++ [x]) else S b
theorem Ch.more {H:View} {c:Nat} {g:ao} {p:List Int} {nu:V} {S:Nat→List Item} {B B' n:Nat} {K:List (Nat × bR)} (h:Ch H c g p nu S B n K) (hB:B≤B'):Ch H c g p nu S B' n K:=by
  obtain ⟨sid,mid,sv,mi,mm,cl,h⟩:=h
  refine ⟨sid,mid,sv,mi,mm,cl,h.box,h.jF,h.seen,h.set,fun j hj=>⟨(h.map j hj).1,(h.map j hj).2.1,fun x=>⟨fun hx=>?_,((h.map j hj).2.2 x).2⟩⟩,h.ne,h.zq,h.Ho,h.off⟩
  obtain ⟨k,h1,h2,h3⟩:=((h.map j hj).2.2 x).1 hx
  exact ⟨k,h1,h2,by omega⟩
theorem Ch.drop {H:View} {c:Nat} {g:ao} {p:List Int} {nu:V} {S:Nat→List Item} {B n:Nat} {q:Nat × bR} {K:List (Nat × bR)} (h:Ch H c g p nu S B n (q :: K)):Ch H c g p nu S B n K:=by
  obtain ⟨sid,mid,sv,mi,mm,cl,h⟩:=h
  exact ⟨sid,mid,sv,mi,mm,cl,h.box,h.jF,h.seen,h.set,h.map,h.ne,h.zq,h.Ho,fun q hq=>h.off q (by simp[hq])⟩
theorem rB.new {H:View} {c sid mid:Nat} {sv:Nat→V} {mi:Nat→Nat} {mm:Nat→dx Item} {cl:Nat→Nat} {g:ao} {p:List Int} {nu:V} {S S1:Nat→List Item} {B n:Nat} {K:List (Nat × bR)} (h:rB H c sid mid sv mi mm cl g p nu S S1 B n K)
    {b:Nat} {o:bR} (hb:H b=.dead) (ho:o≠.dead):rB (H.set b o) c sid mid sv mi mm cl g p nu S S1 B n ((b,o) :: K):=by
  have keep:∀ id,H id≠.dead→(H.set b o) id=H id:=fun id hid=>by
    have e:id≠b:=by rintro rfl; exact hid hb
    simp[View.set,e]
  have live:∀ {id},H id≠.dead→b≠id:=fun hid e=>hid (e ▸ hb)
  refine ⟨?_,?_,?_,fun j hj=>?_,fun j hj=>?_,h.ne,h.zq,h.Ho,fun q hq=>?_⟩
  · rw[keep _ (by rw[h.box]; simp)]; exact h.box
  · rw[keep _ (by rw[h.jF]; simp)]; exact h.jF
  · rw[keep _ (by rw[h.seen]; simp)]; exact h.seen
  · exact (h.set j hj).fresh hb
  · rw[keep _ (by rw[(h.map j hj).1]; simp)]; exact h.map j hj
  · rcases List.mem_cons.1 hq with rfl | hq
    · refine ⟨by simp[View.set],ho,live (by rw[h.jF]; simp),fun j hj=>live (by rw[(h.map j hj).1]; simp),fun j hj=>?_⟩
      have:=(h.set j hj).ne hb
      exact this
    · obtain ⟨h1,h2,h3⟩:=h.off q hq
      exact ⟨by rw[keep _ (by rw[h1]; exact h2)]; exact h1,h2,h3⟩
theorem Ch.new {H:View} {c:Nat} {g:ao} {p:List Int} {nu:V} {S:Nat→List Item} {B n b:Nat} {o:bR} {K:List (Nat × bR)} (h:Ch H c g p nu S B n K) (hb:H b=.dead) (ho:o≠.dead):Ch (H.set b o) c g p nu S B n ((b,o) :: K):=by
  obtain ⟨sid,mid,sv,mi,mm,cl,h⟩:=h
  exact ⟨sid,mid,sv,mi,mm,cl,h.new hb ho⟩
theorem Ch.kept {H:View} {c:Nat} {g:ao} {p:List Int} {nu:V} {S:Nat→List Item} {B n:Nat} {K:List (Nat × bR)} (h:Ch H c g p nu S B n K):∀ q∈K,H q.1=q.2:=by
  obtain ⟨sid,mid,sv,mi,mm,cl,h⟩:=h
  exact fun q hq=>(h.off q hq).1
theorem rB.Qu {H H':View} {c sid mid:Nat} {sv:Nat→V} {mi:Nat→Nat} {mm:Nat→dx Item} {cl:Nat→Nat} {g:ao} {p:List Int} {nu:V} {S S1:Nat→List Item} {B n:Nat} {K:List (Nat × bR)} (h:rB H c sid mid sv mi mm cl g p nu S S1 B n K)
    {at0:Nat} (ha:at0 < n) {x:Item} (hx:¬ x∈S at0) {u':V} (ho:aV H' u' 3 ((S at0).map vH ++ [vH x])) (hl:Left H H' (sv at0) u') :
    rB (H'.set sid (.arr 1 (((List.range n).map fun j=>[sv j]).set at0 [u']))) c sid mid (fun j=>if j=at0 then u' else sv j) mi mm cl g p nu (xl S at0 x) S1 B n K:=by
  have own:∀ {id},owner (sv at0)=some id→H id=.arr 3 ((S at0).map vH):=fun hid=>((h.set at0 ha).live hid).1
  have n1:owner (sv at0)≠some sid:=fun e=>by
    have:=own e
    rw[h.jF] at this; simp at this
  have keep:∀ id,H id≠.dead→owner (sv at0)≠some id→H' id=H id∧owner u'≠some id:=hl
  have ns:=keep sid (by rw[h.jF]; simp) n1
  have keep2:∀ id,H id≠.dead→owner (sv at0)≠some id→id≠sid→(H'.set sid (.arr 1 (((List.range n).map fun j=>[sv j]).set at0 [u']))) id=H id:=fun id h1 h2 h3=>by
    simp only[View.set,if_neg h3]; exact (keep id h1 h2).1
  have no3:∀ {id o},H id=o→o≠.arr 3 ((S at0).map vH)→owner (sv at0)≠some id:=fun h1 h2 e=>h2 (by rw[← h1]; exact own e)
  refine ⟨?_,?_,?_,fun j hj=>?_,fun j hj=>?_,h.ne,fun i j o hi hj h1 h2=>?_,h.Ho,fun q hq=>?_⟩
  · rw[keep2 c (by rw[h.box]; simp) (no3 h.box (by simp)) (by rintro rfl; have:=h.box; rw[h.jF] at this; simp at this)]; exact h.box
  · simp only[View.set,if_true]
    congr 1
    rw[F1]
    apply List.map_congr_left
    intro j _
    split <;> rfl
  · rw[keep2 mid (by rw[h.seen]; simp) (no3 h.seen (by simp)) h.ne.symm]; exact h.seen
  · by_cases e:j=at0
    · subst e
      simp only[if_true,xl,if_neg hx,List.map_append,List.map_cons,List.map_nil]
      exact ho.other ns.2
    · simp only[if_neg e,xl]
      refine (h.set j hj).keep fun id hid=>?_
      have hlv:=((h.set j hj).live hid).1
      refine keep2 id (by rw[hlv]; simp) (fun e2=>e (h.zq j at0 id hj ha hid e2)) ?_
      rintro rfl; rw[h.jF] at hlv; simp at hlv
  · obtain ⟨g1,g2,g3⟩:=h.map j hj
    refine ⟨?_,g2,g3⟩
    rw[keep2 (mi j) (by rw[g1]; simp) (no3 g1 (by simp)) (by intro e; rw[e,h.jF] at g1; simp at g1)]; exact g1
  · by_cases e1:i=at0
    · by_cases e2:j=at0
      · omega
      · simp only[if_pos e1,if_neg e2] at h1 h2
        exfalso
        have hlv:=((h.set j hj).live h2).1
        exact (keep o (by rw[hlv]; simp) (fun e3=>e2 (h.zq j at0 o hj ha h2 e3))).2 h1
    · by_cases e2:j=at0
      · simp only[if_neg e1,if_pos e2] at h1 h2
        exfalso
        have hlv:=((h.set i hi).live h1).1
        exact (keep o (by rw[hlv]; simp) (fun e3=>e1 (h.zq i at0 o hi ha h1 e3))).2 h2
      · simp only[if_neg e1,if_neg e2] at h1 h2
        exact h.zq i j o hi hj h1 h2
  · obtain ⟨h1,h2,h3,h4,h5⟩:=h.off q hq
    refine ⟨?_,h2,h3,h4,fun j hj=>?_⟩
    · rw[keep2 q.1 (by rw[h1]; exact h2) (h5 at0 ha) h3]; exact h1
    · by_cases e:j=at0
      · simp only[if_pos e]; exact (keep q.1 (by rw[h1]; exact h2) (h5 at0 ha)).2
      · simp only[if_neg e]; exact h5 j hj
inductive DP (g:ao) (p:List Int):Int→Nat→Prop
  | start:DP g p g.start 0
  | step (R:aM) (l1 l2:List Int) (n:Int) (f a:Nat):R∈g.rules→R.right=l1 ++ (-1 - n) :: l2→DP g p R.left f→Sp g p l1 f a→DP g p n a
def HJ (g:ao) (p:List Int) (x:Item):Prop:=∃ R,g.rules[x.ba]?=some R∧DP g p R.left x.lA
inductive EW (g:ao) (p:List Int):Int→Nat→Prop
  | full (R:aM) (l1 l2:List Int) (f:Nat):R∈g.rules→R.right=l1 ++ l2→Sp g p l1 f p.length→EW g p R.left f
  | deep (R:aM) (l1 l2:List Int) (s:Int) (f a:Nat):R∈g.rules→R.right=l1 ++ s :: l2→s < 0→Sp g p l1 f a→a < p.length→EW g p (-1 - s) a→EW g p R.left f
theorem DP.len {g:ao} {p:List Int} {n:Int} {a:Nat} (h:DP g p n a):a≤p.length:=by
  induction h with
  | start=>omega
  | step _ _ _ _ _ _ _ _ _ hs ih=>exact hs.len ih
theorem Nx {l:List Int} {d:Nat} {s:Int} (h:l[d]?=some s):l=l.take d ++ s :: l.drop (d+1):=by
  have h1:=(List.getElem?_eq_some_iff.1 h)
  obtain ⟨hl,he⟩:=h1
  rw[← he]
  simp
theorem HJ.ask {g:ao} {p:List Int} {a:Nat} {x:Item} (h:HJ g p x) (hs:Sound g p a x) {R:aM} (hR:g.rules[x.ba]?=some R) {s:Int} (hd:R.right[x.dot]?=some s):DP g p (-1 - s) a:=by
  obtain ⟨R1,h1,h2⟩:=h
  obtain ⟨R2,h3,_,_,h4⟩:=hs
  rw[hR] at h1 h3; simp at h1 h3; subst h1; subst h3
  refine .step R (R.right.take x.dot) (R.right.drop (x.dot+1)) (-1 - s) x.lA a (List.mem_of_getElem? hR) ?_ h2 h4
  rw[show -1 - (-1 - s)=s by omega]
  exact Nx hd
theorem Sp.cut {g:ao} {p:List Int} {k:Nat} {l:List Int} {i j:Nat} (h:Sp g p l i j):j≤k→Sp g (p.take k) l i j:=by
  induction h with
  | nil i=>exact fun _=>.nil i
  | term s l i j h0 hf h ih =>
    intro hk
    have:=h.le
    obtain ⟨c,hc,h2⟩:=hf
    exact .term s l i j h0 ⟨c,by rw[List.getElem?_take,if_pos (by omega)]; exact hc,h2⟩ (ih hk)
  | bW s l R i m j h0 hR hl h1 h2 ih1 ih2 =>
    intro hk
    have:=h2.le
    exact .bW s l R i m j h0 hR hl (ih1 (by omega)) (ih2 hk)
def Grow (a:Nat) (S S':Nat→List Item):Prop:=∀ b,S b <+: S' b∧(b < a→S' b=S b)
structure Good (g:ao) (p:List Int) (S:Nat→List Item):Prop where
  nodup:∀ a,(S a).Nodup
  sound:∀ a x,x∈S a→Sound g p a x
  top:∀ a x,x∈S a→HJ g p x
  out:∀ a,p.length < a→S a=[]
theorem Grow.refl (a:Nat) (S:Nat→List Item):Grow a S S:=fun _=>⟨List.prefix_refl _,fun _=>rfl⟩
theorem Grow.trans {a:Nat} {S S' S'':Nat→List Item} (h:Grow a S S') (h':Grow a S' S''):Grow a S S'':=fun b=>⟨(h b).1.trans (h' b).1,fun hb=>((h' b).2 hb).trans ((h b).2 hb)⟩
theorem Grow.mem {a b:Nat} {S S':Nat→List Item} (h:Grow a S S') {x:Item} (hx:x∈S b):x∈S' b:=(h b).1.subset hx
theorem Good.put {g:ao} {p:List Int} {S:Nat→List Item} (h:Good g p S) {a:Nat} {x:Item} (hx:Sound g p a x) (ht:HJ g p x) (ha:a≤p.length):Good g p (xl S a x):=by
  refine ⟨fun b=>?_,fun b y hy=>?_,fun b y hy=>?_,fun b hb=>?_⟩
  · unfold xl
    split
    · rename_i e
      subst e
      split
      · exact h.nodup _
      · rename_i hn
        rw[List.nodup_append]
        refine ⟨h.nodup _,by simp,fun u hu v hv=>?_⟩
        simp at hv
        rintro rfl
        exact hn (hv ▸ hu)
    · exact h.nodup _
  · unfold xl at hy
    split at hy
    · rename_i e
      subst e
      split at hy
      · exact h.sound _ _ hy
      · rcases List.mem_append.1 hy with hy | hy
        · exact h.sound _ _ hy
        · simp at hy; subst hy; exact hx
    · exact h.sound _ _ hy
  · unfold xl at hy
    split at hy
    · rename_i e
      subst e
      split at hy
      · exact h.top _ _ hy
      · rcases List.mem_append.1 hy with hy | hy
        · exact h.top _ _ hy
        · simp at hy; subst hy; exact ht
    · exact h.top _ _ hy
  · unfold xl
    rw[if_neg (by omega)]
    exact h.out b hb
theorem sN:∀ (N:Nat) (l:List Nat),l.Nodup→(∀ x∈l,x < N)→l.length≤N
  | 0,l,_,h=>by
    cases l with
    | nil=>simp
    | cons x l=>exact absurd (h x (by simp)) (by omega)
  | N+1,l,hd,h=>by
    by_cases e:N∈l
    · have h1:=sN N (l.erase N) (hd.erase N) fun x hx=>by
        have h2:=(hd.mem_erase_iff).1 hx
        have:=h x h2.2
        have:=h2.1
        omega
      rw[List.length_erase_of_mem e] at h1
      omega
    · have:=sN N l hd fun x hx=>by
        have:=h x hx
        have:x≠N:=by rintro rfl; exact e hx
        omega
      omega
theorem CW {α:Type} {f:α→Nat} : ∀ {l:List α},l.Nodup→(∀ x∈l,∀ y∈l,f x=f y→x=y)→(l.map f).Nodup
  | [],_,_=>by simp
  | x :: l,hd,h=>by
    rw[List.nodup_cons] at hd
    rw[List.map_cons,List.nodup_cons]
    refine ⟨fun hm=>?_,CW hd.2 fun a ha b hb=>h a (by simp[ha]) b (by simp[hb])⟩
    obtain ⟨y,hy,e⟩:=List.mem_map.1 hm
    have:=h y (by simp[hy]) x (by simp) e
    exact hd.1 (this ▸ hy)
theorem Sound.small {g:ao} (hf:g.gp) {p:List Int} {a:Nat} {x:Item} (h:Sound g p a x):x.ba < 40∧x.dot < 7∧x.lA≤a:=by
  obtain ⟨R,hR,hd,hfr,_⟩:=h
  have h1:=(List.getElem?_eq_some_iff.1 hR).1
  have h2:=hf.rules
  have h3:=hf.right R (List.mem_of_getElem? hR)
  omega
theorem Good.len {g:ao} (hf:g.gp) {p:List Int} (hp:p.length≤60) {S:Nat→List Item} (h:Good g p S) (a:Nat):(S a).length≤17080:=by
  by_cases ha:p.length < a
  · rw[h.out a ha]; simp
  · have hb:∀ x∈S a,x.ba < 40∧x.dot < 7∧x.lA < 61:=fun x hx=>by
      have:=(h.sound a x hx).small hf
      omega
    have:=sN 17080 ((S a).map fun x=>x.ba * 427+x.dot * 61+x.lA) (CW (h.nodup a) fun x hx y hy e=>by
      have h1:=hb x hx
      have h2:=hb y hy
      cases x; cases y
      simp only at e h1 h2
      simp only[Item.mk.injEq]
      omega) (fun v hv=>by
      obtain ⟨x,hx,rfl⟩:=List.mem_map.1 hv
      have:=hb x hx
      omega)
    simpa using this
theorem Ch.box {H:View} {c:Nat} {g:ao} {p:List Int} {nu:V} {S:Nat→List Item} {B n:Nat} {K:List (Nat × bR)} (h:Ch H c g p nu S B n K) :
    ∃ sid mid,H c=.arr 8 [[.aY (g.ay.map cr),encS g.au,.aY (g.rules.map aK),gi g.start,encI p,nu,.sl sid 0 n 1,.sl mid 0 n 1]]:=by
  obtain ⟨sid,mid,sv,mi,mm,cl,h⟩:=h
  exact ⟨sid,mid,h.box⟩
theorem Ch.set {H:View} {c:Nat} {g:ao} {p:List Int} {nu:V} {S:Nat→List Item} {B n:Nat} {K:List (Nat × bR)} (h:Ch H c g p nu S B n K) {a:Nat} (ha:a < n) :
    ∃ (sid mid:Nat) (sv:Nat→V),H c=.arr 8 [[.aY (g.ay.map cr),encS g.au,.aY (g.rules.map aK),gi g.start,encI p,nu,.sl sid 0 n 1,.sl mid 0 n 1]]∧H sid=.arr 1 ((List.range n).map fun j=>[sv j])∧aV H (sv a) 3 ((S a).map vH):=by
  obtain ⟨sid,mid,sv,mi,mm,cl,h⟩:=h
  exact ⟨sid,mid,sv,h.box,h.jF,h.set a ha⟩
def Qn (g:ao) (bW:Int) (S:Nat→List Item) (at_:Nat) (x:Item):Prop:=∀ R,g.rules[x.ba]?=some R→R.right[x.dot]?=some (-1 - bW)→(⟨x.ba,x.dot+1,x.lA⟩:Item)∈S at_
theorem Sound.on {g:ao} {p:List Int} {f a:Nat} {x:Item} (h:Sound g p f x) {R:aM} (hR:g.rules[x.ba]?=some R) {s:Int} (hs:R.right[x.dot]?=some s) (hsp:Sp g p [s] f a):Sound g p a ⟨x.ba,x.dot+1,x.lA⟩:=by
  obtain ⟨R',hR',h1,h2,h3⟩:=h
  rw[hR] at hR'; simp at hR'; subst hR'
  have hlt:=(List.getElem?_eq_some_iff.1 hs).1
  refine ⟨R,hR,hlt,Nat.le_trans h2 hsp.le,?_⟩
  have:R.right.take (x.dot+1)=R.right.take x.dot ++ [s]:=by rw[List.take_add_one,hs]; rfl
  rw[this]
  exact h3.app hsp
structure LK (g:ao) (p:List Int) (S:Nat→List Item) (a:Nat) (x:Item):Prop where
  term:∀ R s,g.rules[x.ba]?=some R→R.right[x.dot]?=some s→0≤s→oP p a s→(⟨x.ba,x.dot+1,x.lA⟩:Item)∈S (a+1)
  pred:∀ R s i R',g.rules[x.ba]?=some R→R.right[x.dot]?=some s→s < 0→g.rules[i]?=some R'→R'.left = -1 - s→(⟨i,0,a⟩:Item)∈S a
  null:∀ R s,g.rules[x.ba]?=some R→R.right[x.dot]?=some s→s < 0→(aI g false).getD (-1 - s).toNat false=true→(⟨x.ba,x.dot+1,x.lA⟩:Item)∈S a
  comp:∀ R,g.rules[x.ba]?=some R→x.dot=R.right.length→x.lA < a→∀ y∈S x.lA,Qn g R.left S a y
theorem LK.grow {g:ao} {p:List Int} {S S':Nat→List Item} {a:Nat} {x:Item} (h:LK g p S a x) (hg:Grow a S S'):LK g p S' a x where
  term:=fun R s h1 h2 h3 h4=>hg.mem (h.term R s h1 h2 h3 h4)
  pred:=fun R s i R' h1 h2 h3 h4 h5=>hg.mem (h.pred R s i R' h1 h2 h3 h4 h5)
  null:=fun R s h1 h2 h3 h4=>hg.mem (h.null R s h1 h2 h3 h4)
  comp:=fun R h1 h2 h3 y hy R' h4 h5=>hg.mem (h.comp R h1 h2 h3 y (by rw[(hg x.lA).2 h3] at hy; exact hy) R' h4 h5)
structure vr (H:View) (c sid:Nat) (u:V) (mi:Nat→Nat) (g:ao) (p:List Int) (nu:V) (n k:Nat):Prop where
  box:H c=.arr 8 [[.aY (g.ay.map cr),encS g.au,.aY (g.rules.map aK),gi g.start,encI p,nu,.sl sid 0 n 1,u]]
  jF:H sid=.arr 1 ((List.range n).map fun _=>[.emp 1])
  seen:aV H u 1 ((List.range k).map fun j=>[.mp (mi j)])
  map:∀ j,j < k→H (mi j)=.map [] 0
  inj:∀ i j,i < k→j < k→mi i=mi j→i=j
theorem vr.Pc {H:View} {c sid:Nat} {u:V} {mi:Nat→Nat} {g:ao} {p:List Int} {nu:V} {n k:Nat} (h:vr H c sid u mi g p nu n k) (hn:0 < n):owner u≠some sid:=fun e=>by
  have h1:=(h.seen.live e).1
  rw[h.jF] at h1
  simp only[bR.arr.injEq,true_and] at h1
  have h2:=congrArg (·[0]?) h1
  simp[hn] at h2
  by_cases hk:0 < k
  · simp[hk] at h2
  · have:k=0:=by omega
    subst this
    simp at h2
theorem vr.Qf {H:View} {c sid:Nat} {u:V} {mi:Nat→Nat} {g:ao} {p:List Int} {nu:V} {n k:Nat} (h:vr H c sid u mi g p nu n k):owner u≠some c:=fun e=>by
  have h1:=(h.seen.live e).1
  rw[h.box] at h1
  simp at h1
theorem vr.QB {H:View} {c sid:Nat} {u:V} {mi:Nat→Nat} {g:ao} {p:List Int} {nu:V} {n:Nat} (h:vr H c sid u mi g p nu n n) (hn:0 < n):Ch H c g p nu (fun _=>[]) 0 n []:=by
  obtain ⟨mid,hu,hm⟩:=h.seen.sl (by simp; omega)
  have hoff:=h.Pc hn
  refine ⟨sid,mid,fun _=>.emp 1,mi,fun _=>[],fun _=>0,?_,h.jF,hm,fun j hj=>aV.nil,fun j hj=>⟨h.map j hj,?_,fun x=>⟨fun hx=>by simp at hx,fun _=>rfl⟩⟩,?_,fun i j o _ _ h1=>by simp[owner] at h1,fun i j hi hj e=>h.inj i j hi hj e,fun q hq=>by simp at hq⟩
  · have:=h.box
    rw[hu] at this
    simpa using this
  · exact ⟨by simp,fun x hx=>by simp at hx⟩
  · rintro rfl
    rw[hu] at hoff
    exact hoff rfl
theorem vr.next {H H2:View} {c sid m:Nat} {u u':V} {mi:Nat→Nat} {g:ao} {p:List Int} {nu:V} {n k:Nat} (h:vr H c sid u mi g p nu n k) (hn:0 < n) (hm:H m=.dead) (ho:aV H2 u' 1 (((List.range k).map fun j=>[.mp (mi j)]) ++ [[.mp m]])) (hm2:H2 m=.map [] 0)
    (hl:∀ id,H id≠.dead→owner u≠some id→H2 id=H id∧owner u'≠some id) :
    vr (H2.set c (.arr 8 [[.aY (g.ay.map cr),encS g.au,.aY (g.rules.map aK),gi g.start,encI p,nu,.sl sid 0 n 1,u']])) c sid u' (fun j=>if j=k then m else mi j) g p nu n (k+1):=by
  have hC:=hl c (by rw[h.box]; simp) h.Qf
  have hS:=hl sid (by rw[h.jF]; simp) (h.Pc hn)
  have hcs:sid≠c:=by rintro rfl; have:=h.box; rw[h.jF] at this; simp at this
  have hmn:∀ j,j < k→mi j≠m:=fun j hj e=>by have:=h.map j hj; rw[e,hm] at this; simp at this
  refine ⟨by simp[View.set],?_,?_,fun j hj=>?_,fun i j hi hj e=>?_⟩
  · simp only[View.set,if_neg hcs]
    rw[hS.1]; exact h.jF
  · refine aV.other ?_ hC.2
    have:(List.range (k+1)).map (fun j=>[V.mp (if j=k then m else mi j)])=(List.range k).map (fun j=>[V.mp (mi j)]) ++ [[.mp m]]:=by
      rw[List.range_succ,List.map_append,List.map_cons,List.map_nil,if_pos rfl]
      congr 1
      apply List.map_congr_left
      intro j hj
      rw[if_neg (by have:=List.mem_range.1 hj; omega)]
    rw[this]; exact ho
  · by_cases e:j=k
    · simp only[if_pos e]
      have:m≠c:=by rintro rfl; rw[h.box] at hm; simp at hm
      simp only[View.set,if_neg this]
      exact hm2
    · simp only[if_neg e]
      have h1:=h.map j (by omega)
      have:mi j≠c:=by intro e2; rw[e2,h.box] at h1; simp at h1
      simp only[View.set,if_neg this]
      rw[(hl (mi j) (by rw[h1]; simp) (fun e2=>by have:=(h.seen.live e2).1; rw[h1] at this; simp at this)).1]
      exact h1
  · by_cases e1:i=k
    · by_cases e2:j=k
      · omega
      · simp only[if_pos e1,if_neg e2] at e
        exact absurd e.symm (hmn j (by omega))
    · by_cases e2:j=k
      · simp only[if_neg e1,if_pos e2] at e
        exact absurd e (hmn i (by omega))
      · simp only[if_neg e1,if_neg e2] at e
        exact h.inj i j (by omega) (by omega) e
def Kept (H H':View):Prop:=∀ id,H id≠.dead→H' id=H id
theorem Kept.refl (H:View):Kept H H:=fun _ _=>rfl
theorem Kept.trans {H H' H'':View} (h:Kept H H') (h':Kept H' H''):Kept H H'':=fun id hid=>by
  have h1:=h id hid
  rw[← h1] at hid
  rw[h' id hid,h1]
theorem Kept.new {H:View} {b:Nat} {o:bR} (hb:H b=.dead):Kept H (H.set b o):=fun id hid=>by
  have:id≠b:=by rintro rfl; exact hid hb
  simp[View.set,this]
def Lm (H:View) (c:Nat) (g:ao) (p:List Int):Prop:=∃ nu sid mid n,H c=.arr 8 [[.aY (g.ay.map cr),encS g.au,.aY (g.rules.map aK),gi g.start,encI p,nu,.sl sid 0 n 1,.sl mid 0 n 1]]
theorem Lm.keep {H H':View} {c:Nat} {g:ao} {p:List Int} (h:Lm H c g p) (hs:Kept H H'):Lm H' c g p:=by
  obtain ⟨nu,sid,mid,n,h⟩:=h
  exact ⟨nu,sid,mid,n,by rw[hs c (by rw[h]; simp)]; exact h⟩
abbrev Pt:=List (List Bool)
def Ed (P:Pt) (N M:Nat):Prop:=P.length=N∧∀ r∈P,r.length=M
def PU (P:Pt):V:=.aY (P.map fun c=>[bF c])
theorem Ed.row {P:Pt} {N M n:Nat} (h:Ed P N M) (hn:n < N):∃ r,P[n]?=some r∧r.length=M∧P.getD n []=r:=by
  have hl:n < P.length:=by rw[h.1]; exact hn
  exact ⟨P[n],List.getElem?_eq_getElem hl,h.2 _ (List.getElem_mem hl),by simp[List.getD_eq_getElem?_getD,hl]⟩
structure mn (H:View) (I N M:Nat) (R:Nat→Nat) (P:Pt):Prop where
  top:H I=.arr 1 ((List.range N).map fun n=>[.sl (R n) 0 M 1])
  row:∀ n,n < N→H (R n)=.arr 1 (cD (P.getD n []))
  inj:∀ n n',n < N→n' < N→R n=R n'→n=n'
structure Em (H:View) (I N M k:Nat) (R:Nat→Nat):Prop where
  top:H I=.arr 1 ((List.range N).map fun n=>[if n < k then .sl (R n) 0 M 1 else .emp 1])
  row:∀ n,n < k→H (R n)=.arr 1 (List.replicate M [gb false])
  inj:∀ n n',n < k→n' < k→R n=R n'→n=n'
def Pz (N M:Nat):Pt:=List.replicate N (List.replicate M false)
def HC (P:Pt) (n i:Nat):Pt:=P.set n ((P.getD n []).set i true)
theorem mn.Qs {H:View} {I N M:Nat} {R:Nat→Nat} {P:Pt} (h:mn H I N M R P) (hP:Ed P N M) (hM:0 < M) {n:Nat} (hn:n < N):I≠R n:=fun e=>by
  have h1:=h.row n hn
  obtain ⟨r,_,h2,h3⟩:=hP.row hn
  rw[← e,h.top,h3] at h1
  simp only[bR.arr.injEq,true_and] at h1
  exact zl (by omega) h1.symm fun _ _=>by simp
theorem mn.keep {H H':View} {I N M:Nat} {R:Nat→Nat} {P:Pt} (h:mn H I N M R P) (hk:∀ id,H id≠.dead→H' id=H id):mn H' I N M R P :=
  ⟨by rw[hk _ (by rw[h.top]; simp)]; exact h.top,fun n hn=>by rw[hk _ (by rw[h.row n hn]; simp)]; exact h.row n hn,h.inj⟩
theorem mn.put {H:View} {I N M:Nat} {R:Nat→Nat} {P:Pt} (h:mn H I N M R P) (hP:Ed P N M) {n i:Nat} (hn:n < N) (hi:i < M) :
    mn (H.set (R n) (.arr 1 (cD ((P.getD n []).set i true)))) I N M R (HC P n i):=by
  have hI:=h.Qs hP (by omega) hn
  have hnl:n < P.length:=by rw[hP.1]; exact hn
  refine ⟨by simp only[View.set,if_neg hI]; exact h.top,fun m hm=>?_,h.inj⟩
  by_cases e:R m=R n
  · have:=h.inj m n hm hn e
    subst this
    simp only[View.set,if_true]
    congr 2
    simp[HC,List.getD_eq_getElem?_getD,hnl]
  · simp only[View.set,if_neg e]
    rw[h.row m hm]
    congr 2
    have:n≠m:=fun e2=>e (by rw[e2])
    simp[HC,List.getD_eq_getElem?_getD,this]
theorem mn.BY {H:View} {I N M:Nat} {R:Nat→Nat} {P:Pt} (hG:mn H I N M R P) (hP:Ed P N M):dh H (.sl I 0 N 1) (PU P):=by
  rintro h rfl
  refine cP.jH ?_
  refine .sl I 0 N 1 1 _ _ hG.top (by simp) (by simp[hP.1]) (fun n hn=>?_) (fun n j hn hj=>?_)
  · obtain ⟨r,hr,_⟩:=hP.row hn
    simp[List.getD_eq_getElem?_getD,hr,hn]
  · obtain ⟨r,hr,hrl,hrg⟩:=hP.row hn
    have e1:((P.map fun c=>[bF c]).getD n [])=[bF r]:=by simp[List.getD_eq_getElem?_getD,hr]
    have e2:(((List.range N).map fun n=>[V.sl (R n) 0 M 1]).getD (0+n) [])=[V.sl (R n) 0 M 1]:=by simp[List.getD_eq_getElem?_getD,hn]
    rw[e1] at hj ⊢
    rw[e2]
    have:j=0:=by simp at hj; omega
    subst this
    simp only[List.getD_cons_zero]
    have hro:=hG.row n hn
    rw[hrg] at hro
    have:=lP (h:=h) (id:=R n) (is:=r) hro
    rwa [hrl] at this
theorem Em.done {H:View} {I N M:Nat} {R:Nat→Nat} (h:Em H I N M N R):mn H I N M R (Pz N M):=by
  refine ⟨?_,fun n hn=>?_,h.inj⟩
  · rw[h.top]
    congr 1
    apply List.map_congr_left
    intro n hn
    rw[if_pos (by simpa using hn)]
  · rw[h.row n hn]
    simp[Pz,List.getD_eq_getElem?_getD,hn]
theorem Em.next {H:View} {I N M k:Nat} {R:Nat→Nat} {r:Nat} (h:Em H I N M k R) (hk:k < N) (hr:H r=.dead) :
    Em ((H.set r (.arr 1 (List.replicate M [gb false]))).set I (.arr 1 ((List.range N).map fun n=>[if n < k+1 then .sl (if n=k then r else R n) 0 M 1 else .emp 1]))) I N M (k+1) (fun n=>if n=k then r else R n):=by
  have hI:r≠I:=by rintro rfl; rw[h.top] at hr; simp at hr
  have hRI:∀ n,n < k→R n≠I:=fun n hn e=>by
    have h1:=h.row n hn
    rw[e,h.top] at h1
    simp only[bR.arr.injEq,true_and] at h1
    have h2:=congrArg (·[0]?) h1
    simp only[List.getElem?_map,List.getElem?_range (show 0 < N by omega),List.getElem?_replicate] at h2
    split at h2 <;> simp at h2
    split at h2 <;> simp at h2
  have hRr:∀ n,n < k→R n≠r:=fun n hn e=>by have:=h.row n hn; rw[e,hr] at this; simp at this
  refine ⟨by simp[View.set],fun n hn=>?_,fun n n' hn hn' e=>?_⟩
  · by_cases e:n=k
    · simp only[if_pos e,View.set,if_neg hI,if_true]
    · simp only[if_neg e,View.set,if_neg (hRI n (by omega)),if_neg (hRr n (by omega))]
      exact h.row n (by omega)
  · by_cases e1:n=k
    · by_cases e2:n'=k
      · omega
      · simp only[if_pos e1,if_neg e2] at e
        exact absurd e.symm (hRr n' (by omega))
    · by_cases e2:n'=k
      · simp only[if_neg e1,if_pos e2] at e
        exact absurd e (hRr n (by omega))
      · simp only[if_neg e1,if_neg e2] at e
        exact h.inj n n' (by omega) (by omega) e
def Mc:List Int:=[37,37,32,115,32,58,32,39,97,39,32,115,32,124,32,59]
def qy:ao:=⟨[⟨⟨#[39,97,39]⟩,0,0⟩],[⟨#[115]⟩],[⟨0,[0,(-1)],0⟩,⟨0,[],(-1)⟩],0⟩
def Mg:ao:=⟨[⟨⟨#[39,97,39]⟩,0,0⟩,⟨⟨#[39,98,39]⟩,0,0⟩],[⟨#[115]⟩,⟨#[110]⟩],[⟨0,[(-1),(-1)],(-1)⟩,⟨0,[(-2),0,(-2),1],1⟩,⟨0,[],(-1)⟩,⟨1,[(-2)],(-1)⟩,⟨1,[],(-1)⟩],0⟩
theorem PJ:bP Tryz.prog 41 [zO Mc] (qI qy):=FO (by kernel_rfl)
section
variable {g:ao} {p:List Int} {T:Tb} {N:Nat}
end
theorem n6 (p:List Int) (i:Nat):Sp Mg p [-2] i i:=.bW (-2) [] ⟨1,[],-1⟩ i i i (by decide) (by simp[Mg]) (by decide) (.nil i) (.nil i)
theorem MT {g:ao} (hr:bm g=true) {p l:List Int} {i j:Nat} (h:Sp g p l i j):dy l (aI g true) true=true:=by
  induction h with
  | nil=>rfl
  | term s l i j h0 _ _ ih =>
    simp only[dy,List.all_cons,Bool.and_eq_true] at ih ⊢
    rw[if_pos h0]
    exact ⟨rfl,ih⟩
  | bW s l R i k j h0 hR hl _ _ ih1 ih2 =>
    have g1:=rv hr hR ih1
    rw[hl] at g1
    simp only[dy,List.all_cons,Bool.and_eq_true] at ih2 ⊢
    rw[if_neg (by omega)]
    exact ⟨g1,ih2⟩
section
variable {g r:ao} {p q:List Bool} {o:List Int}
theorem dX.sp (h:dX g p q o r) {w l:List Int} {i j:Nat} (hs:Sp g w l i j):(∀ s∈l,s < 0→-1 - s∈o)→Sp r w (l.map fun s=>if s < 0 then -1 - bo o (-1 - s) else s) i j:=by
  induction hs with
  | nil=>exact fun _=>.nil _
  | term s l i j h0 hf _ ih =>
    intro hl
    rw[List.map_cons,if_neg (by omega)]
    exact .term s _ i j h0 hf (ih fun s hs=>hl s (by simp[hs]))
  | bW s l R i k j h0 hR hle h1 _ ih1 ih2 =>
    intro hl
    have hso:=hl s (by simp) h0
    obtain ⟨R1,hR1,hk1,e1⟩:=h.from_ _ hso
    have hk:bG p q R=true:=by
      rw[bG,Bool.and_eq_true] at hk1 ⊢
      refine ⟨by rw[hle,← e1]; exact hk1.1,?_⟩
      rw[h.pe]
      exact MT h.right h1
    have hin:=(h.kept R hR hk).2
    have hm:bj (bo o) R∈r.rules:=by rw[h.rules]; exact List.mem_map.2 ⟨R,List.mem_filter.2 ⟨hR,hk⟩,rfl⟩
    have hb:=kj hso
    rw[List.map_cons,if_pos h0]
    exact .bW _ _ (bj (bo o) R) i k j (by omega) hm (by simp only[bj]; rw[hle]; omega) (ih1 hin) (ih2 fun s hs=>hl s (by simp[hs]))
end
theorem I6 {g:ao} {p:List Int} {k:Nat} (hk:k≤p.length) {l:List Int} {i j:Nat} (h:Sp g p l i j):i≤k→k≤j →
    (∃ l1 l2,l=l1 ++ l2∧Sp g (p.take k) l1 i k)∨(∃ l1 s l2 a,l=l1 ++ s :: l2∧s < 0∧Sp g (p.take k) l1 i a∧a < k∧EW g (p.take k) (-1 - s) a):=by
  induction h with
  | nil i =>
    intro h1 h2
    have:i=k:=by omega
    subst this
    exact .inl ⟨[],[],rfl,.nil _⟩
  | term s l i j h0 hf hs ih =>
    intro h1 h2
    by_cases e:i=k
    · subst e; exact .inl ⟨[],s :: l,rfl,.nil _⟩
    · have hf':oP (p.take k) i s:=by
        obtain ⟨c,hc,h3⟩:=hf
        exact ⟨c,by rw[List.getElem?_take,if_pos (by omega)]; exact hc,h3⟩
      rcases ih (by omega) h2 with ⟨l1,l2,e2,h3⟩ | ⟨l1,s',l2,a,e2,h3,h4,h5,h6⟩
      · exact .inl ⟨s :: l1,l2,by rw[e2]; rfl,.term s l1 i k h0 hf' h3⟩
      · exact .inr ⟨s :: l1,s',l2,a,by rw[e2]; rfl,h3,.term s l1 i a h0 hf' h4,h5,h6⟩
  | bW s l R i m j h0 hR hl hs1 hs2 ih1 ih2 =>
    intro h1 h2
    by_cases e:i=k
    · subst e; exact .inl ⟨[],s :: l,rfl,.nil _⟩
    · by_cases hm:m≤k
      · have c1:=hs1.cut (k:=k) hm
        rcases ih2 hm h2 with ⟨l1,l2,e2,h3⟩ | ⟨l1,s',l2,a,e2,h3,h4,h5,h6⟩
        · exact .inl ⟨s :: l1,l2,by rw[e2]; rfl,.bW s l1 R i m k h0 hR hl c1 h3⟩
        · exact .inr ⟨s :: l1,s',l2,a,by rw[e2]; rfl,h3,.bW s l1 R i m a h0 hR hl c1 h4,h5,h6⟩
      · have hlen:(p.take k).length=k:=by simp; omega
        refine .inr ⟨[],s,l,i,rfl,h0,.nil _,by omega,?_⟩
        rw[← hl]
        rcases ih1 h1 (by omega) with ⟨l1,l2,e2,h3⟩ | ⟨l1,s',l2,a,e2,h3,h4,h5,h6⟩
        · exact .full R l1 l2 i hR e2 (by rw[hlen]; exact h3)
        · exact .deep R l1 l2 s' i a hR e2 h3 h4 (by rw[hlen]; exact h5) h6
theorem EW.cut {g:ao} {p:List Int} {k:Nat} (hk:k≤p.length) {n:Int} {f:Nat} (h:EW g p n f):f≤k→EW g (p.take k) n f:=by
  have hlen:(p.take k).length=k:=by simp; omega
  induction h with
  | full R l1 l2 f hR e hs =>
    intro hf
    rcases I6 hk hs hf hk with ⟨a1,a2,e2,h3⟩ | ⟨a1,s',a2,a,e2,h3,h4,h5,h6⟩
    · exact .full R a1 (a2 ++ l2) f hR (by rw[e,e2]; simp) (by rw[hlen]; exact h3)
    · exact .deep R a1 (a2 ++ l2) s' f a hR (by rw[e,e2]; simp) h3 h4 (by rw[hlen]; exact h5) h6
  | deep R l1 l2 s f a hR e h0 h1 h2 _ ih =>
    intro hf
    by_cases ha:a < k
    · exact .deep R l1 l2 s f a hR e h0 (h1.cut (by omega)) (by rw[hlen]; exact ha) (ih (by omega))
    · rcases I6 hk h1 hf (by omega) with ⟨a1,a2,e2,h3⟩ | ⟨a1,s',a2,b,e2,h3,h4,h5,h6⟩
      · exact .full R a1 (a2 ++ s :: l2) f hR (by rw[e,e2]; simp) (by rw[hlen]; exact h3)
      · exact .deep R a1 (a2 ++ s :: l2) s' f b hR (by rw[e,e2]; simp) h3 h4 (by rw[hlen]; exact h5) h6
theorem Sp.wide {g:ao} {p p':List Int} (hp:∀ i s,oP p i s→oP p' i s) {l:List Int} {i j:Nat} (h:Sp g p l i j):Sp g p' l i j:=by
  induction h with
  | nil i=>exact .nil i
  | term s l i j h0 hf _ ih=>exact .term s l i j h0 (hp _ _ hf) ih
  | bW s l R i k j h0 hR hl _ _ ih1 ih2=>exact .bW s l R i k j h0 hR hl ih1 ih2
section
variable {fit:List Int→Bool} {T b:Nat}
end
def dY (l:List (List Int)):V:=.aY (l.map fun w=>[encI w])
theorem AN (l:List (List Int)):Tree (dY l):=eV _ _ fun x _ v hv=>by
  simp at hv; subst hv; exact bX x
abbrev Mp:=List (V × List Int)
def nQ (b:Mp):List (List V):=b.map fun x=>[x.1]
def kI (H:View) (u:V) (out:List (List Int)):Prop:=∃ b:Mp,b.map (·.2)=out∧aV H u 1 (nQ b)∧∀ x∈b,aV H x.1 1 (aW x.2)
theorem kI.nil {H:View} {k:Nat} : kI H (.emp k) []:=⟨[],rfl,.nil,by simp⟩
theorem kI.len {H:View} {u:V} {out:List (List Int)} (h:kI H u out):dS u=some out.length:=by
  obtain ⟨b,rfl,ho,_⟩:=h
  rw[ho.len]; simp[nQ]
theorem kI.cells {H:View} {u:V} {out:List (List Int)} (h:kI H u out):V.cells u=[u]∧aO u=true:=by
  obtain ⟨b,_,ho,_⟩:=h
  exact ⟨ho.cells,ho.gX⟩
theorem NK {H:View} {u:V} {b:Mp} (ho:aV H u 1 (nQ b)) (hb:∀ x∈b,aV H x.1 1 (aW x.2)) {x:V × List Int} (hx:x∈b) {id:Nat} (hid:owner x.1=some id):owner u≠some id:=by
  intro e
  have h1:=(ho.live e).1
  have h2:=((hb x hx).live hid).1
  rw[h2] at h1
  simp only[bR.arr.injEq,true_and] at h1
  cases b with
  | nil=>simp at hx
  | cons y r =>
    have h3:=hb y (by simp)
    cases hw:x.2 with
    | nil=>rw[hw] at h1; simp[nQ] at h1
    | cons c w =>
      rw[hw] at h1
      simp only[nQ,List.map_cons,List.cons.injEq] at h1
      rcases h3 with ⟨_,k,e2⟩ | ⟨n,e2,_⟩
      · rw[e2] at h1; simp at h1
      · rw[e2] at h1; simp at h1
theorem kI.keep {H H':View} {u:V} {out:List (List Int)} (h:kI H u out) (hk:∀ id,H id≠.dead→H' id=H id):kI H' u out:=by
  obtain ⟨b,e,ho,hb⟩:=h
  exact ⟨b,e,ho.keep fun id hid=>hk id (by rw[(ho.live hid).1]; simp),fun x hx=>(hb x hx).keep fun id hid=>hk id (by rw[((hb x hx).live hid).1]; simp)⟩
theorem kI.add {H H':View} {u u' v:V} {b:Mp} {w:List Int} (ho:aV H u 1 (nQ b)) (hb:∀ x∈b,aV H x.1 1 (aW x.2)) (hv:aV H v 1 (aW w)) (hd:∀ id,owner v=some id→owner u≠some id)
    (h1:aV H' u' 1 (nQ b ++ [[v]])) (h2:Left H H' u u'):kI H' u' (b.map (·.2) ++ [w]):=by
  refine ⟨b ++ [(v,w)],by simp,by simpa [nQ] using h1,fun x hx=>?_⟩
  rcases List.mem_append.1 hx with hx | hx
  · exact (hb x hx).left h2 fun id hid=>NK ho hb hx hid
  · simp at hx; subst hx
    exact hv.left h2 hd
theorem kI.P8 {h:aE} {u:V} {out:List (List Int)} (ho:kI h.view u out):cP h u (dY out):=by
  obtain ⟨b,rfl,ho,hb⟩:=ho
  have hg:∀ i (hi:i < b.length),(nQ b).getD i []=[(b[i]).1]∧(((b.map (·.2)).map fun w=>[encI w]).getD i [])=[encI (b[i]).2]:=fun i hi=>by
    simp[nQ,List.getD_eq_getElem?_getD,hi]
  refine cP.own ho (by simp[nQ]) (fun i hi=>?_) (fun i j hi hj=>?_)
  · have hi':i < b.length:=by simpa [nQ] using hi
    rw[(hg i hi').1,(hg i hi').2]; rfl
  · have hi':i < b.length:=by simpa [nQ] using hi
    rw[(hg i hi').2] at hj ⊢
    rw[(hg i hi').1]
    have:j=0:=by simp at hj; omega
    subst this
    simp only[List.getD_cons_zero]
    exact cP.KN (hb _ (List.getElem_mem hi'))
def Hc (H:View) (v:V) (p:List Int):Prop:=v=encI p∨(p≠[]∧∃ n,v=.sl n 0 p.length 1∧H n=.arr 1 (aW p))
theorem Hc.BY {H:View} {v:V} {p:List Int} (h:Hc H v p):dh H v (encI p):=by
  rcases h with rfl | ⟨_,n,rfl,hn⟩
  · exact .tree (bX p)
  · exact vp hn rfl
theorem Hc.len {H:View} {v:V} {p:List Int} (h:Hc H v p):dS v=some p.length:=by
  rcases h with rfl | ⟨_,n,rfl,hn⟩
  · simp[encI,dS]
  · rfl
def sg (H H':View) (f:Nat) (u u':V):Prop:=∀ id,H id≠.dead→id≠f→owner u≠some id→H' id=H id∧owner u'≠some id
theorem sg.refl {H:View} {f:Nat} {u:V} : sg H H f u u:=fun _ _ _ h=>⟨rfl,h⟩
theorem sg.trans {H H1 H2:View} {f:Nat} {u u1 u2:V} (h1:sg H H1 f u u1) (h2:sg H1 H2 f u1 u2):sg H H2 f u u2:=fun id hd hf hu=>by
  obtain ⟨a,b⟩:=h1 id hd hf hu
  obtain ⟨c,d⟩:=h2 id (by rw[a]; exact hd) hf b
  exact ⟨c.trans a,d⟩
theorem sg.kept {H H':View} {f:Nat} {u:V} (h:∀ id,H id≠.dead→H' id=H id):sg H H' f u u:=fun id hd _ hu=>⟨h id hd,hu⟩
theorem FJ {H:View} {u:V} {sz f z:Nat} {es:List (List V)} {e:List (List V)} (ho:aV H u sz es) (hf:H f=.arr z e) (hz:sz≠z):owner u≠some f:=fun e2=>by
  have:=(ho.live e2).1
  rw[hf] at this
  simp only[bR.arr.injEq] at this
  exact hz this.1.symm
theorem kI.box {H:View} {u:V} {out:List (List Int)} {f:Nat} {e:List (List V)} {o:bR} (h:kI H u out) (hf:H f=.arr 6 e):kI (H.set f o) u out:=by
  obtain ⟨b,e1,ho,hb⟩:=h
  exact ⟨b,e1,ho.other (FJ ho hf (by decide)),fun x hx=>(hb x hx).other (FJ (hb x hx) hf (by decide))⟩
def ue:SC :=
  .seq (ak [aR 26 .lss 25 24]) <|
  .seq (.cond (.tmp 26) (.skip) (.exit 2)) <|
  .seq (.block 3 (.seq (ak [aQ 27 1 23 25,an 28 27,ae 9 28]) <|
  .seq (.region false [⟨none,[ae 29 9,ax 30 .geq 29 0,ae 31 30]⟩,⟨(some (31,true)),[ae 32 9,ae 33 5,aP 34 33,aR 35 .lss 32 34]⟩,⟨none,[bN 36 31 35]⟩]) <|
  .cond (.tmp 36) (ak [ae 37 5,ae 38 9,aQ 39 1 37 38,(none,.op (.store 1 (.tmp 39) (.val (.val (.bool true)))))]) (.skip))) <|
  ak [ax 40 .add 25 1,ae 25 40]
def tB:SC :=
  .seq (ak [aR 20 .lss 19 18]) <|
  .seq (.cond (.tmp 20) (.skip) (.exit 0)) <|
  .seq (.block 1 (.seq (ak [aQ 21 1 17 19,an 22 21,ae 7 22]) <|
  .seq (ak [ae 23 7,aP 24 23,aH 25 0]) <|
  .block 2 (.loop ue))) <|
  ak [ax 41 .add 19 1,ae 19 41]
def x6:SF:=⟨.seq (ak [cx 2 0,((some 4),.op (.aZ (.val (.emp 1))))]) <|
  .seq (.seq (ak [aT 10 4 2,aL 11 45 [10],cd 12 11]) <|
  .cond (.tmp 12) (.seq (ak [((some 4),.op (.aZ (.val (.emp 1))))]) <|
  .ret) (.skip)) <|
  .seq (ak [aq 13 2 2,an 14 13,aP 15 14,((some 16),.op (.make 1 1 [(.val (.bool false))] (.tmp 15) (.tmp 15))),ae 5 16]) <|
  .seq (.seq (ak [ae 17 1,aP 18 17,aH 19 0]) <|
  .block 0 (.loop tB)) <|
  .seq (ak [ae 42 5,ae 4 42]) <|
  .ret,
  [.tmp 4],43⟩
theorem AV:aU Tryz.prog 36 [2]=some x6:=by kernel_rfl
def om (o:List Bool) (x:Int):List Bool:=if 0≤x∧x < o.length then o.set x.toNat true else o
def sj (o:List Bool) (t:List Int):List Bool:=t.foldl om o
theorem Lu (o:List Bool) (x:Int):(om o x).length=o.length:=by unfold om; split <;> simp
theorem CR:∀ (t:List Int) (o:List Bool),(sj o t).length=o.length:=by
  intro t
  induction t with
  | nil=>intro o; rfl
  | cons x t ih=>intro o; exact (ih (om o x)).trans (Lu o x)
theorem J3 (o:List Bool) (x:Int) (i:Nat):(om o x)[i]?=(o[i]?).map fun b=>b || decide ((i:Int)=x):=by
  unfold om
  split
  · rename_i h
    rw[List.getElem?_set]
    split
    · rename_i hi
      rw[if_pos (by omega)]
      have:o[i]?=some (o[i]'(by omega)):=List.getElem?_eq_getElem (by omega)
      rw[this]
      simp; omega
    · rename_i hi
      cases o[i]? with
      | none=>rfl
      | some b=>simp; omega
  · rename_i h
    by_cases hi:i < o.length
    · rw[List.getElem?_eq_getElem hi]
      simp; omega
    · rw[List.getElem?_eq_none (by omega)]; rfl
theorem Ju:∀ (t:List Int) (o:List Bool) (i:Nat),(sj o t)[i]?=(o[i]?).map fun b=>b || decide ((i:Int)∈t):=by
  intro t
  induction t with
  | nil=>intro o i; simp[sj]
  | cons x t ih =>
    intro o i
    have h:=ih (om o x) i
    rw[J3] at h
    refine Eq.trans h ?_
    cases o[i]? with
    | none=>rfl
    | some b=>simp[Bool.or_assoc]
theorem Fy:∀ (l:List (List Int)) (o:List Bool) (i:Nat),(l.foldl sj o)[i]?=(o[i]?).map fun b=>b || l.any fun t=>decide ((i:Int)∈t):=by
  intro l
  induction l with
  | nil=>intro o i; simp
  | cons t l ih =>
    intro o i
    rw[List.foldl_cons,ih,Ju]
    cases o[i]? with
    | none=>rfl
    | some b=>simp[Bool.or_assoc]
theorem Jx (g:ao) (l:List (List Int)) (h:bm g=true):l.foldl sj (List.replicate g.rules.length false)=A1 g l:=by
  rw[A1,if_pos h]
  refine List.ext_getElem? fun i=>?_
  rw[Fy,List.getElem?_map]
  by_cases hi:i < g.rules.length
  · rw[List.getElem?_eq_getElem (by simpa using hi),List.getElem?_eq_getElem (by simpa using hi)]
    simp
  · rw[List.getElem?_eq_none (by simp; omega),List.getElem?_eq_none (by simp; omega)]; rfl
theorem N6 (g:ao) (l:List (List Int)):∀ v∈[V.agg (al g),dY l],Tree v:=by
  intro v hv; simp at hv
  rcases hv with rfl | rfl
  · exact cg _ (cO g)
  · exact AN l
set_option maxHeartbeats 4000000 in
theorem J8 (g:ao) (hg:g.Ok) (hsm:g.Small) (l:List (List Int)) (hl:aN l) (hs:∀ w∈l,aN w):bP Tryz.prog 36 [.agg (al g),dY l] (bF (A1 g l)):=by
  refine bP.of (N6 g l) ?_
  have hc:=lR g hg hsm.names
  unfold aN at hl
  refine az.of mixed AV ?_
  simp only[al,encS] at hc
  simp (disch:=omega) only [↓wr,↓reduceIte,wq,ah,Nat.reduceEqDiff,Nat.reduceAdd,Nat.reduceLeDiff,x6,al,encS]
  refine aC.pure hc (by kernel_rfl) ?_
  simp (disch:=omega) only [↓wr,↓reduceIte,wq]
  refine ar.split (fun hr=>?_) (fun hr=>?_)
  · have hf:=aX hr
    obtain ⟨hR1,hR2⟩:=And.intro hf.E2 hf.rules
    simp (disch:=omega) only [↓wr,↓reduceIte,wq,aj,Nat.reduceEqDiff,Nat.reduceAdd,Nat.reduceLT,dY]
    refine ⟨⟨by omega,by unfold aG; omega,by unfold aG; omega⟩,fun hz=>by omega,fun _ m=>?_⟩
    try simp (disch:=omega) only [↓wr,↓reduceIte,wq,ah,ag,aj,aa,ab,af,ai,isNil,Nat.reduceEqDiff,Nat.reduceAdd,Nat.reduceLT,Nat.reduceLeDiff,Int.reduceNeg,Int.reduceToNat,reduceCtorEq,dY]
    refine bc.up l.length (fun i T H'=>∃ is:List Bool,(l.take i).foldl sj (List.replicate g.rules.length false)=is∧T 17=dY l∧T 18=gi l.length∧T 5=.sl m 0 g.rules.length 1∧H' m=.arr 1 (cD is)∧T 19=gi i) ?_ ?_
    · refine ⟨_,rfl,rfl,rfl,rfl,?_,rfl⟩
      simp[View.set,cD]
    · rintro i k T H' hk ⟨is,hi,t1,t2,t5,hm1,t6⟩
      have hlen:is.length=g.rules.length:=by
        rw[← hi]
        have:∀ (q:List (List Int)) (o:List Bool),(q.foldl sj o).length=o.length:=by
          intro q
          induction q with
          | nil=>intro o; rfl
          | cons x q ih=>intro o; exact (ih _).trans (CR x o)
        rw[this]; simp
      simp (disch:=omega) only [↓wr,↓reduceIte,wq,ag,reduceCtorEq,tB,t2,t6,dY]
      refine ar.dec (fun hc=>?_) (fun hc=>?_)
      · have h2:l[i]?=some (l[i]'(by omega)):=List.getElem?_eq_getElem (by omega)
        have htk:l.take (i+1)=l.take i ++ [l[i]'(by omega)]:=by rw[List.take_add_one,h2]; rfl
        have hw:=hs _ (List.mem_of_getElem? h2)
        generalize l[i]'(by omega)=w at h2 htk hw
        unfold aN at hw
        simp (disch:=omega) only [↓wr,↓reduceIte,wq,aj,Nat.reduceEqDiff,Nat.reduceLT,t1,t6,dY,encI,List.getElem?_map,h2]
        refine bc.up w.length (fun j T H'=>∃ js:List Bool,(w.take j).foldl om is=js∧T 17=dY l∧T 18=gi l.length∧T 5=.sl m 0 g.rules.length 1∧H' m=.arr 1 (cD js)∧T 19=gi i∧T 23=encI w∧T 24=gi w.length∧T 25=gi j) ?_ ?_
        · exact ⟨is,rfl,t1,t2,t5,hm1,t6,rfl,rfl,rfl⟩
        · rintro j k' T' H'' hk' ⟨js,hj,e1,e2,e5,em,e6,e7,e8,e9⟩
          have hjl:js.length=g.rules.length:=by rw[← hj,← hlen]; exact CR _ _
          simp (disch:=omega) only [↓wr,↓reduceIte,wq,ag,ue,e8,e9,dY,encI]
          refine ar.dec (fun hd=>?_) (fun hd=>?_)
          · have h3:w[j]?=some (w[j]'(by omega)):=List.getElem?_eq_getElem (by omega)
            have htj:w.take (j+1)=w.take j ++ [w[j]'(by omega)]:=by rw[List.take_add_one,h3]; rfl
            generalize w[j]'(by omega)=x at h3 htj
            have hn:(w.take (j+1)).foldl om is=om js x:=by rw[htj,List.foldl_append,hj]; rfl
            simp (disch:=omega) only [↓wr,↓reduceIte,wq,ag,Nat.reduceEqDiff,Nat.reduceLT,e7,e9,encI,List.getElem?_map,h3]
            have keep:¬(0≤x∧x < js.length)→om js x=js:=fun h=>by rw[om,if_neg h]
            refine ar.dec (fun hx=>?_) (fun hx=>?_)
            · simp (disch:=omega) only [↓wr,↓reduceIte,wq,ag,aj,Nat.reduceEqDiff,e5]
              refine ar.dec (fun hy=>?_) (fun hy=>?_)
              · simp (disch:=omega) only [↓wr,↓reduceIte,wq,ag,aa,Nat.reduceEqDiff,Nat.reduceLeDiff,reduceCtorEq,e5,e6,e9,em]
                refine ⟨by omega,by omega,aJ hk' (by omega) ⟨_,by rw[hn,om,if_pos ⟨by omega,by omega⟩],e1,e2,e5,?_,e6,e7,e8,rfl⟩⟩
                rw[iB (by omega),← fX]
                simp[View.set]
              · simp (disch:=omega) only [↓wr,↓reduceIte,wq,ag,Nat.reduceEqDiff,reduceCtorEq,e5,e6,e9]
                exact aJ hk' (by omega) ⟨js,by rw[hn,keep (by omega)],e1,e2,e5,em,e6,e7,e8,rfl⟩
            · simp (disch:=omega) only [↓wr,↓reduceIte,wq,ag,Nat.reduceEqDiff,reduceCtorEq,e5,e6,e9]
              exact aJ hk' (by omega) ⟨js,by rw[hn,keep (by omega)],e1,e2,e5,em,e6,e7,e8,rfl⟩
          · rw[List.take_of_length_le (by omega)] at hj
            simp (disch:=omega) only [↓wr,↓reduceIte,wq,Nat.reduceEqDiff,reduceCtorEq,e5,e6]
            refine aJ hk (by omega) ⟨_,rfl,e1,e2,e5,?_,rfl⟩
            rw[htk,List.foldl_append,hi,List.foldl_cons,List.foldl_nil,sj,hj]
            exact em
      · rw[List.take_of_length_le (by omega)] at hi
        simp (disch:=omega) only [↓wr,↓reduceIte,wq,Nat.reduceEqDiff,reduceCtorEq,t5]
        rintro h' rfl
        rw[← Jx g l hr,hi,← hlen]
        exact lP hm1
  · simp (disch:=omega) only [↓wr,↓reduceIte,wq,reduceCtorEq]
    intro h' _
    rw[A1,if_neg (by rw[hr]; simp)]
    exact .emp _
def mr:SC :=
  .seq (.seq (ak [ae 23 12,ae 24 11,aP 25 24,aR 26 .lss 23 25]) <|
  .cond (.tmp 26) (.skip) (.exit 0)) <|
  .seq (.block 1 (.seq (.seq (ak [ae 29 11,ae 30 12,aQ 31 1 29 30,an 32 31,ax 33 .geq 32 0]) <|
  .cond (.tmp 33) (.exit 1) (.skip)) <|
  .seq (.seq (ak [ae 34 12,ae 35 2,aR 36 .eql 34 35]) <|
  .cond (.tmp 36) (.seq (ak [ae 37 10,ae 38 3,((some 39),.op (.app 1 8 (.tmp 37) (.tmp 38))),ae 10 39]) <|
  .exit 1) (.skip)) <|
  .seq (ak [aT 41 4 4,ae 42 11,ae 43 12,aQ 44 1 42 43,an 45 44,((some 46),.op (.arith .sub (.val (.val (.int .i64 (-1)))) (.tmp 45))),aL 47 112 [41,46],ae 40 47,bU 48 0 40,bU 49 1 40,ae 13 48,ae 14 49]) <|
  .seq (.seq (ak [ae 50 14,ax 51 .neq 50 0]) <|
  .cond (.tmp 51) (.seq (ak [((some 8),.op (.aZ (.val (.emp 1)))),bg 9 false]) <|
  .ret) (.skip)) <|
  ak [ae 52 10,ae 53 13,((some 54),.op (.app 1 8 (.tmp 52) (.tmp 53))),ae 10 54])) <|
  ak [ae 27 12,ax 28 .add 27 1,ae 12 28]
def pk:SF:=⟨.seq (ak [cx 4 0,((some 8),.op (.aZ (.val (.emp 1)))),bg 9 false]) <|
  .seq (ak [ae 15 1,((some 16),.op (.bA 1 1 [(.val (.int .i64 0))] [(0,(.tmp 15))])),ae 10 16]) <|
  .seq (ak [aq 17 2 4,an 18 17,ae 19 1,aQ 20 3 18 19,aq 21 1 20,an 22 21,ae 11 22]) <|
  .seq (.seq (ak [aH 12 0]) <|
  .block 0 (.loop mr)) <|
  .seq (ak [ae 55 10,ae 56 10,aP 57 56,ax 58 .leq 57 300,ae 8 55,ae 9 58]) <|
  .ret,
  [.tmp 8,.tmp 9],59⟩
theorem tE:aU Tryz.prog 63 [4]=some pk:=by kernel_rfl
theorem qo {g:ao} {p:Int} {inn:List Int} : ∀ (l m:List Int) (i:Int),cz g p inn i (l ++ m)=match cz g p inn i l with
    | some a=>(cz g p inn (i+l.length) m).map (a ++ ·)
    | none=>none:=by
  intro l
  induction l with
  | nil=>intro m i; simp[cz]
  | cons s l ih =>
    intro m i
    have e:i+((s :: l).length:Nat)=i+1+(l.length:Nat):=by simp; omega
    rw[List.cons_append,cz,cz,e,ih]
    split
    · rfl
    · split
      · cases cz g p inn (i+1) l with
        | none=>rfl
        | some a=>cases cz g p inn (i+1+(l.length:Nat)) m <;> simp
      · split
        · cases cz g p inn (i+1) l with
          | none=>rfl
          | some a=>cases cz g p inn (i+1+(l.length:Nat)) m <;> simp
        · rfl
theorem zF (g:ao) (n:Int):(fg g n).1.length≤300:=by
  unfold fg
  split
  · rename_i hc
    simp only[Bool.and_eq_true,decide_eq_true_eq] at hc
    split
    · simp
    · rename_i hk
      split
      · simp
      · rename_i hz
        have hkn:bf (av g) n.toNat:=by unfold bf; omega
        have hall:=(Eo hc.1.2 hkn).2
        have hso:=ye hc.1.2 hkn
        have htl:=xU hall (by rw[hso.1]; omega)
        rw[hso.1] at htl
        simp only
        omega
  · simp
theorem Ak {g:ao} {p:Int} {inn:List Int} (hi:inn.length≤300):∀ (l:List Int) (i:Int) (a:List Int),cz g p inn i l=some a→a.length≤300 * l.length:=by
  intro l
  induction l with
  | nil=>intro i a h; simp[cz] at h; subst h; simp
  | cons s l ih =>
    intro i a h
    rw[cz] at h
    have ht:=zF g (-1 - s)
    simp only[List.length_cons]
    split at h
    · have:=ih _ _ h; omega
    · split at h
      · simp only[Option.map_eq_some_iff] at h
        obtain ⟨b,h1,rfl⟩:=h
        have:=ih _ _ h1
        simp; omega
      · split at h
        · simp only[Option.map_eq_some_iff] at h
          obtain ⟨b,h1,rfl⟩:=h
          have:=ih _ _ h1
          simp; omega
        · simp at h
theorem uE {h:aE} {u:V} {x:List Int × Bool} (hu:cP h u (encI x.1)):cP h (.bt [u,gb x.2]) (.bt [encI x.1,gb x.2]):=zQ hu (.val _)
set_option maxHeartbeats 4000000 in
theorem FC (g:ao) (hg:g.Ok) (hf:g.gp) (k:Nat) (hk:k < g.rules.length) (p:Int) (hp:bM p) (inn:List Int) (hi:inn.length≤300) :
    bP Tryz.prog 63 [.agg (al g),gi k,gi p,encI inn] (.bt [encI (dP g k p inn).1,gb (dP g k p inn).2]):=by
  refine bP.of (by
    intro v hv; simp at hv
    rcases hv with rfl | rfl | rfl | rfl
    · exact cg _ (cO g)
    · exact .val _
    · exact .val _
    · exact bX _) ?_
  refine az.of mixed tE ?_
  have hR:g.rules[k]?=some (g.rules[k]'(by omega)):=List.getElem?_eq_getElem (by omega)
  have hmr:=List.mem_of_getElem? hR
  have hrt:qa g k=(g.rules[k]'hk).right:=by simp[qa,hR]
  generalize g.rules[k]'hk=R at hR hmr hrt
  have hrw:=hg.ba R hmr
  have hr6:=hf.right R hmr
  have hrl:=hf.rules
  unfold dP
  rw[hrt]
  simp (disch:=omega) only [↓wr,↓reduceIte,wq,ah,af,Nat.reduceEqDiff,Nat.reduceAdd,Nat.reduceLT,Nat.reduceLeDiff,pk,al,encS,encI,aK,List.getElem?_map,hR]
  intro m
  refine bc.up R.right.length (fun i T H'=>∃ u a,cz g p inn 0 (R.right.take i)=some a∧bC H' [(u,1,aW (k :: a))]∧T 2=gi p∧T 3=encI inn∧T 4=.aS (al g) 0∧T 10=u∧T 11=encI R.right∧T 12=gi i) ?_ ?_
  · refine ⟨_,[],rfl,?_,rfl,rfl,rfl,rfl,rfl,rfl⟩
    exact (bC.nil (H:=fun _=>bR.dead)).new (n:=m) rfl 1 [[gi k]]
  · rintro i j T H1 hj ⟨u,a,ha,ho,t2,t3,t4,t10,t11,t12⟩
    simp (disch:=omega) only [↓wr,↓reduceIte,wq,ag,aj,Nat.reduceEqDiff,Int.reduceNeg,mr,t11,t12,encI]
    have hal:=Ak hi _ _ _ ha
    simp only[List.length_take] at hal
    refine ar.dec (fun hc=>?_) (fun hc=>?_)
    · have h2:R.right[i]?=some (R.right[i]'(by omega)):=List.getElem?_eq_getElem (by omega)
      have htk:R.right.take (i+1)=R.right.take i ++ [R.right[i]'(by omega)]:=by rw[List.take_add_one,h2]; rfl
      have hs64:=hrw.2.2.2 _ (List.mem_of_getElem? h2)
      generalize R.right[i]'(by omega)=s at h2 htk hs64
      unfold bM at hs64
      have hap:=qo (g:=g) (p:=p) (inn:=inn) (R.right.take i) [s] 0
      have ei:(0:Int)+((R.right.take i).length:Nat)=i:=by simp; omega
      rw[← htk,ha,ei] at hap
      simp only[cz,Option.map_some,List.append_nil] at hap
      simp (disch:=omega) only [↓wr,↓reduceIte,wq,ag,Nat.reduceEqDiff,Nat.reduceLT,Int.reduceNeg,t11,t12,encI,List.getElem?_map,h2]
      refine ar.dec (fun hs=>?_) (fun hs=>?_)
      · simp (disch:=omega) only [↓wr,↓reduceIte,wq,ag,Nat.reduceEqDiff,reduceCtorEq,t10,t12]
        rw[if_pos hs] at hap
        exact aJ hj (by omega) ⟨u,a,by simpa using hap,ho,t2,t3,t4,t10,t11,rfl⟩
      · rw[if_neg hs] at hap
        simp (disch:=omega) only [↓wr,↓reduceIte,wq,ag,Nat.reduceEqDiff,Int.reduceNeg,t2,t12]
        refine ar.eq (fun he=>?_) (fun he=>?_)
        · simp (disch:=omega) only [↓wr,↓reduceIte,wq,Nat.reduceEqDiff,Int.reduceNeg,t3,t10,encI]
          rw[if_pos he] at hap
          refine cp ho (vL inn) (by unfold aG; simp; omega) (by unfold aG; simp; omega) ?_
          intro u2 H2 o2 _
          simp (disch:=omega) only [↓wr,↓reduceIte,wq,ag,Nat.reduceEqDiff,Int.reduceNeg,reduceCtorEq,t12]
          refine aJ hj (by omega) ⟨u2,a ++ inn,by simpa using hap,?_,t2,t3,t4,rfl,t11,rfl⟩
          simpa using o2
        · rw[if_neg he] at hap
          simp (disch:=omega) only [↓wr,↓reduceIte,wq,ag,Nat.reduceEqDiff,Nat.reduceAdd,Nat.reduceLT,Nat.reduceLeDiff,Int.reduceNeg,t4,t11,t12,encI,List.getElem?_map,h2,al,encS]
          have hcall:=(IH g hg (-1 - s) (by unfold bM; omega)).pure
          have ht:=zF g (-1 - s)
          simp only[al,encS,gV,encI] at hcall
          refine aC.pure hcall (by kernel_rfl) ?_
          simp (disch:=omega) only [↓wr,↓reduceIte,wq,ag,Nat.reduceEqDiff,Nat.reduceAdd,Nat.reduceLT,Int.reduceNeg]
          refine ar.ne (fun h0=>?_) (fun h0=>?_)
          · simp (disch:=omega) only [↓wr,↓reduceIte,wq,ag,Nat.reduceEqDiff,Int.reduceNeg,reduceCtorEq]
            intro h' _
            rw[if_neg h0] at hap
            have e:=qo (g:=g) (p:=p) (inn:=inn) (R.right.take (i+1)) (R.right.drop (i+1)) 0
            rw[List.take_append_drop,hap] at e
            simp only[Option.map_none] at e
            rw[e]
            exact uE (x:=([],false)) (.emp _)
          · rw[if_pos h0] at hap
            simp (disch:=omega) only [↓wr,↓reduceIte,wq,Nat.reduceEqDiff,Int.reduceNeg,t10]
            refine cp ho (vL _) (by unfold aG; simp; omega) (by unfold aG; simp; omega) ?_
            intro u2 H2 o2 _
            simp (disch:=omega) only [↓wr,↓reduceIte,wq,ag,Nat.reduceEqDiff,Int.reduceNeg,reduceCtorEq,t12]
            refine aJ hj (by omega) ⟨u2,a ++ (fg g (-1 - s)).1,by simpa using hap,?_,t2,t3,t4,rfl,t11,rfl⟩
            simpa using o2
    · rw[List.take_of_length_le (by omega)] at ha
      have l2:=aV.len ho.head
      simp (disch:=omega) only [↓wr,↓reduceIte,wq,ag,Nat.reduceEqDiff,reduceCtorEq,t10,l2]
      rintro h' rfl
      rw[ha]
      have f1:=uE (h:=h') (u:=u) (x:=((k:Int) :: a,decide (((k:Int) :: a).length≤300))) (eU ho.head)
      have e:(decide ((((aW ((k:Int) :: a)).length:Nat):Int)≤300))=decide (((k:Int) :: a).length≤300):=by
        apply decide_eq_decide.2; simp; omega
      simp[encI] at f1 e ⊢
      rw[decide_eq_decide.2 e]
      exact f1
end Gv
