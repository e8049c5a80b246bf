/-
  Part 8 of the proof: what the machine does and what the functions answer.
  Conditions: those that each lemma names.
-/
import Derived.Test.YtgniimkconobpaaGreatSGzKG
set_option linter.unusedSimpArgs false
set_option linter.unusedVariables false
set_option linter.unusedSimpArgs false
set_option maxRecDepth 100000
namespace Gv
open Go Go.Proofs
def mF:DF:=⟨.seq (.region [] [⟨none,[((some 2),.op (.alloc [(.emp 1),(.emp 1),(.emp 1),(.val (.int .i64 0))])),((some 3),.op (.ak (.val (.val (.complex .f64 0 0))))),((some 4),.op (.ak (.val (.val (.int .i64 0)))))]⟩]) <|
  .seq (.region [] [⟨none,[((some 9),.op (.ak (.tmp 0))),((some 10),.call (.val (.fn 51 [] [])) [(.tmp 9)]),((some 8),.op (.ak (.tmp 10))),((some 11),.op (.ext 0 (.tmp 8))),((some 12),.op (.ext 1 (.tmp 8))),((some 13),.op (.ext 2 (.tmp 8))),((some 5),.op (.alloc [(.emp 1),(.emp 1)])),(none,.op (.store 2 (.tmp 5) (.tmp 11))),((some 6),.op (.ak (.tmp 12))),((some 7),.op (.ak (.tmp 13)))]⟩]) <|
  .seq (.seq (.region [] [⟨none,[((some 14),.op (.ak (.tmp 7))),((some 15),.op (.arith .neq (.tmp 14) (.val (.val (.int .i64 0)))))]⟩]) <|
  .cond (.tmp 15) (.seq (.region [] [⟨none,[((some 16),.op (.build [(.emp 1),(.emp 1),(.emp 1),(.val (.int .i64 0))] [])),((some 17),.op (.ak (.tmp 6))),((some 18),.op (.ak (.tmp 7))),(none,.op (.store 4 (.tmp 2) (.tmp 16))),((some 3),.op (.ak (.tmp 17))),((some 4),.op (.ak (.tmp 18)))]⟩]) <|
  .ret) (.skip)) <|
  .seq (.region [] [⟨none,[((some 19),.op (.load (some 2) (.tmp 5))),((some 20),.call (.val (.fn 52 [] [])) [(.tmp 19)]),((some 21),.op (.ext 0 (.tmp 20))),((some 22),.op (.ext 1 (.tmp 20))),((some 23),.op (.ext 2 (.tmp 20))),(none,.op (.store 4 (.tmp 2) (.tmp 21))),((some 3),.op (.ak (.tmp 22))),((some 4),.op (.ak (.tmp 23)))]⟩]) <|
  .ret,
  [.cell 2 (some 4),.tmp 3,.tmp 4],24⟩
theorem qR:bz Tryz.prog 33 []=some mF:=by kernel_rfl
def ly:DF:=⟨.seq (.region [] [⟨none,[((some 2),.op (.alloc [(.emp 1),(.emp 1)])),((some 3),.op (.ak (.val (.val (.complex .f64 0 0))))),((some 4),.op (.ak (.val (.val (.int .i64 0)))))]⟩]) <|
  .seq (.region [] [⟨none,[((some 9),.op (.ak (.tmp 0))),((some 10),.call (.val (.fn 90 [] [])) [(.tmp 9)]),((some 8),.op (.ak (.tmp 10))),((some 11),.op (.ext 0 (.tmp 8))),((some 12),.op (.ext 1 (.tmp 8))),((some 13),.op (.ext 2 (.tmp 8))),((some 5),.op (.ak (.tmp 11))),((some 6),.op (.ak (.tmp 12))),((some 7),.op (.ak (.tmp 13)))]⟩]) <|
  .seq (.seq (.region [] [⟨none,[((some 14),.op (.ak (.tmp 7))),((some 15),.op (.arith .neq (.tmp 14) (.val (.val (.int .i64 0)))))]⟩]) <|
  .cond (.tmp 15) (.seq (.region [] [⟨none,[((some 16),.op (.build [(.emp 1),(.emp 1)] [])),((some 17),.op (.ak (.tmp 6))),((some 18),.op (.ak (.tmp 7))),(none,.op (.store 2 (.tmp 2) (.tmp 16))),((some 3),.op (.ak (.tmp 17))),((some 4),.op (.ak (.tmp 18)))]⟩]) <|
  .ret) (.skip)) <|
  .seq (.region [] [⟨none,[((some 19),.op (.ak (.tmp 5))),((some 20),.op (.ak (.tmp 6))),((some 21),.call (.val (.fn 91 [] [])) [(.tmp 19),(.tmp 20)]),((some 22),.op (.ext 0 (.tmp 21))),((some 23),.op (.ext 1 (.tmp 21))),((some 24),.op (.ext 2 (.tmp 21))),(none,.op (.store 2 (.tmp 2) (.tmp 22))),((some 3),.op (.ak (.tmp 23))),((some 4),.op (.ak (.tmp 24)))]⟩]) <|
  .ret,
  [.cell 2 (some 2),.tmp 3,.tmp 4],25⟩
theorem p9:bz Tryz.prog 51 []=some ly:=by kernel_rfl
def qc:DC :=
  .seq (.seq (.region [] [⟨none,[((some 16),.op (.ak (.tmp 6))),((some 17),.op (.ak (.tmp 0))),((some 18),.op (.len (.tmp 17))),((some 19),.op (.arith .lss (.tmp 16) (.tmp 18))),((some 20),.op (.ak (.tmp 19)))]⟩,⟨(some (20,true)),[((some 21),.op (.ak (.tmp 7))),((some 22),.op (.arith .lss (.tmp 21) (.val (.val (.int .i64 2)))))]⟩,⟨none,[((some 23),.op (.pick (.tmp 20) (.tmp 22) (.val (.val (.bool false)))))]⟩]) <|
  .cond (.tmp 23) (.skip) (.exit 0)) <|
  .block 1 (.seq (.region [] [⟨none,[((some 25),.op (.ak (.tmp 0))),((some 26),.op (.ak (.tmp 6))),((some 27),.call (.val (.fn 131 [] [])) [(.tmp 25),(.tmp 26)]),((some 24),.op (.ak (.tmp 27))),((some 28),.op (.ext 0 (.tmp 24))),((some 29),.op (.ext 1 (.tmp 24))),((some 8),.op (.ak (.tmp 28))),((some 9),.op (.ak (.tmp 29)))]⟩]) <|
  .seq (.seq (.region [] [⟨none,[((some 30),.op (.ak (.tmp 8))),((some 31),.op (.arith .lss (.tmp 30) (.val (.val (.int .i64 0)))))]⟩]) <|
  .cond (.tmp 31) (.seq (.region [] [⟨none,[((some 32),.op (.ak (.tmp 0))),((some 33),.op (.ak (.tmp 6))),((some 34),.call (.val (.fn 132 [] [])) [(.tmp 32),(.tmp 33)]),((some 2),.op (.ak (.val (.emp 1)))),((some 3),.op (.ak (.tmp 34))),((some 4),.op (.ak (.val (.val (.int .i64 4)))))]⟩]) <|
  .ret) (.skip)) <|
  .seq (.seq (.region [] [⟨none,[((some 35),.op (.ak (.tmp 9)))]⟩]) <|
  .cond (.tmp 35) (.seq (.region [] [⟨none,[((some 36),.op (.ak (.tmp 8))),((some 6),.op (.ak (.tmp 36)))]⟩]) <|
  .exit 1) (.skip)) <|
  .seq (.region [] [⟨none,[((some 38),.op (.ak (.tmp 0))),((some 39),.op (.ak (.tmp 6))),((some 40),.call (.val (.fn 133 [] [])) [(.tmp 38),(.tmp 39)]),((some 37),.op (.ak (.tmp 40))),((some 41),.op (.ext 0 (.tmp 37))),((some 42),.op (.ext 1 (.tmp 37))),((some 43),.op (.ext 2 (.tmp 37))),((some 10),.op (.alloc [(.val (.int .i64 0)),(.val (.string ⟨#[]⟩)),(.val (.complex .f64 0 0))])),(none,.op (.store 3 (.tmp 10) (.tmp 41))),((some 11),.op (.ak (.tmp 42))),((some 12),.op (.ak (.tmp 43)))]⟩]) <|
  .seq (.seq (.region [] [⟨none,[((some 44),.op (.ak (.tmp 12))),((some 45),.op (.arith .neq (.tmp 44) (.val (.val (.int .i64 0)))))]⟩]) <|
  .cond (.tmp 45) (.seq (.region [] [⟨none,[((some 46),.op (.addr 2 (.tmp 10))),((some 47),.op (.load none (.tmp 46))),((some 48),.op (.ak (.tmp 12))),((some 2),.op (.ak (.val (.emp 1)))),((some 3),.op (.ak (.tmp 47))),((some 4),.op (.ak (.tmp 48)))]⟩]) <|
  .ret) (.skip)) <|
  .seq (.seq (.region [] [⟨none,[((some 49),.op (.addr 0 (.tmp 10))),((some 50),.op (.load none (.tmp 49))),((some 51),.op (.arith .eql (.tmp 50) (.val (.val (.int .i64 9)))))]⟩]) <|
  .cond (.tmp 51) (.region [] [⟨none,[((some 52),.op (.ak (.tmp 7))),((some 53),.op (.arith .add (.tmp 52) (.val (.val (.int .i64 1))))),((some 7),.op (.ak (.tmp 53)))]⟩]) (.skip)) <|
  .region [] [⟨none,[((some 54),.op (.ak (.tmp 5))),((some 55),.op (.load (some 3) (.tmp 10))),((some 56),.op (.bE 1 3 [(.val (.int .i64 0)),(.val (.string ⟨#[]⟩)),(.val (.complex .f64 0 0))] [(0,(.tmp 55))])),((some 57),.op (.app 3 40 (.tmp 54) (.tmp 56))),((some 58),.op (.ak (.tmp 11))),((some 5),.op (.ak (.tmp 57))),((some 6),.op (.ak (.tmp 58)))]⟩])
def kx:DF:=⟨.seq (.region [] [⟨none,[((some 2),.op (.ak (.val (.emp 1)))),((some 3),.op (.ak (.val (.val (.complex .f64 0 0))))),((some 4),.op (.ak (.val (.val (.int .i64 0)))))]⟩]) <|
  .seq (.seq (.region [] [⟨none,[((some 13),.op (.ak (.tmp 0))),((some 14),.op (.len (.tmp 13))),((some 15),.op (.arith .gtr (.tmp 14) (.val (.val (.int .i64 4000)))))]⟩]) <|
  .cond (.tmp 15) (.seq (.region [] [⟨none,[((some 2),.op (.ak (.val (.emp 1)))),((some 3),.op (.ak (.val (.val (.complex .f64 0 0))))),((some 4),.op (.ak (.val (.val (.int .i64 5)))))]⟩]) <|
  .ret) (.skip)) <|
  .seq (.region [] [⟨none,[((some 5),.op (.ak (.val (.emp 1))))]⟩]) <|
  .seq (.region [] [⟨none,[((some 6),.op (.ak (.val (.val (.int .i64 0))))),((some 7),.op (.ak (.val (.val (.int .i64 0)))))]⟩]) <|
  .seq (.block 0 (.loop qc)) <|
  .seq (.region [] [⟨none,[((some 59),.op (.ak (.tmp 5))),((some 60),.op (.ak (.tmp 0))),((some 61),.op (.ak (.tmp 0))),((some 62),.op (.len (.tmp 61))),((some 63),.call (.val (.fn 132 [] [])) [(.tmp 60),(.tmp 62)]),((some 2),.op (.ak (.tmp 59))),((some 3),.op (.ak (.tmp 63))),((some 4),.op (.ak (.val (.val (.int .i64 0)))))]⟩]) <|
  .ret,
  [.tmp 2,.tmp 3,.tmp 4],64⟩
theorem oX:bz Tryz.prog 90 []=some kx:=by kernel_rfl
def m3:DF:=⟨.seq (.region [] [⟨none,[((some 4),.op (.ak (.val (.val (.int .i64 0))))),((some 5),.op (.ak (.val (.val (.bool false)))))]⟩]) <|
  .seq (.block 0 (.seq (.region [] [⟨none,[((some 7),.op (.ak (.tmp 0))),((some 8),.op (.ak (.tmp 1))),((some 9),.op (.idx 1 (.tmp 7) (.tmp 8))),((some 10),.op (.load none (.tmp 9))),((some 11),.op (.arith .eql (.tmp 10) (.val (.val (.int .u8 32))))),((some 12),.op (.ak (.tmp 11)))]⟩,⟨(some (12,false)),[((some 13),.op (.ak (.tmp 0))),((some 14),.op (.ak (.tmp 1))),((some 15),.op (.idx 1 (.tmp 13) (.tmp 14))),((some 16),.op (.load none (.tmp 15))),((some 17),.op (.arith .eql (.tmp 16) (.val (.val (.int .u8 9)))))]⟩,⟨none,[((some 18),.op (.pick (.tmp 12) (.val (.val (.bool true))) (.tmp 17))),((some 19),.op (.ak (.tmp 18)))]⟩,⟨(some (19,false)),[((some 20),.op (.ak (.tmp 0))),((some 21),.op (.ak (.tmp 1))),((some 22),.op (.idx 1 (.tmp 20) (.tmp 21))),((some 23),.op (.load none (.tmp 22))),((some 24),.op (.arith .eql (.tmp 23) (.val (.val (.int .u8 10)))))]⟩,⟨none,[((some 25),.op (.pick (.tmp 19) (.val (.val (.bool true))) (.tmp 24))),((some 26),.op (.ak (.tmp 25)))]⟩,⟨(some (26,false)),[((some 27),.op (.ak (.tmp 0))),((some 28),.op (.ak (.tmp 1))),((some 29),.op (.idx 1 (.tmp 27) (.tmp 28))),((some 30),.op (.load none (.tmp 29))),((some 31),.op (.arith .eql (.tmp 30) (.val (.val (.int .u8 13)))))]⟩,⟨none,[((some 32),.op (.pick (.tmp 26) (.val (.val (.bool true))) (.tmp 31))),((some 6),.op (.ak (.tmp 32)))]⟩]) <|
  .cond (.tmp 6) (.seq (.region [] [⟨none,[((some 33),.op (.ak (.tmp 1))),((some 34),.op (.arith .add (.tmp 33) (.val (.val (.int .i64 1))))),((some 4),.op (.ak (.tmp 34))),((some 5),.op (.ak (.val (.val (.bool true)))))]⟩]) <|
  .ret) (.seq (.region [] [⟨none,[((some 36),.op (.ak (.tmp 0))),((some 37),.op (.ak (.tmp 1))),((some 38),.call (.val (.fn 159 [] [])) [(.tmp 36),(.tmp 37),(.val (.val (.string ⟨#[47,42]⟩)))]),((some 35),.op (.ak (.tmp 38)))]⟩]) <|
  .cond (.tmp 35) (.seq (.region [] [⟨none,[((some 39),.op (.ak (.tmp 0))),((some 40),.op (.ak (.tmp 1))),((some 41),.op (.arith .add (.tmp 40) (.val (.val (.int .i64 2))))),((some 42),.call (.val (.fn 160 [] [])) [(.tmp 39),(.tmp 41),(.val (.val (.string ⟨#[42,47]⟩)))]),((some 4),.op (.ak (.tmp 42))),((some 5),.op (.ak (.val (.val (.bool true)))))]⟩]) <|
  .ret) (.seq (.region [] [⟨none,[((some 44),.op (.ak (.tmp 0))),((some 45),.op (.ak (.tmp 1))),((some 46),.call (.val (.fn 159 [] [])) [(.tmp 44),(.tmp 45),(.val (.val (.string ⟨#[47,47]⟩)))]),((some 43),.op (.ak (.tmp 46)))]⟩]) <|
  .cond (.tmp 43) (.seq (.region [] [⟨none,[((some 47),.op (.ak (.tmp 0))),((some 48),.op (.ak (.tmp 1))),((some 49),.call (.val (.fn 161 [] [])) [(.tmp 47),(.tmp 48)]),((some 4),.op (.ak (.tmp 49))),((some 5),.op (.ak (.val (.val (.bool true)))))]⟩]) <|
  .ret) (.seq (.region [] [⟨none,[((some 51),.op (.ak (.tmp 0))),((some 52),.op (.ak (.tmp 1))),((some 53),.call (.val (.fn 159 [] [])) [(.tmp 51),(.tmp 52),(.val (.val (.string ⟨#[37,123]⟩)))]),((some 50),.op (.ak (.tmp 53)))]⟩]) <|
  .cond (.tmp 50) (.seq (.region [] [⟨none,[((some 54),.op (.ak (.tmp 0))),((some 55),.op (.ak (.tmp 1))),((some 56),.op (.arith .add (.tmp 55) (.val (.val (.int .i64 2))))),((some 57),.call (.val (.fn 160 [] [])) [(.tmp 54),(.tmp 56),(.val (.val (.string ⟨#[37,125]⟩)))]),((some 4),.op (.ak (.tmp 57))),((some 5),.op (.ak (.val (.val (.bool true)))))]⟩]) <|
  .ret) (.seq (.region [] [⟨none,[((some 59),.op (.ak (.tmp 0))),((some 60),.op (.ak (.tmp 1))),((some 61),.op (.idx 1 (.tmp 59) (.tmp 60))),((some 62),.op (.load none (.tmp 61))),((some 63),.op (.arith .eql (.tmp 62) (.val (.val (.int .u8 60))))),((some 58),.op (.ak (.tmp 63)))]⟩]) <|
  .cond (.tmp 58) (.seq (.region [] [⟨none,[((some 64),.op (.ak (.tmp 0))),((some 65),.op (.ak (.tmp 0))),((some 66),.op (.ak (.tmp 1))),((some 67),.call (.val (.fn 161 [] [])) [(.tmp 65),(.tmp 66)]),((some 68),.op (.slice 1 (.tmp 64) none (some (.tmp 67)))),((some 69),.op (.ak (.tmp 1))),((some 70),.op (.arith .add (.tmp 69) (.val (.val (.int .i64 1))))),((some 71),.call (.val (.fn 160 [] [])) [(.tmp 68),(.tmp 70),(.val (.val (.string ⟨#[62]⟩)))]),((some 4),.op (.ak (.tmp 71))),((some 5),.op (.ak (.val (.val (.bool true)))))]⟩]) <|
  .ret) (.seq (.region [] [⟨none,[((some 73),.op (.ak (.tmp 0))),((some 74),.op (.ak (.tmp 1))),((some 75),.op (.idx 1 (.tmp 73) (.tmp 74))),((some 76),.op (.load none (.tmp 75))),((some 77),.op (.arith .eql (.tmp 76) (.val (.val (.int .u8 123))))),((some 72),.op (.ak (.tmp 77)))]⟩]) <|
  .cond (.tmp 72) (.seq (.region [] [⟨none,[((some 78),.op (.ak (.tmp 0))),((some 79),.op (.ak (.tmp 1))),((some 80),.call (.val (.fn 162 [] [])) [(.tmp 78),(.tmp 79)]),((some 4),.op (.ak (.tmp 80))),((some 5),.op (.ak (.val (.val (.bool true)))))]⟩]) <|
  .ret) (.skip)))))))) <|
  .seq (.region [] [⟨none,[((some 81),.op (.ak (.tmp 1))),((some 4),.op (.ak (.tmp 81))),((some 5),.op (.ak (.val (.val (.bool false)))))]⟩]) <|
  .ret,
  [.tmp 4,.tmp 5],82⟩
theorem qw:bz Tryz.prog 131 []=some m3:=by kernel_rfl
def nD:DF:=⟨.seq (.region [] [⟨none,[((some 6),.op (.ak (.val (.val (.bool false)))))]⟩]) <|
  .seq (.region [] [⟨none,[((some 7),.op (.ak (.tmp 1))),((some 8),.op (.ak (.tmp 2))),((some 9),.op (.fB (.tmp 8))),((some 10),.op (.arith .add (.tmp 7) (.tmp 9))),((some 11),.op (.ak (.tmp 0))),((some 12),.op (.len (.tmp 11))),((some 13),.op (.arith .leq (.tmp 10) (.tmp 12))),((some 14),.op (.ak (.tmp 13)))]⟩,⟨(some (14,true)),[((some 15),.op (.ak (.tmp 0))),((some 16),.op (.ak (.tmp 1))),((some 17),.op (.ak (.tmp 1))),((some 18),.op (.ak (.tmp 2))),((some 19),.op (.fB (.tmp 18))),((some 20),.op (.arith .add (.tmp 17) (.tmp 19))),((some 21),.op (.slice 1 (.tmp 15) (some (.tmp 16)) (some (.tmp 20)))),((some 22),.op (.bj (.convert 57 9 (.tmp 21)) 9)),((some 23),.op (.ak (.tmp 2))),((some 24),.op (.gV .eql (.tmp 22) (.tmp 23)))]⟩,⟨none,[((some 25),.op (.pick (.tmp 14) (.tmp 24) (.val (.val (.bool false))))),((some 6),.op (.ak (.tmp 25)))]⟩]) <|
  .ret,
  [.tmp 6],26⟩
theorem rL:bz Tryz.prog 159 []=some nD:=by kernel_rfl
def rB:DC :=
  .seq (.seq (.region [] [⟨none,[((some 7),.op (.ak (.tmp 1))),((some 8),.op (.ak (.tmp 0))),((some 9),.op (.len (.tmp 8))),((some 10),.op (.arith .lss (.tmp 7) (.tmp 9)))]⟩]) <|
  .cond (.tmp 10) (.skip) (.exit 0)) <|
  .block 1 (.seq (.seq (.region [] [⟨none,[((some 11),.op (.ak (.tmp 0))),((some 12),.op (.ak (.tmp 1))),((some 13),.op (.ak (.tmp 2))),((some 14),.call (.val (.fn 159 [] [])) [(.tmp 11),(.tmp 12),(.tmp 13)])]⟩]) <|
  .cond (.tmp 14) (.seq (.region [] [⟨none,[((some 15),.op (.ak (.tmp 1))),((some 16),.op (.ak (.tmp 2))),((some 17),.op (.fB (.tmp 16))),((some 18),.op (.arith .add (.tmp 15) (.tmp 17))),((some 6),.op (.ak (.tmp 18)))]⟩]) <|
  .ret) (.skip)) <|
  .region [] [⟨none,[((some 19),.op (.ak (.tmp 1))),((some 20),.op (.arith .add (.tmp 19) (.val (.val (.int .i64 1))))),((some 1),.op (.ak (.tmp 20)))]⟩])
def mW:DF:=⟨.seq (.region [] [⟨none,[((some 6),.op (.ak (.val (.val (.int .i64 0)))))]⟩]) <|
  .seq (.block 0 (.loop rB)) <|
  .seq (.region [] [⟨none,[((some 6),.op (.ak (.val (.val (.int .i64 (-1))))))]⟩]) <|
  .ret,
  [.tmp 6],21⟩
theorem qM:bz Tryz.prog 160 []=some mW:=by kernel_rfl
def rX:DC :=
  .seq (.seq (.region [] [⟨none,[((some 5),.op (.ak (.tmp 1))),((some 6),.op (.ak (.tmp 0))),((some 7),.op (.len (.tmp 6))),((some 8),.op (.arith .lss (.tmp 5) (.tmp 7))),((some 9),.op (.ak (.tmp 8)))]⟩,⟨(some (9,true)),[((some 10),.op (.ak (.tmp 0))),((some 11),.op (.ak (.tmp 1))),((some 12),.op (.idx 1 (.tmp 10) (.tmp 11))),((some 13),.op (.load none (.tmp 12))),((some 14),.op (.arith .neq (.tmp 13) (.val (.val (.int .u8 10)))))]⟩,⟨none,[((some 15),.op (.pick (.tmp 9) (.tmp 14) (.val (.val (.bool false)))))]⟩]) <|
  .cond (.tmp 15) (.skip) (.exit 0)) <|
  .block 1 (.region [] [⟨none,[((some 16),.op (.ak (.tmp 1))),((some 17),.op (.arith .add (.tmp 16) (.val (.val (.int .i64 1))))),((some 1),.op (.ak (.tmp 17)))]⟩])
def mH:DF:=⟨.seq (.region [] [⟨none,[((some 4),.op (.ak (.val (.val (.int .i64 0)))))]⟩]) <|
  .seq (.block 0 (.loop rX)) <|
  .seq (.region [] [⟨none,[((some 18),.op (.ak (.tmp 1))),((some 4),.op (.ak (.tmp 18)))]⟩]) <|
  .ret,
  [.tmp 4],19⟩
theorem qv:bz Tryz.prog 161 []=some mH:=by kernel_rfl
def pX:DC :=
  .seq (.seq (.region [] [⟨none,[((some 6),.op (.ak (.tmp 1))),((some 7),.op (.arith .geq (.tmp 6) (.val (.val (.int .i64 0))))),((some 8),.op (.ak (.tmp 7)))]⟩,⟨(some (8,true)),[((some 9),.op (.ak (.tmp 1))),((some 10),.op (.ak (.tmp 0))),((some 11),.op (.len (.tmp 10))),((some 12),.op (.arith .lss (.tmp 9) (.tmp 11)))]⟩,⟨none,[((some 13),.op (.pick (.tmp 8) (.tmp 12) (.val (.val (.bool false)))))]⟩]) <|
  .cond (.tmp 13) (.skip) (.exit 0)) <|
  .block 1 (.seq (.seq (.region [] [⟨none,[((some 14),.op (.ak (.tmp 0))),((some 15),.op (.ak (.tmp 1))),((some 16),.op (.idx 1 (.tmp 14) (.tmp 15))),((some 17),.op (.load none (.tmp 16)))]⟩]) <|
  .block 2 (.seq (.region [] [⟨none,[((some 21),.op (.arith .eql (.tmp 17) (.val (.val (.int .u8 123))))),((some 20),.op (.ak (.tmp 21)))]⟩]) <|
  .cond (.tmp 20) (.seq (.region [] [⟨none,[((some 22),.op (.ak (.tmp 5))),((some 23),.op (.arith .add (.tmp 22) (.val (.val (.int .i64 1))))),((some 5),.op (.ak (.tmp 23)))]⟩]) <|
  .region [] [⟨none,[((some 24),.op (.ak (.tmp 1))),((some 25),.op (.arith .add (.tmp 24) (.val (.val (.int .i64 1))))),((some 1),.op (.ak (.tmp 25)))]⟩]) (.seq (.region [] [⟨none,[((some 27),.op (.arith .eql (.tmp 17) (.val (.val (.int .u8 125))))),((some 26),.op (.ak (.tmp 27)))]⟩]) <|
  .cond (.tmp 26) (.seq (.region [] [⟨none,[((some 28),.op (.ak (.tmp 5))),((some 29),.op (.arith .sub (.tmp 28) (.val (.val (.int .i64 1))))),((some 5),.op (.ak (.tmp 29)))]⟩]) <|
  .region [] [⟨none,[((some 30),.op (.ak (.tmp 1))),((some 31),.op (.arith .add (.tmp 30) (.val (.val (.int .i64 1))))),((some 1),.op (.ak (.tmp 31)))]⟩]) (.seq (.seq (.region [] [⟨none,[((some 33),.op (.arith .eql (.tmp 17) (.val (.val (.int .u8 39))))),((some 32),.op (.ak (.tmp 33)))]⟩]) <|
  .cond (.tmp 32) (.skip) (.region [] [⟨none,[((some 34),.op (.arith .eql (.tmp 17) (.val (.val (.int .u8 34))))),((some 32),.op (.ak (.tmp 34)))]⟩])) <|
  .cond (.tmp 32) (.region [] [⟨none,[((some 35),.op (.ak (.tmp 0))),((some 36),.op (.ak (.tmp 1))),((some 37),.call (.val (.fn 178 [] [])) [(.tmp 35),(.tmp 36)]),((some 1),.op (.ak (.tmp 37)))]⟩]) (.region [] [⟨none,[((some 18),.op (.ak (.tmp 1))),((some 19),.op (.arith .add (.tmp 18) (.val (.val (.int .i64 1))))),((some 1),.op (.ak (.tmp 19)))]⟩]))))) <|
  .seq (.region [] [⟨none,[((some 38),.op (.ak (.tmp 5))),((some 39),.op (.arith .eql (.tmp 38) (.val (.val (.int .i64 0))))),((some 40),.op (.ak (.tmp 39)))]⟩,⟨(some (40,true)),[((some 41),.op (.ak (.tmp 1))),((some 42),.op (.arith .geq (.tmp 41) (.val (.val (.int .i64 0)))))]⟩,⟨none,[((some 43),.op (.pick (.tmp 40) (.tmp 42) (.val (.val (.bool false)))))]⟩]) <|
  .cond (.tmp 43) (.seq (.region [] [⟨none,[((some 44),.op (.ak (.tmp 1))),((some 4),.op (.ak (.tmp 44)))]⟩]) <|
  .ret) (.skip))
def kE:DF:=⟨.seq (.region [] [⟨none,[((some 4),.op (.ak (.val (.val (.int .i64 0)))))]⟩]) <|
  .seq (.region [] [⟨none,[((some 5),.op (.ak (.val (.val (.int .i64 0)))))]⟩]) <|
  .seq (.block 0 (.loop pX)) <|
  .seq (.region [] [⟨none,[((some 4),.op (.ak (.val (.val (.int .i64 (-1))))))]⟩]) <|
  .ret,
  [.tmp 4],45⟩
theorem o5:bz Tryz.prog 162 []=some kE:=by kernel_rfl
def pS:DC :=
  .seq (.seq (.region [] [⟨none,[((some 12),.op (.ak (.tmp 1))),((some 13),.op (.ak (.tmp 0))),((some 14),.op (.len (.tmp 13))),((some 15),.op (.arith .lss (.tmp 12) (.tmp 14)))]⟩]) <|
  .cond (.tmp 15) (.skip) (.exit 0)) <|
  .block 1 (.seq (.seq (.region [] [⟨none,[((some 16),.op (.ak (.tmp 0))),((some 17),.op (.ak (.tmp 1))),((some 18),.op (.idx 1 (.tmp 16) (.tmp 17))),((some 19),.op (.load none (.tmp 18))),((some 20),.op (.ak (.tmp 5))),((some 21),.op (.arith .eql (.tmp 19) (.tmp 20)))]⟩]) <|
  .cond (.tmp 21) (.seq (.region [] [⟨none,[((some 22),.op (.ak (.tmp 1))),((some 23),.op (.arith .add (.tmp 22) (.val (.val (.int .i64 1))))),((some 4),.op (.ak (.tmp 23)))]⟩]) <|
  .ret) (.skip)) <|
  .seq (.seq (.region [] [⟨none,[((some 24),.op (.ak (.tmp 0))),((some 25),.op (.ak (.tmp 1))),((some 26),.op (.idx 1 (.tmp 24) (.tmp 25))),((some 27),.op (.load none (.tmp 26))),((some 28),.op (.arith .eql (.tmp 27) (.val (.val (.int .u8 92)))))]⟩]) <|
  .cond (.tmp 28) (.region [] [⟨none,[((some 29),.op (.ak (.tmp 1))),((some 30),.op (.arith .add (.tmp 29) (.val (.val (.int .i64 1))))),((some 1),.op (.ak (.tmp 30)))]⟩]) (.skip)) <|
  .region [] [⟨none,[((some 31),.op (.ak (.tmp 1))),((some 32),.op (.arith .add (.tmp 31) (.val (.val (.int .i64 1))))),((some 1),.op (.ak (.tmp 32)))]⟩])
def kD:DF:=⟨.seq (.region [] [⟨none,[((some 4),.op (.ak (.val (.val (.int .i64 0)))))]⟩]) <|
  .seq (.region [] [⟨none,[((some 6),.op (.ak (.tmp 0))),((some 7),.op (.ak (.tmp 1))),((some 8),.op (.idx 1 (.tmp 6) (.tmp 7))),((some 9),.op (.load none (.tmp 8))),((some 5),.op (.ak (.tmp 9)))]⟩]) <|
  .seq (.region [] [⟨none,[((some 10),.op (.ak (.tmp 1))),((some 11),.op (.arith .add (.tmp 10) (.val (.val (.int .i64 1))))),((some 1),.op (.ak (.tmp 11)))]⟩]) <|
  .seq (.block 0 (.loop pS)) <|
  .seq (.region [] [⟨none,[((some 4),.op (.ak (.val (.val (.int .i64 (-1))))))]⟩]) <|
  .ret,
  [.tmp 4],33⟩
theorem oW:bz Tryz.prog 178 []=some kD:=by kernel_rfl
def tK:DC :=
  .seq (.seq (.region [] [⟨none,[((some 16),.op (.ak (.tmp 7))),((some 17),.op (.ak (.tmp 1))),((some 18),.op (.arith .lss (.tmp 16) (.tmp 17)))]⟩]) <|
  .cond (.tmp 18) (.skip) (.exit 0)) <|
  .seq (.block 1 (.seq (.region [] [⟨none,[((some 21),.op (.ak (.tmp 6))),((some 22),.op (.arith .add (.tmp 21) (.val (.val (.int .i64 1))))),((some 6),.op (.ak (.tmp 22)))]⟩]) <|
  .seq (.region [] [⟨none,[((some 23),.op (.ak (.tmp 0))),((some 24),.op (.ak (.tmp 7))),((some 25),.op (.idx 1 (.tmp 23) (.tmp 24))),((some 26),.op (.load none (.tmp 25))),((some 27),.op (.arith .eql (.tmp 26) (.val (.val (.int .u8 10)))))]⟩]) <|
  .cond (.tmp 27) (.region [] [⟨none,[((some 28),.op (.ak (.tmp 5))),((some 29),.op (.arith .add (.tmp 28) (.val (.val (.int .i64 1))))),((some 5),.op (.ak (.tmp 29))),((some 6),.op (.ak (.val (.val (.int .i64 1)))))]⟩]) (.skip))) <|
  .region [] [⟨none,[((some 19),.op (.ak (.tmp 7))),((some 20),.op (.arith .add (.tmp 19) (.val (.val (.int .i64 1))))),((some 7),.op (.ak (.tmp 20)))]⟩]
def oL:DF:=⟨.seq (.region [] [⟨none,[((some 4),.op (.ak (.val (.val (.complex .f64 0 0)))))]⟩]) <|
  .seq (.seq (.region [] [⟨none,[((some 8),.op (.ak (.tmp 1))),((some 9),.op (.arith .lss (.tmp 8) (.val (.val (.int .i64 0))))),((some 10),.op (.ak (.tmp 9)))]⟩,⟨(some (10,false)),[((some 11),.op (.ak (.tmp 1))),((some 12),.op (.ak (.tmp 0))),((some 13),.op (.len (.tmp 12))),((some 14),.op (.arith .gtr (.tmp 11) (.tmp 13)))]⟩,⟨none,[((some 15),.op (.pick (.tmp 10) (.val (.val (.bool true))) (.tmp 14)))]⟩]) <|
  .cond (.tmp 15) (.seq (.region [] [⟨none,[((some 4),.op (.ak (.val (.val (.complex .f64 0 0)))))]⟩]) <|
  .ret) (.skip)) <|
  .seq (.region [] [⟨none,[((some 5),.op (.ak (.val (.val (.int .i64 1))))),((some 6),.op (.ak (.val (.val (.int .i64 1)))))]⟩]) <|
  .seq (.seq (.region [] [⟨none,[((some 7),.op (.ak (.val (.val (.int .i64 0)))))]⟩]) <|
  .block 0 (.loop tK)) <|
  .seq (.region [] [⟨none,[((some 30),.op (.ak (.tmp 5))),((some 31),.op (.ak (.tmp 6))),((some 32),.call (.val (.fn 163 [] [])) [(.tmp 30),(.tmp 31)]),((some 4),.op (.ak (.tmp 32)))]⟩]) <|
  .ret,
  [.tmp 4],33⟩
theorem sS:bz Tryz.prog 132 []=some oL:=by kernel_rfl
def oz:DF:=⟨.seq (.region [] [⟨none,[((some 4),.op (.ak (.val (.val (.complex .f64 0 0)))))]⟩]) <|
  .seq (.seq (.region [] [⟨none,[((some 5),.op (.ak (.tmp 0))),((some 6),.op (.arith .lss (.tmp 5) (.val (.val (.int .i64 1))))),((some 7),.op (.ak (.tmp 6)))]⟩,⟨(some (7,false)),[((some 8),.op (.ak (.tmp 0))),((some 9),.op (.arith .gtr (.tmp 8) (.val (.val (.int .i64 1073741824)))))]⟩,⟨none,[((some 10),.op (.pick (.tmp 7) (.val (.val (.bool true))) (.tmp 9))),((some 11),.op (.ak (.tmp 10)))]⟩,⟨(some (11,false)),[((some 12),.op (.ak (.tmp 1))),((some 13),.op (.arith .lss (.tmp 12) (.val (.val (.int .i64 1)))))]⟩,⟨none,[((some 14),.op (.pick (.tmp 11) (.val (.val (.bool true))) (.tmp 13))),((some 15),.op (.ak (.tmp 14)))]⟩,⟨(some (15,false)),[((some 16),.op (.ak (.tmp 1))),((some 17),.op (.arith .gtr (.tmp 16) (.val (.val (.int .i64 1073741824)))))]⟩,⟨none,[((some 18),.op (.pick (.tmp 15) (.val (.val (.bool true))) (.tmp 17)))]⟩]) <|
  .cond (.tmp 18) (.seq (.region [] [⟨none,[((some 4),.op (.ak (.val (.val (.complex .f64 0 0)))))]⟩]) <|
  .ret) (.skip)) <|
  .seq (.region [] [⟨none,[((some 19),.op (.ak (.tmp 0))),((some 20),.op (.bj (.convert 3 214 (.tmp 19)) 214)),((some 21),.op (.ak (.tmp 1))),((some 22),.op (.bj (.convert 3 214 (.tmp 21)) 214)),((some 23),.op (.bj (.call { callee:=.builtin .complex,args:=#[(.tmp 20),(.tmp 22)],argTypes:=#[214,214] }) 54)),((some 4),.op (.ak (.tmp 23)))]⟩]) <|
  .ret,
  [.tmp 4],24⟩
theorem sP:bz Tryz.prog 163 []=some oz:=by kernel_rfl
def sU:DC :=
  .seq (.seq (.region [] [⟨none,[((some 27),.op (.ak (.tmp 9))),((some 28),.op (.ak (.tmp 0))),((some 29),.op (.len (.tmp 28))),((some 30),.op (.arith .lss (.tmp 27) (.tmp 29))),((some 31),.op (.ak (.tmp 30)))]⟩,⟨(some (31,true)),[((some 32),.op (.ak (.tmp 0))),((some 33),.op (.ak (.tmp 9))),((some 34),.op (.idx 1 (.tmp 32) (.tmp 33))),((some 35),.op (.load none (.tmp 34))),((some 36),.call (.val (.fn 149 [] [])) [(.tmp 35)])]⟩,⟨none,[((some 37),.op (.pick (.tmp 31) (.tmp 36) (.val (.val (.bool false)))))]⟩]) <|
  .cond (.tmp 37) (.skip) (.exit 1)) <|
  .block 2 (.region [] [⟨none,[((some 38),.op (.ak (.tmp 9))),((some 39),.op (.arith .add (.tmp 38) (.val (.val (.int .i64 1))))),((some 9),.op (.ak (.tmp 39)))]⟩])
def sT:DC :=
  .seq (.seq (.region [] [⟨none,[((some 58),.op (.ak (.tmp 10))),((some 59),.op (.arith .leq (.tmp 58) (.val (.val (.int .i64 4)))))]⟩]) <|
  .cond (.tmp 59) (.skip) (.exit 3)) <|
  .seq (.block 4 (.seq (.region [] [⟨none,[((some 62),.op (.ak (.tmp 1))),((some 63),.op (.ak (.tmp 10))),((some 64),.op (.arith .add (.tmp 62) (.tmp 63))),((some 65),.op (.ak (.tmp 0))),((some 66),.op (.len (.tmp 65))),((some 67),.op (.arith .leq (.tmp 64) (.tmp 66))),((some 68),.op (.ak (.tmp 67)))]⟩,⟨(some (68,true)),[((some 69),.op (.ak (.tmp 0))),((some 70),.op (.ak (.tmp 1))),((some 71),.op (.ak (.tmp 1))),((some 72),.op (.ak (.tmp 10))),((some 73),.op (.arith .add (.tmp 71) (.tmp 72))),((some 74),.op (.slice 1 (.tmp 69) (some (.tmp 70)) (some (.tmp 73)))),((some 75),.op (.bj (.convert 57 9 (.tmp 74)) 9)),((some 76),.call (.val (.fn 147 [] [])) [(.tmp 75)])]⟩,⟨none,[((some 77),.op (.pick (.tmp 68) (.tmp 76) (.val (.val (.bool false)))))]⟩]) <|
  .cond (.tmp 77) (.seq (.region [(6,8)] [⟨none,[((some 78),.op (.ak (.tmp 0))),((some 79),.op (.ak (.tmp 1))),((some 80),.op (.ak (.tmp 1))),((some 81),.op (.ak (.tmp 10))),((some 82),.op (.arith .add (.tmp 80) (.tmp 81))),((some 83),.op (.slice 1 (.tmp 78) (some (.tmp 79)) (some (.tmp 82)))),((some 84),.op (.bj (.convert 57 9 (.tmp 83)) 9)),((some 85),.op (.addr 0 (.tmp 7))),(none,.op (.store 1 (.tmp 85) (.val (.val (.int .i64 2))))),((some 86),.op (.addr 1 (.tmp 7))),(none,.op (.store 1 (.tmp 86) (.tmp 84)))]⟩]) <|
  .seq (.region [] [⟨none,[((some 87),.op (.load (some 3) (.tmp 7))),((some 88),.op (.ak (.tmp 1))),((some 89),.op (.ak (.tmp 10))),((some 90),.op (.arith .add (.tmp 88) (.tmp 89))),(none,.op (.store 3 (.tmp 4) (.tmp 87))),((some 5),.op (.ak (.tmp 90))),((some 6),.op (.ak (.val (.val (.int .i64 0)))))]⟩]) <|
  .ret) (.skip))) <|
  .region [] [⟨none,[((some 60),.op (.ak (.tmp 10))),((some 61),.op (.arith .add (.tmp 60) (.val (.val (.int .i64 1))))),((some 10),.op (.ak (.tmp 61)))]⟩]
def sZ:DC :=
  .seq (.seq (.region [] [⟨none,[((some 108),.op (.ak (.tmp 9))),((some 109),.op (.ak (.tmp 0))),((some 110),.op (.len (.tmp 109))),((some 111),.op (.arith .lss (.tmp 108) (.tmp 110))),((some 112),.op (.ak (.tmp 111)))]⟩,⟨(some (112,true)),[((some 113),.op (.ak (.tmp 0))),((some 114),.op (.ak (.tmp 9))),((some 115),.op (.idx 1 (.tmp 113) (.tmp 114))),((some 116),.op (.load none (.tmp 115))),((some 117),.op (.arith .geq (.tmp 116) (.val (.val (.int .u8 97)))))]⟩,⟨none,[((some 118),.op (.pick (.tmp 112) (.tmp 117) (.val (.val (.bool false))))),((some 119),.op (.ak (.tmp 118)))]⟩,⟨(some (119,true)),[((some 120),.op (.ak (.tmp 0))),((some 121),.op (.ak (.tmp 9))),((some 122),.op (.idx 1 (.tmp 120) (.tmp 121))),((some 123),.op (.load none (.tmp 122))),((some 124),.op (.arith .leq (.tmp 123) (.val (.val (.int .u8 122)))))]⟩,⟨none,[((some 125),.op (.pick (.tmp 119) (.tmp 124) (.val (.val (.bool false)))))]⟩]) <|
  .cond (.tmp 125) (.skip) (.exit 5)) <|
  .block 6 (.region [] [⟨none,[((some 126),.op (.ak (.tmp 9))),((some 127),.op (.arith .add (.tmp 126) (.val (.val (.int .i64 1))))),((some 9),.op (.ak (.tmp 127)))]⟩])
def nq:DF:=⟨.seq (.region [] [⟨none,[((some 4),.op (.alloc [(.val (.int .i64 0)),(.val (.string ⟨#[]⟩)),(.val (.complex .f64 0 0))])),((some 5),.op (.ak (.val (.val (.int .i64 0))))),((some 6),.op (.ak (.val (.val (.int .i64 0)))))]⟩]) <|
  .seq (.region [] [⟨none,[((some 11),.op (.ak (.tmp 0))),((some 12),.op (.ak (.tmp 1))),((some 13),.call (.val (.fn 132 [] [])) [(.tmp 11),(.tmp 12)]),((some 14),.op (.build [(.val (.int .i64 0)),(.val (.string ⟨#[]⟩)),(.val (.complex .f64 0 0))] [(2,1,(.tmp 13))])),((some 7),.op (.alloc [(.val (.int .i64 0)),(.val (.string ⟨#[]⟩)),(.val (.complex .f64 0 0))])),(none,.op (.store 3 (.tmp 7) (.tmp 14)))]⟩]) <|
  .seq (.region [] [⟨none,[((some 15),.op (.ak (.tmp 0))),((some 16),.op (.ak (.tmp 1))),((some 17),.op (.idx 1 (.tmp 15) (.tmp 16))),((some 18),.op (.load none (.tmp 17))),((some 8),.op (.ak (.tmp 18)))]⟩]) <|
  .seq (.region [] [⟨none,[((some 19),.op (.ak (.tmp 1))),((some 20),.op (.arith .add (.tmp 19) (.val (.val (.int .i64 1))))),((some 9),.op (.ak (.tmp 20)))]⟩]) <|
  .seq (.block 0 (.seq (.region [] [⟨none,[((some 25),.op (.ak (.tmp 8))),((some 26),.call (.val (.fn 148 [] [])) [(.tmp 25)]),((some 24),.op (.ak (.tmp 26)))]⟩]) <|
  .cond (.tmp 24) (.seq (.block 1 (.loop sU)) <|
  .seq (.seq (.region [] [⟨none,[((some 40),.op (.ak (.tmp 9))),((some 41),.op (.ak (.tmp 1))),((some 42),.op (.arith .sub (.tmp 40) (.tmp 41))),((some 43),.op (.arith .gtr (.tmp 42) (.val (.val (.int .i64 20)))))]⟩]) <|
  .cond (.tmp 43) (.seq (.region [] [⟨none,[((some 44),.op (.load (some 3) (.tmp 7))),((some 45),.op (.ak (.tmp 9))),(none,.op (.store 3 (.tmp 4) (.tmp 44))),((some 5),.op (.ak (.tmp 45))),((some 6),.op (.ak (.val (.val (.int .i64 5)))))]⟩]) <|
  .ret) (.skip)) <|
  .seq (.region [(4,6)] [⟨none,[((some 46),.op (.ak (.tmp 0))),((some 47),.op (.ak (.tmp 1))),((some 48),.op (.ak (.tmp 9))),((some 49),.op (.slice 1 (.tmp 46) (some (.tmp 47)) (some (.tmp 48)))),((some 50),.op (.bj (.convert 57 9 (.tmp 49)) 9)),((some 51),.op (.addr 0 (.tmp 7))),(none,.op (.store 1 (.tmp 51) (.val (.val (.int .i64 1))))),((some 52),.op (.addr 1 (.tmp 7))),(none,.op (.store 1 (.tmp 52) (.tmp 50)))]⟩]) <|
  .seq (.region [] [⟨none,[((some 53),.op (.load (some 3) (.tmp 7))),((some 54),.op (.ak (.tmp 9))),(none,.op (.store 3 (.tmp 4) (.tmp 53))),((some 5),.op (.ak (.tmp 54))),((some 6),.op (.ak (.val (.val (.int .i64 0)))))]⟩]) <|
  .ret) (.seq (.region [] [⟨none,[((some 56),.op (.ak (.tmp 8))),((some 57),.op (.arith .eql (.tmp 56) (.val (.val (.int .u8 39))))),((some 55),.op (.ak (.tmp 57)))]⟩]) <|
  .cond (.tmp 55) (.seq (.seq (.region [] [⟨none,[((some 10),.op (.ak (.val (.val (.int .i64 3)))))]⟩]) <|
  .block 3 (.loop sT)) <|
  .seq (.region [(0,5)] [⟨none,[((some 91),.op (.load (some 3) (.tmp 7))),((some 92),.op (.ak (.tmp 9))),((some 93),.op (.ak (.tmp 0))),((some 94),.op (.ak (.tmp 1))),((some 95),.op (.slice 1 (.tmp 93) (some (.tmp 94)) none)),((some 96),.call (.val (.fn 164 [] [])) [(.tmp 95)]),(none,.op (.store 3 (.tmp 4) (.tmp 91))),((some 5),.op (.ak (.tmp 92))),((some 6),.op (.ak (.tmp 96)))]⟩]) <|
  .ret) (.seq (.region [] [⟨none,[((some 98),.op (.ak (.tmp 0))),((some 99),.op (.ak (.tmp 1))),((some 100),.call (.val (.fn 159 [] [])) [(.tmp 98),(.tmp 99),(.val (.val (.string ⟨#[37,37]⟩)))]),((some 97),.op (.ak (.tmp 100)))]⟩]) <|
  .cond (.tmp 97) (.seq (.region [] [⟨none,[((some 101),.op (.addr 0 (.tmp 7))),(none,.op (.store 1 (.tmp 101) (.val (.val (.int .i64 9)))))]⟩]) <|
  .seq (.region [] [⟨none,[((some 102),.op (.load (some 3) (.tmp 7))),((some 103),.op (.ak (.tmp 1))),((some 104),.op (.arith .add (.tmp 103) (.val (.val (.int .i64 2))))),(none,.op (.store 3 (.tmp 4) (.tmp 102))),((some 5),.op (.ak (.tmp 104))),((some 6),.op (.ak (.val (.val (.int .i64 0)))))]⟩]) <|
  .ret) (.seq (.region [] [⟨none,[((some 106),.op (.ak (.tmp 8))),((some 107),.op (.arith .eql (.tmp 106) (.val (.val (.int .u8 37))))),((some 105),.op (.ak (.tmp 107)))]⟩]) <|
  .cond (.tmp 105) (.seq (.block 5 (.loop sZ)) <|
  .region [] [⟨none,[((some 128),.op (.ak (.tmp 0))),((some 129),.op (.ak (.tmp 1))),((some 130),.op (.arith .add (.tmp 129) (.val (.val (.int .i64 1))))),((some 131),.op (.ak (.tmp 9))),((some 132),.op (.slice 1 (.tmp 128) (some (.tmp 130)) (some (.tmp 131)))),((some 133),.op (.bj (.convert 57 9 (.tmp 132)) 9)),((some 134),.call (.val (.fn 165 [] [])) [(.tmp 133)]),((some 135),.op (.addr 0 (.tmp 7))),(none,.op (.store 1 (.tmp 135) (.tmp 134)))]⟩]) (.region [] [⟨none,[((some 21),.op (.ak (.tmp 8))),((some 22),.call (.val (.fn 166 [] [])) [(.tmp 21)]),((some 23),.op (.addr 0 (.tmp 7))),(none,.op (.store 1 (.tmp 23) (.tmp 22)))]⟩])))))) <|
  .seq (.seq (.region [] [⟨none,[((some 136),.op (.addr 0 (.tmp 7))),((some 137),.op (.load none (.tmp 136))),((some 138),.op (.arith .eql (.tmp 137) (.val (.val (.int .i64 0)))))]⟩]) <|
  .cond (.tmp 138) (.seq (.region [] [⟨none,[((some 139),.op (.load (some 3) (.tmp 7))),((some 140),.op (.ak (.tmp 9))),(none,.op (.store 3 (.tmp 4) (.tmp 139))),((some 5),.op (.ak (.tmp 140))),((some 6),.op (.ak (.val (.val (.int .i64 3)))))]⟩]) <|
  .ret) (.skip)) <|
  .seq (.region [] [⟨none,[((some 141),.op (.load (some 3) (.tmp 7))),((some 142),.op (.ak (.tmp 9))),(none,.op (.store 3 (.tmp 4) (.tmp 141))),((some 5),.op (.ak (.tmp 142))),((some 6),.op (.ak (.val (.val (.int .i64 0)))))]⟩]) <|
  .ret,
  [.cell 4 (some 3),.tmp 5,.tmp 6],143⟩
theorem rI:bz Tryz.prog 133 []=some nq:=by kernel_rfl
def ld:DF:=⟨.seq (.region [] [⟨none,[((some 2),.op (.ak (.val (.val (.bool false)))))]⟩]) <|
  .seq (.region [] [⟨none,[((some 3),.op (.ak (.tmp 0))),((some 4),.call (.val (.fn 148 [] [])) [(.tmp 3)]),((some 5),.op (.ak (.tmp 4)))]⟩,⟨(some (5,false)),[((some 6),.op (.ak (.tmp 0))),((some 7),.op (.arith .geq (.tmp 6) (.val (.val (.int .u8 48))))),((some 8),.op (.ak (.tmp 7)))]⟩,⟨(some (8,true)),[((some 9),.op (.ak (.tmp 0))),((some 10),.op (.arith .leq (.tmp 9) (.val (.val (.int .u8 57)))))]⟩,⟨(some (5,false)),[((some 11),.op (.pick (.tmp 8) (.tmp 10) (.val (.val (.bool false)))))]⟩,⟨none,[((some 12),.op (.pick (.tmp 5) (.val (.val (.bool true))) (.tmp 11))),((some 13),.op (.ak (.tmp 12)))]⟩,⟨(some (13,false)),[((some 14),.op (.ak (.tmp 0))),((some 15),.op (.arith .eql (.tmp 14) (.val (.val (.int .u8 46)))))]⟩,⟨none,[((some 16),.op (.pick (.tmp 13) (.val (.val (.bool true))) (.tmp 15))),((some 2),.op (.ak (.tmp 16)))]⟩]) <|
  .ret,
  [.tmp 2],17⟩
theorem pM:bz Tryz.prog 149 []=some ld:=by kernel_rfl
def lf:DF:=⟨.seq (.region [] [⟨none,[((some 2),.op (.ak (.val (.val (.bool false)))))]⟩]) <|
  .seq (.region [] [⟨none,[((some 3),.op (.ak (.tmp 0))),((some 4),.op (.arith .geq (.tmp 3) (.val (.val (.int .u8 97))))),((some 5),.op (.ak (.tmp 4)))]⟩,⟨(some (5,true)),[((some 6),.op (.ak (.tmp 0))),((some 7),.op (.arith .leq (.tmp 6) (.val (.val (.int .u8 122)))))]⟩,⟨none,[((some 8),.op (.pick (.tmp 5) (.tmp 7) (.val (.val (.bool false))))),((some 9),.op (.ak (.tmp 8)))]⟩,⟨(some (9,false)),[((some 10),.op (.ak (.tmp 0))),((some 11),.op (.arith .geq (.tmp 10) (.val (.val (.int .u8 65))))),((some 12),.op (.ak (.tmp 11)))]⟩,⟨(some (12,true)),[((some 13),.op (.ak (.tmp 0))),((some 14),.op (.arith .leq (.tmp 13) (.val (.val (.int .u8 90)))))]⟩,⟨(some (9,false)),[((some 15),.op (.pick (.tmp 12) (.tmp 14) (.val (.val (.bool false)))))]⟩,⟨none,[((some 16),.op (.pick (.tmp 9) (.val (.val (.bool true))) (.tmp 15))),((some 17),.op (.ak (.tmp 16)))]⟩,⟨(some (17,false)),[((some 18),.op (.ak (.tmp 0))),((some 19),.op (.arith .eql (.tmp 18) (.val (.val (.int .u8 95)))))]⟩,⟨none,[((some 20),.op (.pick (.tmp 17) (.val (.val (.bool true))) (.tmp 19))),((some 2),.op (.ak (.tmp 20)))]⟩]) <|
  .ret,
  [.tmp 2],21⟩
theorem p6:bz Tryz.prog 148 []=some lf:=by kernel_rfl
def jR:DF:=⟨.seq (.region [] [⟨none,[((some 2),.op (.ak (.val (.val (.bool false)))))]⟩]) <|
  .seq (.seq (.region [] [⟨none,[((some 3),.op (.ak (.tmp 0))),((some 4),.op (.fB (.tmp 3))),((some 5),.op (.arith .eql (.tmp 4) (.val (.val (.int .i64 3)))))]⟩]) <|
  .cond (.tmp 5) (.seq (.region [] [⟨none,[((some 6),.op (.ak (.tmp 0))),((some 7),.op (.cH (.tmp 6) (.val (.val (.int .i64 0))))),((some 8),.op (.arith .eql (.tmp 7) (.val (.val (.int .u8 39))))),((some 9),.op (.ak (.tmp 8)))]⟩,⟨(some (9,true)),[((some 10),.op (.ak (.tmp 0))),((some 11),.op (.cH (.tmp 10) (.val (.val (.int .i64 2))))),((some 12),.op (.arith .eql (.tmp 11) (.val (.val (.int .u8 39)))))]⟩,⟨none,[((some 13),.op (.pick (.tmp 9) (.tmp 12) (.val (.val (.bool false))))),((some 14),.op (.ak (.tmp 13)))]⟩,⟨(some (14,true)),[((some 15),.op (.ak (.tmp 0))),((some 16),.op (.cH (.tmp 15) (.val (.val (.int .i64 1))))),((some 17),.op (.arith .geq (.tmp 16) (.val (.val (.int .u8 32)))))]⟩,⟨none,[((some 18),.op (.pick (.tmp 14) (.tmp 17) (.val (.val (.bool false))))),((some 19),.op (.ak (.tmp 18)))]⟩,⟨(some (19,true)),[((some 20),.op (.ak (.tmp 0))),((some 21),.op (.cH (.tmp 20) (.val (.val (.int .i64 1))))),((some 22),.op (.arith .leq (.tmp 21) (.val (.val (.int .u8 126)))))]⟩,⟨none,[((some 23),.op (.pick (.tmp 19) (.tmp 22) (.val (.val (.bool false))))),((some 24),.op (.ak (.tmp 23)))]⟩,⟨(some (24,true)),[((some 25),.op (.ak (.tmp 0))),((some 26),.op (.cH (.tmp 25) (.val (.val (.int .i64 1))))),((some 27),.op (.arith .neq (.tmp 26) (.val (.val (.int .u8 39)))))]⟩,⟨none,[((some 28),.op (.pick (.tmp 24) (.tmp 27) (.val (.val (.bool false))))),((some 29),.op (.ak (.tmp 28)))]⟩,⟨(some (29,true)),[((some 30),.op (.ak (.tmp 0))),((some 31),.op (.cH (.tmp 30) (.val (.val (.int .i64 1))))),((some 32),.op (.arith .neq (.tmp 31) (.val (.val (.int .u8 92)))))]⟩,⟨none,[((some 33),.op (.pick (.tmp 29) (.tmp 32) (.val (.val (.bool false))))),((some 2),.op (.ak (.tmp 33)))]⟩]) <|
  .ret) (.skip)) <|
  .seq (.region [] [⟨none,[((some 34),.op (.ak (.tmp 0))),((some 35),.op (.fB (.tmp 34))),((some 36),.op (.arith .eql (.tmp 35) (.val (.val (.int .i64 4))))),((some 37),.op (.ak (.tmp 36)))]⟩,⟨(some (37,true)),[((some 38),.op (.ak (.tmp 0))),((some 39),.op (.cH (.tmp 38) (.val (.val (.int .i64 0))))),((some 40),.op (.arith .eql (.tmp 39) (.val (.val (.int .u8 39)))))]⟩,⟨none,[((some 41),.op (.pick (.tmp 37) (.tmp 40) (.val (.val (.bool false))))),((some 42),.op (.ak (.tmp 41)))]⟩,⟨(some (42,true)),[((some 43),.op (.ak (.tmp 0))),((some 44),.op (.cH (.tmp 43) (.val (.val (.int .i64 3))))),((some 45),.op (.arith .eql (.tmp 44) (.val (.val (.int .u8 39)))))]⟩,⟨none,[((some 46),.op (.pick (.tmp 42) (.tmp 45) (.val (.val (.bool false))))),((some 47),.op (.ak (.tmp 46)))]⟩,⟨(some (47,true)),[((some 48),.op (.ak (.tmp 0))),((some 49),.op (.cH (.tmp 48) (.val (.val (.int .i64 1))))),((some 50),.op (.arith .eql (.tmp 49) (.val (.val (.int .u8 92)))))]⟩,⟨none,[((some 51),.op (.pick (.tmp 47) (.tmp 50) (.val (.val (.bool false))))),((some 52),.op (.ak (.tmp 51)))]⟩,⟨(some (52,true)),[((some 53),.op (.ak (.tmp 0))),((some 54),.op (.cH (.tmp 53) (.val (.val (.int .i64 2))))),((some 55),.op (.arith .eql (.tmp 54) (.val (.val (.int .u8 110))))),((some 56),.op (.ak (.tmp 55)))]⟩,⟨(some (56,false)),[((some 57),.op (.ak (.tmp 0))),((some 58),.op (.cH (.tmp 57) (.val (.val (.int .i64 2))))),((some 59),.op (.arith .eql (.tmp 58) (.val (.val (.int .u8 116)))))]⟩,⟨(some (52,true)),[((some 60),.op (.pick (.tmp 56) (.val (.val (.bool true))) (.tmp 59))),((some 61),.op (.ak (.tmp 60)))]⟩,⟨(some (61,false)),[((some 62),.op (.ak (.tmp 0))),((some 63),.op (.cH (.tmp 62) (.val (.val (.int .i64 2))))),((some 64),.op (.arith .eql (.tmp 63) (.val (.val (.int .u8 92)))))]⟩,⟨(some (52,true)),[((some 65),.op (.pick (.tmp 61) (.val (.val (.bool true))) (.tmp 64))),((some 66),.op (.ak (.tmp 65)))]⟩,⟨(some (66,false)),[((some 67),.op (.ak (.tmp 0))),((some 68),.op (.cH (.tmp 67) (.val (.val (.int .i64 2))))),((some 69),.op (.arith .eql (.tmp 68) (.val (.val (.int .u8 39)))))]⟩,⟨(some (52,true)),[((some 70),.op (.pick (.tmp 66) (.val (.val (.bool true))) (.tmp 69)))]⟩,⟨none,[((some 71),.op (.pick (.tmp 52) (.tmp 70) (.val (.val (.bool false))))),((some 2),.op (.ak (.tmp 71)))]⟩]) <|
  .ret,
  [.tmp 2],72⟩
theorem ou:bz Tryz.prog 147 []=some jR:=by kernel_rfl
def o3:DC :=
  .seq (.seq (.region [] [⟨none,[((some 6),.op (.ak (.tmp 4))),((some 7),.op (.ak (.tmp 3))),((some 8),.op (.len (.tmp 7))),((some 9),.op (.arith .lss (.tmp 6) (.tmp 8)))]⟩]) <|
  .cond (.tmp 9) (.skip) (.exit 0)) <|
  .seq (.block 1 (.seq (.region [(5,9)] [⟨none,[((some 12),.op (.ak (.tmp 0))),((some 13),.op (.len (.tmp 12))),((some 14),.op (.arith .lss (.tmp 13) (.val (.val (.int .i64 4))))),((some 15),.op (.ak (.tmp 14)))]⟩,⟨(some (15,true)),[((some 16),.op (.ak (.tmp 0))),((some 17),.op (.bj (.convert 57 9 (.tmp 16)) 9)),((some 18),.op (.ak (.tmp 3))),((some 19),.op (.ak (.tmp 4))),((some 20),.op (.idx 1 (.tmp 18) (.tmp 19))),((some 21),.op (.load none (.tmp 20))),((some 22),.op (.gV .add (.tmp 17) (.tmp 21))),((some 23),.call (.val (.fn 147 [] [])) [(.tmp 22)])]⟩,⟨none,[((some 24),.op (.pick (.tmp 15) (.tmp 23) (.val (.val (.bool false)))))]⟩]) <|
  .cond (.tmp 24) (.seq (.region [] [⟨none,[((some 2),.op (.ak (.val (.val (.int .i64 4)))))]⟩]) <|
  .ret) (.skip))) <|
  .region [] [⟨none,[((some 10),.op (.ak (.tmp 4))),((some 11),.op (.arith .add (.tmp 10) (.val (.val (.int .i64 1))))),((some 4),.op (.ak (.tmp 11)))]⟩]
def jT:DF:=⟨.seq (.region [] [⟨none,[((some 2),.op (.ak (.val (.val (.int .i64 0)))))]⟩]) <|
  .seq (.region [] [⟨none,[((some 5),.op (.bE 5 1 [(.val (.string ⟨#[]⟩))] [(0,(.val (.val (.string ⟨#[120,39]⟩)))),(1,(.val (.val (.string ⟨#[39]⟩)))),(2,(.val (.val (.string ⟨#[92,110,39]⟩)))),(3,(.val (.val (.string ⟨#[110,39]⟩)))),(4,(.val (.val (.string ⟨#[92,39,39]⟩))))])),((some 3),.op (.ak (.tmp 5)))]⟩]) <|
  .seq (.seq (.region [] [⟨none,[((some 4),.op (.ak (.val (.val (.int .i64 0)))))]⟩]) <|
  .block 0 (.loop o3)) <|
  .seq (.region [] [⟨none,[((some 2),.op (.ak (.val (.val (.int .i64 3)))))]⟩]) <|
  .ret,
  [.tmp 2],25⟩
theorem ot:bz Tryz.prog 164 []=some jT:=by kernel_rfl
def jO:DF:=⟨.seq (.region [] [⟨none,[((some 2),.op (.ak (.val (.val (.int .i64 0)))))]⟩]) <|
  .seq (.seq (.region [] [⟨none,[((some 3),.op (.ak (.tmp 0)))]⟩]) <|
  .block 0 (.seq (.region [] [⟨none,[((some 5),.op (.gV .eql (.tmp 3) (.val (.val (.string ⟨#[116,111,107,101,110]⟩))))),((some 4),.op (.ak (.tmp 5)))]⟩]) <|
  .cond (.tmp 4) (.seq (.region [] [⟨none,[((some 2),.op (.ak (.val (.val (.int .i64 3)))))]⟩]) <|
  .ret) (.seq (.region [] [⟨none,[((some 7),.op (.gV .eql (.tmp 3) (.val (.val (.string ⟨#[108,101,102,116]⟩))))),((some 6),.op (.ak (.tmp 7)))]⟩]) <|
  .cond (.tmp 6) (.seq (.region [] [⟨none,[((some 2),.op (.ak (.val (.val (.int .i64 4)))))]⟩]) <|
  .ret) (.seq (.region [] [⟨none,[((some 9),.op (.gV .eql (.tmp 3) (.val (.val (.string ⟨#[114,105,103,104,116]⟩))))),((some 8),.op (.ak (.tmp 9)))]⟩]) <|
  .cond (.tmp 8) (.seq (.region [] [⟨none,[((some 2),.op (.ak (.val (.val (.int .i64 5)))))]⟩]) <|
  .ret) (.seq (.region [] [⟨none,[((some 11),.op (.gV .eql (.tmp 3) (.val (.val (.string ⟨#[110,111,110,97,115,115,111,99]⟩))))),((some 10),.op (.ak (.tmp 11)))]⟩]) <|
  .cond (.tmp 10) (.seq (.region [] [⟨none,[((some 2),.op (.ak (.val (.val (.int .i64 6)))))]⟩]) <|
  .ret) (.seq (.region [] [⟨none,[((some 13),.op (.gV .eql (.tmp 3) (.val (.val (.string ⟨#[115,116,97,114,116]⟩))))),((some 12),.op (.ak (.tmp 13)))]⟩]) <|
  .cond (.tmp 12) (.seq (.region [] [⟨none,[((some 2),.op (.ak (.val (.val (.int .i64 7)))))]⟩]) <|
  .ret) (.seq (.region [] [⟨none,[((some 15),.op (.gV .eql (.tmp 3) (.val (.val (.string ⟨#[112,114,101,99]⟩))))),((some 14),.op (.ak (.tmp 15)))]⟩]) <|
  .cond (.tmp 14) (.seq (.region [] [⟨none,[((some 2),.op (.ak (.val (.val (.int .i64 8)))))]⟩]) <|
  .ret) (.skip)))))))) <|
  .seq (.region [] [⟨none,[((some 2),.op (.ak (.val (.val (.int .i64 0)))))]⟩]) <|
  .ret,
  [.tmp 2],16⟩
theorem oA:bz Tryz.prog 165 []=some jO:=by kernel_rfl
def mj:DF:=⟨.seq (.region [] [⟨none,[((some 2),.op (.ak (.val (.val (.int .i64 0)))))]⟩]) <|
  .seq (.seq (.region [] [⟨none,[((some 3),.op (.ak (.tmp 0)))]⟩]) <|
  .block 0 (.seq (.region [] [⟨none,[((some 5),.op (.arith .eql (.tmp 3) (.val (.val (.int .u8 58))))),((some 4),.op (.ak (.tmp 5)))]⟩]) <|
  .cond (.tmp 4) (.seq (.region [] [⟨none,[((some 2),.op (.ak (.val (.val (.int .i64 10)))))]⟩]) <|
  .ret) (.seq (.region [] [⟨none,[((some 7),.op (.arith .eql (.tmp 3) (.val (.val (.int .u8 124))))),((some 6),.op (.ak (.tmp 7)))]⟩]) <|
  .cond (.tmp 6) (.seq (.region [] [⟨none,[((some 2),.op (.ak (.val (.val (.int .i64 11)))))]⟩]) <|
  .ret) (.seq (.region [] [⟨none,[((some 9),.op (.arith .eql (.tmp 3) (.val (.val (.int .u8 59))))),((some 8),.op (.ak (.tmp 9)))]⟩]) <|
  .cond (.tmp 8) (.seq (.region [] [⟨none,[((some 2),.op (.ak (.val (.val (.int .i64 12)))))]⟩]) <|
  .ret) (.skip))))) <|
  .seq (.region [] [⟨none,[((some 2),.op (.ak (.val (.val (.int .i64 0)))))]⟩]) <|
  .ret,
  [.tmp 2],10⟩
theorem qu:bz Tryz.prog 166 []=some mj:=by kernel_rfl
def tA:DC :=
  .seq (.seq (.region [] [⟨none,[((some 21),.op (.ak (.tmp 7))),((some 22),.op (.bc (.tmp 21))),((some 23),.op (.addr 3 (.tmp 22))),((some 24),.op (.load none (.tmp 23))),((some 25),.op (.arith .eql (.tmp 24) (.val (.val (.int .i64 0))))),((some 26),.op (.ak (.tmp 25)))]⟩,⟨(some (26,true)),[((some 27),.op (.ak (.tmp 7))),((some 28),.op (.bc (.tmp 27))),((some 29),.op (.addr 0 (.tmp 28))),((some 30),.op (.load none (.tmp 29))),((some 31),.op (.len (.tmp 30))),((some 32),.op (.arith .gtr (.tmp 31) (.val (.val (.int .i64 0)))))]⟩,⟨none,[((some 33),.op (.pick (.tmp 26) (.tmp 32) (.val (.val (.bool false))))),((some 34),.op (.ak (.tmp 33)))]⟩,⟨(some (34,true)),[((some 35),.op (.ak (.tmp 7))),((some 36),.call (.val (.fn 137 [] [])) [(.tmp 35)]),((some 37),.op (.arith .neq (.tmp 36) (.val (.val (.int .i64 9)))))]⟩,⟨none,[((some 38),.op (.pick (.tmp 34) (.tmp 37) (.val (.val (.bool false)))))]⟩]) <|
  .cond (.tmp 38) (.skip) (.exit 0)) <|
  .block 1 (.region [(1,3)] [⟨none,[((some 39),.op (.addr 1 (.tmp 8))),((some 40),.op (.load none (.tmp 39))),((some 41),.op (.ak (.tmp 7))),((some 42),.call (.val (.fn 136 [] [])) [(.tmp 41)]),((some 43),.op (.app 5 88 (.tmp 40) (.tmp 42))),((some 44),.op (.addr 1 (.tmp 8))),(none,.op (.store 1 (.tmp 44) (.tmp 43)))]⟩])
def oG:DF:=⟨.seq (.region [] [⟨none,[((some 4),.op (.alloc [(.emp 1),(.emp 1)])),((some 5),.op (.ak (.val (.val (.complex .f64 0 0))))),((some 6),.op (.ak (.val (.val (.int .i64 0)))))]⟩]) <|
  .seq (.region [] [⟨none,[((some 9),.op (.ak (.tmp 0))),((some 10),.op (.ak (.tmp 1))),((some 11),.op (.build [(.emp 1),(.val (.complex .f64 0 0)),(.val (.complex .f64 0 0)),(.val (.int .i64 0))] [(0,1,(.tmp 9)),(1,1,(.tmp 10))])),((some 12),.op (.box (.tmp 11))),((some 7),.op (.ak (.tmp 12)))]⟩]) <|
  .seq (.region [] [⟨none,[((some 13),.op (.ak (.tmp 7))),((some 14),.call (.val (.fn 134 [] [])) [(.tmp 13)]),((some 15),.op (.build [(.emp 1),(.emp 1)] [(0,1,(.tmp 14))])),((some 8),.op (.alloc [(.emp 1),(.emp 1)])),(none,.op (.store 2 (.tmp 8) (.tmp 15)))]⟩]) <|
  .seq (.region [] [⟨none,[((some 16),.op (.ak (.tmp 7))),((some 17),.call (.val (.fn 135 [] [])) [(.tmp 16),(.val (.val (.int .i64 9))),(.val (.val (.int .i64 9)))])]⟩]) <|
  .seq (.region [] [⟨none,[((some 18),.op (.ak (.tmp 7))),((some 19),.call (.val (.fn 136 [] [])) [(.tmp 18)]),((some 20),.op (.addr 1 (.tmp 8))),(none,.op (.store 1 (.tmp 20) (.tmp 19)))]⟩]) <|
  .seq (.block 0 (.loop tA)) <|
  .seq (.seq (.region [] [⟨none,[((some 45),.op (.ak (.tmp 7))),((some 46),.op (.bc (.tmp 45))),((some 47),.op (.addr 3 (.tmp 46))),((some 48),.op (.load none (.tmp 47))),((some 49),.op (.arith .eql (.tmp 48) (.val (.val (.int .i64 0))))),((some 50),.op (.ak (.tmp 49)))]⟩,⟨(some (50,true)),[((some 51),.op (.ak (.tmp 7))),((some 52),.op (.bc (.tmp 51))),((some 53),.op (.addr 0 (.tmp 52))),((some 54),.op (.load none (.tmp 53))),((some 55),.op (.len (.tmp 54))),((some 56),.op (.arith .gtr (.tmp 55) (.val (.val (.int .i64 0)))))]⟩,⟨none,[((some 57),.op (.pick (.tmp 50) (.tmp 56) (.val (.val (.bool false)))))]⟩]) <|
  .cond (.tmp 57) (.region [] [⟨none,[((some 58),.op (.ak (.tmp 7))),((some 59),.call (.val (.fn 135 [] [])) [(.tmp 58),(.val (.val (.int .i64 9))),(.val (.val (.int .i64 9)))])]⟩]) (.skip)) <|
  .seq (.seq (.region [] [⟨none,[((some 60),.op (.ak (.tmp 7))),((some 61),.op (.bc (.tmp 60))),((some 62),.op (.addr 0 (.tmp 61))),((some 63),.op (.load none (.tmp 62))),((some 64),.op (.len (.tmp 63))),((some 65),.op (.arith .gtr (.tmp 64) (.val (.val (.int .i64 0)))))]⟩]) <|
  .cond (.tmp 65) (.region [] [⟨none,[((some 66),.op (.ak (.tmp 7))),((some 67),.call (.val (.fn 138 [] [])) [(.tmp 66)])]⟩]) (.skip)) <|
  .seq (.seq (.region [] [⟨none,[((some 68),.op (.ak (.tmp 7))),((some 69),.op (.bc (.tmp 68))),((some 70),.op (.addr 3 (.tmp 69))),((some 71),.op (.load none (.tmp 70))),((some 72),.op (.arith .neq (.tmp 71) (.val (.val (.int .i64 0)))))]⟩]) <|
  .cond (.tmp 72) (.seq (.region [(4,9),(8,9)] [⟨none,[((some 73),.op (.build [(.emp 1),(.emp 1)] [])),((some 74),.op (.ak (.tmp 7))),((some 75),.op (.bc (.tmp 74))),((some 76),.op (.addr 2 (.tmp 75))),((some 77),.op (.load none (.tmp 76))),((some 78),.op (.ak (.tmp 7))),((some 79),.op (.bc (.tmp 78))),((some 80),.op (.addr 3 (.tmp 79))),((some 81),.op (.load none (.tmp 80))),(none,.op (.store 2 (.tmp 4) (.tmp 73))),((some 5),.op (.ak (.tmp 77))),((some 6),.op (.ak (.tmp 81)))]⟩]) <|
  .ret) (.skip)) <|
  .seq (.region [] [⟨none,[((some 82),.op (.load (some 2) (.tmp 8))),(none,.op (.store 2 (.tmp 4) (.tmp 82))),((some 5),.op (.ak (.val (.val (.complex .f64 0 0))))),((some 6),.op (.ak (.val (.val (.int .i64 0)))))]⟩]) <|
  .ret,
  [.cell 4 (some 2),.tmp 5,.tmp 6],83⟩
theorem sV:bz Tryz.prog 91 []=some oG:=by kernel_rfl
def gR:DF:=⟨.seq (.region [] [⟨none,[((some 2),.op (.ak (.val (.val (.int .i64 0)))))]⟩]) <|
  .seq (.seq (.region [] [⟨none,[((some 3),.op (.ak (.tmp 0))),((some 4),.op (.bc (.tmp 3))),((some 5),.op (.addr 3 (.tmp 4))),((some 6),.op (.load none (.tmp 5))),((some 7),.op (.arith .neq (.tmp 6) (.val (.val (.int .i64 0))))),((some 8),.op (.ak (.tmp 7)))]⟩,⟨(some (8,false)),[((some 9),.op (.ak (.tmp 0))),((some 10),.op (.bc (.tmp 9))),((some 11),.op (.addr 0 (.tmp 10))),((some 12),.op (.load none (.tmp 11))),((some 13),.op (.len (.tmp 12))),((some 14),.op (.arith .eql (.tmp 13) (.val (.val (.int .i64 0)))))]⟩,⟨none,[((some 15),.op (.pick (.tmp 8) (.val (.val (.bool true))) (.tmp 14)))]⟩]) <|
  .cond (.tmp 15) (.seq (.region [] [⟨none,[((some 2),.op (.ak (.val (.val (.int .i64 0)))))]⟩]) <|
  .ret) (.skip)) <|
  .seq (.region [] [⟨none,[((some 16),.op (.ak (.tmp 0))),((some 17),.op (.bc (.tmp 16))),((some 18),.op (.addr 0 (.tmp 17))),((some 19),.op (.load none (.tmp 18))),((some 20),.op (.idx 3 (.tmp 19) (.val (.val (.int .i64 0))))),((some 21),.op (.addr 0 (.tmp 20))),((some 22),.op (.load none (.tmp 21))),((some 2),.op (.ak (.tmp 22)))]⟩]) <|
  .ret,
  [.tmp 2],23⟩
theorem lW:bz Tryz.prog 137 []=some gR:=by kernel_rfl
def lX:DC :=
  .seq (.seq (.region [] [⟨none,[((some 10),.op (.ak (.tmp 0))),((some 11),.op (.bc (.tmp 10))),((some 12),.op (.addr 3 (.tmp 11))),((some 13),.op (.load none (.tmp 12))),((some 14),.op (.arith .eql (.tmp 13) (.val (.val (.int .i64 0)))))]⟩]) <|
  .cond (.tmp 14) (.skip) (.exit 0)) <|
  .block 1 (.seq (.region [(0,2),(2,4)] [⟨none,[((some 15),.op (.load (some 2) (.tmp 4))),((some 16),.op (.ak (.tmp 0))),((some 17),.call (.val (.fn 167 [] [])) [(.tmp 16)]),((some 18),.op (.build [(.val (.string ⟨#[]⟩)),(.val (.complex .f64 0 0)),(.emp 1),(.val (.string ⟨#[]⟩)),(.val (.complex .f64 0 0))] [(0,2,(.tmp 15)),(2,1,(.tmp 17))])),((some 5),.op (.alloc [(.val (.string ⟨#[]⟩)),(.val (.complex .f64 0 0)),(.emp 1),(.val (.string ⟨#[]⟩)),(.val (.complex .f64 0 0))])),(none,.op (.store 5 (.tmp 5) (.tmp 18)))]⟩]) <|
  .seq (.seq (.region [] [⟨none,[((some 19),.op (.ak (.tmp 0))),((some 20),.call (.val (.fn 168 [] [])) [(.tmp 19),(.val (.val (.int .i64 8))),(.val (.val (.int .i64 8)))])]⟩]) <|
  .cond (.tmp 20) (.seq (.region [] [⟨none,[((some 21),.op (.ak (.tmp 0))),((some 22),.call (.val (.fn 135 [] [])) [(.tmp 21),(.val (.val (.int .i64 8))),(.val (.val (.int .i64 8)))])]⟩]) <|
  .region [] [⟨none,[((some 23),.op (.ak (.tmp 0))),((some 24),.call (.val (.fn 135 [] [])) [(.tmp 23),(.val (.val (.int .i64 1))),(.val (.val (.int .i64 2)))]),((some 25),.op (.addr 3 (.tmp 5))),(none,.op (.store 2 (.tmp 25) (.tmp 24)))]⟩]) (.skip)) <|
  .seq (.region [] [⟨none,[((some 26),.op (.ak (.tmp 3))),((some 27),.op (.load (some 5) (.tmp 5))),((some 28),.op (.bE 1 5 [(.val (.string ⟨#[]⟩)),(.val (.complex .f64 0 0)),(.emp 1),(.val (.string ⟨#[]⟩)),(.val (.complex .f64 0 0))] [(0,(.tmp 27))])),((some 29),.op (.app 5 88 (.tmp 26) (.tmp 28))),((some 3),.op (.ak (.tmp 29)))]⟩]) <|
  .seq (.seq (.region [] [⟨none,[((some 30),.op (.ak (.tmp 0))),((some 31),.call (.val (.fn 168 [] [])) [(.tmp 30),(.val (.val (.int .i64 11))),(.val (.val (.int .i64 11)))]),((some 32),.op (.not (.tmp 31)))]⟩]) <|
  .cond (.tmp 32) (.seq (.region [] [⟨none,[((some 33),.op (.ak (.tmp 0))),((some 34),.call (.val (.fn 135 [] [])) [(.tmp 33),(.val (.val (.int .i64 12))),(.val (.val (.int .i64 12)))])]⟩]) <|
  .seq (.region [] [⟨none,[((some 35),.op (.ak (.tmp 3))),((some 2),.op (.ak (.tmp 35)))]⟩]) <|
  .ret) (.skip)) <|
  .region [] [⟨none,[((some 36),.op (.ak (.tmp 0))),((some 37),.call (.val (.fn 135 [] [])) [(.tmp 36),(.val (.val (.int .i64 11))),(.val (.val (.int .i64 11)))])]⟩])
def gj:DF:=⟨.seq (.region [] [⟨none,[((some 2),.op (.ak (.val (.emp 1))))]⟩]) <|
  .seq (.region [] [⟨none,[((some 3),.op (.ak (.val (.emp 1))))]⟩]) <|
  .seq (.region [] [⟨none,[((some 6),.op (.ak (.tmp 0))),((some 7),.call (.val (.fn 135 [] [])) [(.tmp 6),(.val (.val (.int .i64 1))),(.val (.val (.int .i64 1)))]),((some 4),.op (.alloc [(.val (.string ⟨#[]⟩)),(.val (.complex .f64 0 0))])),(none,.op (.store 2 (.tmp 4) (.tmp 7)))]⟩]) <|
  .seq (.region [] [⟨none,[((some 8),.op (.ak (.tmp 0))),((some 9),.call (.val (.fn 135 [] [])) [(.tmp 8),(.val (.val (.int .i64 10))),(.val (.val (.int .i64 10)))])]⟩]) <|
  .seq (.block 0 (.loop lX)) <|
  .seq (.region [] [⟨none,[((some 38),.op (.ak (.tmp 3))),((some 2),.op (.ak (.tmp 38)))]⟩]) <|
  .ret,
  [.tmp 2],39⟩
theorem k6:bz Tryz.prog 136 []=some gj:=by kernel_rfl
def mE:DC :=
  .seq (.seq (.region [] [⟨none,[((some 4),.op (.ak (.tmp 0))),((some 5),.call (.val (.fn 168 [] [])) [(.tmp 4),(.val (.val (.int .i64 1))),(.val (.val (.int .i64 2)))])]⟩]) <|
  .cond (.tmp 5) (.skip) (.exit 0)) <|
  .block 1 (.region [] [⟨none,[((some 6),.op (.ak (.tmp 3))),((some 7),.op (.ak (.tmp 0))),((some 8),.call (.val (.fn 135 [] [])) [(.tmp 7),(.val (.val (.int .i64 1))),(.val (.val (.int .i64 2)))]),((some 9),.op (.bE 1 2 [(.val (.string ⟨#[]⟩)),(.val (.complex .f64 0 0))] [(0,(.tmp 8))])),((some 10),.op (.app 2 32 (.tmp 6) (.tmp 9))),((some 3),.op (.ak (.tmp 10)))]⟩])
def gQ:DF:=⟨.seq (.region [] [⟨none,[((some 2),.op (.ak (.val (.emp 1))))]⟩]) <|
  .seq (.region [] [⟨none,[((some 3),.op (.ak (.val (.emp 1))))]⟩]) <|
  .seq (.block 0 (.loop mE)) <|
  .seq (.region [] [⟨none,[((some 11),.op (.ak (.tmp 3))),((some 2),.op (.ak (.tmp 11)))]⟩]) <|
  .ret,
  [.tmp 2],12⟩
theorem lS:bz Tryz.prog 167 []=some gQ:=by kernel_rfl
def iQ:DF:=⟨.seq (.region [] [⟨none,[((some 6),.op (.ak (.val (.val (.bool false)))))]⟩]) <|
  .seq (.region [] [⟨none,[((some 7),.op (.ak (.tmp 0))),((some 8),.op (.bc (.tmp 7))),((some 9),.op (.addr 0 (.tmp 8))),((some 10),.op (.load none (.tmp 9))),((some 11),.op (.len (.tmp 10))),((some 12),.op (.arith .gtr (.tmp 11) (.val (.val (.int .i64 0))))),((some 13),.op (.ak (.tmp 12)))]⟩,⟨(some (13,true)),[((some 14),.op (.ak (.tmp 0))),((some 15),.call (.val (.fn 137 [] [])) [(.tmp 14)]),((some 16),.op (.ak (.tmp 1))),((some 17),.op (.arith .eql (.tmp 15) (.tmp 16))),((some 18),.op (.ak (.tmp 17)))]⟩,⟨(some (18,false)),[((some 19),.op (.ak (.tmp 0))),((some 20),.call (.val (.fn 137 [] [])) [(.tmp 19)]),((some 21),.op (.ak (.tmp 2))),((some 22),.op (.arith .eql (.tmp 20) (.tmp 21)))]⟩,⟨(some (13,true)),[((some 23),.op (.pick (.tmp 18) (.val (.val (.bool true))) (.tmp 22)))]⟩,⟨none,[((some 24),.op (.pick (.tmp 13) (.tmp 23) (.val (.val (.bool false))))),((some 6),.op (.ak (.tmp 24)))]⟩]) <|
  .ret,
  [.tmp 6],25⟩
theorem ng:bz Tryz.prog 168 []=some iQ:=by kernel_rfl
def gP:DF:=⟨.seq (.region [] [⟨none,[((some 6),.op (.alloc [(.val (.string ⟨#[]⟩)),(.val (.complex .f64 0 0))]))]⟩]) <|
  .seq (.seq (.region [] [⟨none,[((some 8),.op (.ak (.tmp 0))),((some 9),.op (.bc (.tmp 8))),((some 10),.op (.addr 3 (.tmp 9))),((some 11),.op (.load none (.tmp 10))),((some 12),.op (.arith .neq (.tmp 11) (.val (.val (.int .i64 0))))),((some 13),.op (.ak (.tmp 12)))]⟩,⟨(some (13,false)),[((some 14),.op (.ak (.tmp 0))),((some 15),.op (.ak (.tmp 1))),((some 16),.op (.ak (.tmp 2))),((some 17),.call (.val (.fn 168 [] [])) [(.tmp 14),(.tmp 15),(.tmp 16)]),((some 18),.op (.not (.tmp 17)))]⟩,⟨none,[((some 19),.op (.pick (.tmp 13) (.val (.val (.bool true))) (.tmp 18)))]⟩]) <|
  .cond (.tmp 19) (.seq (.region [] [⟨none,[((some 20),.op (.ak (.tmp 0))),((some 21),.call (.val (.fn 138 [] [])) [(.tmp 20)])]⟩]) <|
  .seq (.region [] [⟨none,[((some 22),.op (.build [(.val (.string ⟨#[]⟩)),(.val (.complex .f64 0 0))] [])),(none,.op (.store 2 (.tmp 6) (.tmp 22)))]⟩]) <|
  .ret) (.skip)) <|
  .seq (.region [] [⟨none,[((some 23),.op (.ak (.tmp 0))),((some 24),.op (.bc (.tmp 23))),((some 25),.op (.addr 0 (.tmp 24))),((some 26),.op (.load none (.tmp 25))),((some 27),.op (.idx 3 (.tmp 26) (.val (.val (.int .i64 0))))),((some 28),.op (.load (some 3) (.tmp 27))),((some 7),.op (.alloc [(.val (.int .i64 0)),(.val (.string ⟨#[]⟩)),(.val (.complex .f64 0 0))])),(none,.op (.store 3 (.tmp 7) (.tmp 28)))]⟩]) <|
  .seq (.region [] [⟨none,[((some 29),.op (.ak (.tmp 0))),((some 30),.op (.ak (.tmp 0))),((some 31),.op (.bc (.tmp 30))),((some 32),.op (.addr 0 (.tmp 31))),((some 33),.op (.load none (.tmp 32))),((some 34),.op (.slice 3 (.tmp 33) (some (.val (.val (.int .i64 1)))) none)),((some 35),.op (.bc (.tmp 29))),((some 36),.op (.addr 0 (.tmp 35))),(none,.op (.store 1 (.tmp 36) (.tmp 34)))]⟩]) <|
  .seq (.region [] [⟨none,[((some 37),.op (.addr 1 (.tmp 7))),((some 38),.op (.load none (.tmp 37))),((some 39),.op (.addr 2 (.tmp 7))),((some 40),.op (.load none (.tmp 39))),((some 41),.op (.build [(.val (.string ⟨#[]⟩)),(.val (.complex .f64 0 0))] [(0,1,(.tmp 38)),(1,1,(.tmp 40))])),(none,.op (.store 2 (.tmp 6) (.tmp 41)))]⟩]) <|
  .ret,
  [.cell 6 (some 2)],42⟩
theorem lC:bz Tryz.prog 135 []=some gP:=by kernel_rfl
def gO:DF:=⟨.seq (.seq (.region [] [⟨none,[((some 2),.op (.ak (.tmp 0))),((some 3),.op (.bc (.tmp 2))),((some 4),.op (.addr 3 (.tmp 3))),((some 5),.op (.load none (.tmp 4))),((some 6),.op (.arith .neq (.tmp 5) (.val (.val (.int .i64 0)))))]⟩]) <|
  .cond (.tmp 6) (.ret) (.skip)) <|
  .seq (.region [] [⟨none,[((some 7),.op (.ak (.tmp 0))),((some 8),.op (.ak (.tmp 0))),((some 9),.op (.ak (.tmp 0))),((some 10),.op (.bc (.tmp 9))),((some 11),.op (.addr 1 (.tmp 10))),((some 12),.op (.load none (.tmp 11))),((some 13),.op (.bc (.tmp 7))),((some 14),.op (.addr 2 (.tmp 13))),(none,.op (.store 1 (.tmp 14) (.tmp 12))),((some 15),.op (.bc (.tmp 8))),((some 16),.op (.addr 3 (.tmp 15))),(none,.op (.store 1 (.tmp 16) (.val (.val (.int .i64 4)))))]⟩]) <|
  .seq (.region [] [⟨none,[((some 17),.op (.ak (.tmp 0))),((some 18),.op (.bc (.tmp 17))),((some 19),.op (.addr 0 (.tmp 18))),((some 20),.op (.load none (.tmp 19))),((some 21),.op (.len (.tmp 20))),((some 22),.op (.arith .gtr (.tmp 21) (.val (.val (.int .i64 0)))))]⟩]) <|
  .cond (.tmp 22) (.region [] [⟨none,[((some 23),.op (.ak (.tmp 0))),((some 24),.op (.ak (.tmp 0))),((some 25),.op (.ak (.tmp 0))),((some 26),.op (.bc (.tmp 25))),((some 27),.op (.addr 0 (.tmp 26))),((some 28),.op (.load none (.tmp 27))),((some 29),.op (.idx 3 (.tmp 28) (.val (.val (.int .i64 0))))),((some 30),.op (.addr 2 (.tmp 29))),((some 31),.op (.load none (.tmp 30))),((some 32),.op (.bc (.tmp 23))),((some 33),.op (.addr 2 (.tmp 32))),(none,.op (.store 1 (.tmp 33) (.tmp 31))),((some 34),.op (.bc (.tmp 24))),((some 35),.op (.addr 3 (.tmp 34))),(none,.op (.store 1 (.tmp 35) (.val (.val (.int .i64 3)))))]⟩]) (.skip),
  [],36⟩
theorem lI:bz Tryz.prog 138 []=some gO:=by kernel_rfl
def lV:DC :=
  .seq (.seq (.region [] [⟨none,[((some 6),.op (.ak (.tmp 0))),((some 7),.op (.bc (.tmp 6))),((some 8),.op (.addr 3 (.tmp 7))),((some 9),.op (.load none (.tmp 8))),((some 10),.op (.arith .eql (.tmp 9) (.val (.val (.int .i64 0))))),((some 11),.op (.ak (.tmp 10)))]⟩,⟨(some (11,true)),[((some 12),.op (.ak (.tmp 0))),((some 13),.op (.bc (.tmp 12))),((some 14),.op (.addr 0 (.tmp 13))),((some 15),.op (.load none (.tmp 14))),((some 16),.op (.len (.tmp 15))),((some 17),.op (.arith .gtr (.tmp 16) (.val (.val (.int .i64 0)))))]⟩,⟨none,[((some 18),.op (.pick (.tmp 11) (.tmp 17) (.val (.val (.bool false))))),((some 19),.op (.ak (.tmp 18)))]⟩,⟨(some (19,true)),[((some 20),.op (.ak (.tmp 0))),((some 21),.call (.val (.fn 137 [] [])) [(.tmp 20)]),((some 22),.op (.arith .neq (.tmp 21) (.val (.val (.int .i64 9)))))]⟩,⟨none,[((some 23),.op (.pick (.tmp 19) (.tmp 22) (.val (.val (.bool false)))))]⟩]) <|
  .cond (.tmp 23) (.skip) (.exit 0)) <|
  .block 1 (.seq (.region [] [⟨none,[((some 24),.op (.ak (.tmp 0))),((some 25),.call (.val (.fn 137 [] [])) [(.tmp 24)]),((some 4),.op (.ak (.tmp 25)))]⟩]) <|
  .seq (.seq (.region [] [⟨none,[((some 26),.op (.ak (.tmp 4))),((some 27),.op (.arith .eql (.tmp 26) (.val (.val (.int .i64 7)))))]⟩]) <|
  .cond (.tmp 27) (.seq (.region [] [⟨none,[((some 28),.op (.ak (.tmp 0))),((some 29),.op (.ak (.tmp 4))),((some 30),.op (.ak (.tmp 4))),((some 31),.call (.val (.fn 135 [] [])) [(.tmp 28),(.tmp 29),(.tmp 30)])]⟩]) <|
  .seq (.region [] [⟨none,[((some 32),.op (.ak (.tmp 3))),((some 33),.op (.ak (.tmp 4))),((some 34),.op (.ak (.tmp 0))),((some 35),.call (.val (.fn 135 [] [])) [(.tmp 34),(.val (.val (.int .i64 1))),(.val (.val (.int .i64 1)))]),((some 36),.op (.bE 1 2 [(.val (.string ⟨#[]⟩)),(.val (.complex .f64 0 0))] [(0,(.tmp 35))])),((some 37),.op (.build [(.val (.int .i64 0)),(.emp 1)] [(0,1,(.tmp 33)),(1,1,(.tmp 36))])),((some 38),.op (.bE 1 2 [(.val (.int .i64 0)),(.emp 1)] [(0,(.tmp 37))])),((some 39),.op (.app 2 32 (.tmp 32) (.tmp 38))),((some 3),.op (.ak (.tmp 39)))]⟩]) <|
  .exit 1) (.skip)) <|
  .seq (.seq (.region [] [⟨none,[((some 40),.op (.ak (.tmp 4))),((some 41),.op (.arith .neq (.tmp 40) (.val (.val (.int .i64 3))))),((some 42),.op (.ak (.tmp 41)))]⟩,⟨(some (42,true)),[((some 43),.op (.ak (.tmp 4))),((some 44),.op (.arith .neq (.tmp 43) (.val (.val (.int .i64 4)))))]⟩,⟨none,[((some 45),.op (.pick (.tmp 42) (.tmp 44) (.val (.val (.bool false))))),((some 46),.op (.ak (.tmp 45)))]⟩,⟨(some (46,true)),[((some 47),.op (.ak (.tmp 4))),((some 48),.op (.arith .neq (.tmp 47) (.val (.val (.int .i64 5)))))]⟩,⟨none,[((some 49),.op (.pick (.tmp 46) (.tmp 48) (.val (.val (.bool false))))),((some 50),.op (.ak (.tmp 49)))]⟩,⟨(some (50,true)),[((some 51),.op (.ak (.tmp 4))),((some 52),.op (.arith .neq (.tmp 51) (.val (.val (.int .i64 6)))))]⟩,⟨none,[((some 53),.op (.pick (.tmp 50) (.tmp 52) (.val (.val (.bool false)))))]⟩]) <|
  .cond (.tmp 53) (.seq (.region [] [⟨none,[((some 54),.op (.ak (.tmp 0))),((some 55),.call (.val (.fn 138 [] [])) [(.tmp 54)])]⟩]) <|
  .exit 1) (.skip)) <|
  .seq (.region [] [⟨none,[((some 56),.op (.ak (.tmp 0))),((some 57),.op (.ak (.tmp 4))),((some 58),.op (.ak (.tmp 4))),((some 59),.call (.val (.fn 135 [] [])) [(.tmp 56),(.tmp 57),(.tmp 58)])]⟩]) <|
  .seq (.region [] [⟨none,[((some 60),.op (.ak (.tmp 0))),((some 61),.call (.val (.fn 135 [] [])) [(.tmp 60),(.val (.val (.int .i64 1))),(.val (.val (.int .i64 2)))]),((some 5),.op (.alloc [(.val (.string ⟨#[]⟩)),(.val (.complex .f64 0 0))])),(none,.op (.store 2 (.tmp 5) (.tmp 61)))]⟩]) <|
  .region [(2,5),(3,5)] [⟨none,[((some 62),.op (.ak (.tmp 3))),((some 63),.op (.ak (.tmp 4))),((some 64),.op (.load (some 2) (.tmp 5))),((some 65),.op (.bE 1 2 [(.val (.string ⟨#[]⟩)),(.val (.complex .f64 0 0))] [(0,(.tmp 64))])),((some 66),.op (.ak (.tmp 0))),((some 67),.call (.val (.fn 167 [] [])) [(.tmp 66)]),((some 68),.op (.app 2 32 (.tmp 65) (.tmp 67))),((some 69),.op (.build [(.val (.int .i64 0)),(.emp 1)] [(0,1,(.tmp 63)),(1,1,(.tmp 68))])),((some 70),.op (.bE 1 2 [(.val (.int .i64 0)),(.emp 1)] [(0,(.tmp 69))])),((some 71),.op (.app 2 32 (.tmp 62) (.tmp 70))),((some 3),.op (.ak (.tmp 71)))]⟩])
def gq:DF:=⟨.seq (.region [] [⟨none,[((some 2),.op (.ak (.val (.emp 1))))]⟩]) <|
  .seq (.region [] [⟨none,[((some 3),.op (.ak (.val (.emp 1))))]⟩]) <|
  .seq (.block 0 (.loop lV)) <|
  .seq (.region [] [⟨none,[((some 72),.op (.ak (.tmp 3))),((some 2),.op (.ak (.tmp 72)))]⟩]) <|
  .ret,
  [.tmp 2],73⟩
theorem kX:bz Tryz.prog 134 []=some gq:=by kernel_rfl
def qV:DC :=
  .seq (.seq (.region [] [⟨none,[((some 17),.op (.ak (.tmp 6))),((some 18),.op (.addr 1 (.tmp 1))),((some 19),.op (.load none (.tmp 18))),((some 20),.op (.len (.tmp 19))),((some 21),.op (.arith .lss (.tmp 17) (.tmp 20))),((some 22),.op (.ak (.tmp 21)))]⟩,⟨(some (22,true)),[((some 23),.op (.ak (.tmp 5))),((some 24),.op (.bc (.tmp 23))),((some 25),.op (.addr 10 (.tmp 24))),((some 26),.op (.load none (.tmp 25))),((some 27),.op (.arith .eql (.tmp 26) (.val (.val (.int .i64 0)))))]⟩,⟨none,[((some 28),.op (.pick (.tmp 22) (.tmp 27) (.val (.val (.bool false)))))]⟩]) <|
  .cond (.tmp 28) (.skip) (.exit 0)) <|
  .seq (.block 1 (.region [] [⟨none,[((some 31),.op (.ak (.tmp 5))),((some 32),.op (.addr 1 (.tmp 1))),((some 33),.op (.load none (.tmp 32))),((some 34),.op (.ak (.tmp 6))),((some 35),.op (.idx 5 (.tmp 33) (.tmp 34))),((some 36),.op (.load (some 5) (.tmp 35))),((some 37),.call (.val (.fn 94 [] [])) [(.tmp 31),(.tmp 36)])]⟩])) <|
  .region [] [⟨none,[((some 29),.op (.ak (.tmp 6))),((some 30),.op (.arith .add (.tmp 29) (.val (.val (.int .i64 1))))),((some 6),.op (.ak (.tmp 30)))]⟩]
def lu:DF:=⟨.seq (.region [] [⟨none,[((some 1),.op (.er (.tmp 0))),((some 2),.op (.alloc [(.emp 1),(.emp 1),(.emp 1),(.val (.int .i64 0))])),((some 3),.op (.ak (.val (.val (.complex .f64 0 0))))),((some 4),.op (.ak (.val (.val (.int .i64 0)))))]⟩]) <|
  .seq (.region [] [⟨none,[((some 7),.op (.build [(.emp 1),(.emp 1),(.emp 1),(.val (.int .i64 0)),(.emp 1),(.val (.string ⟨#[]⟩)),(.val (.complex .f64 0 0)),(.val (.bool false)),(.val (.int .i64 0)),(.val (.complex .f64 0 0)),(.val (.int .i64 0))] [])),((some 8),.op (.box (.tmp 7))),((some 5),.op (.ak (.tmp 8)))]⟩]) <|
  .seq (.region [] [⟨none,[((some 9),.op (.ak (.tmp 5))),((some 10),.op (.addr 0 (.tmp 1))),((some 11),.op (.load none (.tmp 10))),((some 12),.call (.val (.fn 92 [] [])) [(.tmp 9),(.tmp 11)])]⟩]) <|
  .seq (.region [] [⟨none,[((some 13),.op (.ak (.tmp 5))),((some 14),.op (.addr 1 (.tmp 1))),((some 15),.op (.load none (.tmp 14))),((some 16),.call (.val (.fn 93 [] [])) [(.tmp 13),(.tmp 15)])]⟩]) <|
  .seq (.seq (.region [] [⟨none,[((some 6),.op (.ak (.val (.val (.int .i64 0)))))]⟩]) <|
  .block 0 (.loop qV)) <|
  .seq (.seq (.region [] [⟨none,[((some 38),.op (.ak (.tmp 5))),((some 39),.op (.bc (.tmp 38))),((some 40),.op (.addr 7 (.tmp 39))),((some 41),.op (.load none (.tmp 40))),((some 42),.op (.ak (.tmp 41)))]⟩,⟨(some (42,true)),[((some 43),.op (.ak (.tmp 5))),((some 44),.op (.bc (.tmp 43))),((some 45),.op (.addr 0 (.tmp 44))),((some 46),.op (.load (some 4) (.tmp 45))),((some 47),.op (.ak (.tmp 5))),((some 48),.op (.bc (.tmp 47))),((some 49),.op (.addr 5 (.tmp 48))),((some 50),.op (.addr 0 (.tmp 49))),((some 51),.op (.load none (.tmp 50))),((some 52),.call (.val (.fn 95 [] [])) [(.tmp 46),(.tmp 51)]),((some 53),.op (.arith .lss (.tmp 52) (.val (.val (.int .i64 0)))))]⟩,⟨none,[((some 54),.op (.pick (.tmp 42) (.tmp 53) (.val (.val (.bool false)))))]⟩]) <|
  .cond (.tmp 54) (.region [] [⟨none,[((some 55),.op (.ak (.tmp 5))),((some 56),.op (.ak (.tmp 5))),((some 57),.op (.bc (.tmp 56))),((some 58),.op (.addr 5 (.tmp 57))),((some 59),.op (.load (some 2) (.tmp 58))),((some 60),.call (.val (.fn 96 [] [])) [(.tmp 55),(.tmp 59),(.val (.val (.int .i64 8)))])]⟩]) (.skip)) <|
  .seq (.seq (.region [] [⟨none,[((some 61),.op (.addr 1 (.tmp 1))),((some 62),.op (.load none (.tmp 61))),((some 63),.op (.len (.tmp 62))),((some 64),.op (.arith .eql (.tmp 63) (.val (.val (.int .i64 0)))))]⟩]) <|
  .cond (.tmp 64) (.region [] [⟨none,[((some 65),.op (.ak (.tmp 5))),((some 66),.op (.build [(.val (.string ⟨#[]⟩)),(.val (.complex .f64 0 0))] [])),((some 67),.call (.val (.fn 96 [] [])) [(.tmp 65),(.tmp 66),(.val (.val (.int .i64 8)))])]⟩]) (.skip)) <|
  .seq (.seq (.region [] [⟨none,[((some 68),.op (.ak (.tmp 5))),((some 69),.op (.bc (.tmp 68))),((some 70),.op (.addr 10 (.tmp 69))),((some 71),.op (.load none (.tmp 70))),((some 72),.op (.arith .neq (.tmp 71) (.val (.val (.int .i64 0)))))]⟩]) <|
  .cond (.tmp 72) (.seq (.region [(4,9),(8,9)] [⟨none,[((some 73),.op (.build [(.emp 1),(.emp 1),(.emp 1),(.val (.int .i64 0))] [])),((some 74),.op (.ak (.tmp 5))),((some 75),.op (.bc (.tmp 74))),((some 76),.op (.addr 9 (.tmp 75))),((some 77),.op (.load none (.tmp 76))),((some 78),.op (.ak (.tmp 5))),((some 79),.op (.bc (.tmp 78))),((some 80),.op (.addr 10 (.tmp 79))),((some 81),.op (.load none (.tmp 80))),(none,.op (.store 4 (.tmp 2) (.tmp 73))),((some 3),.op (.ak (.tmp 77))),((some 4),.op (.ak (.tmp 81)))]⟩]) <|
  .ret) (.skip)) <|
  .seq (.seq (.region [] [⟨none,[((some 82),.op (.ak (.tmp 5))),((some 83),.op (.bc (.tmp 82))),((some 84),.op (.addr 7 (.tmp 83))),((some 85),.op (.load none (.tmp 84)))]⟩]) <|
  .cond (.tmp 85) (.region [] [⟨none,[((some 86),.op (.ak (.tmp 5))),((some 87),.op (.ak (.tmp 5))),((some 88),.op (.bc (.tmp 87))),((some 89),.op (.addr 0 (.tmp 88))),((some 90),.op (.load (some 4) (.tmp 89))),((some 91),.op (.ak (.tmp 5))),((some 92),.op (.bc (.tmp 91))),((some 93),.op (.addr 5 (.tmp 92))),((some 94),.op (.addr 0 (.tmp 93))),((some 95),.op (.load none (.tmp 94))),((some 96),.call (.val (.fn 95 [] [])) [(.tmp 90),(.tmp 95)]),((some 97),.op (.bc (.tmp 86))),((some 98),.op (.addr 0 (.tmp 97))),((some 99),.op (.addr 3 (.tmp 98))),(none,.op (.store 1 (.tmp 99) (.tmp 96)))]⟩]) (.skip)) <|
  .seq (.region [] [⟨none,[((some 100),.op (.ak (.tmp 5))),((some 101),.op (.bc (.tmp 100))),((some 102),.op (.addr 0 (.tmp 101))),((some 103),.op (.load (some 4) (.tmp 102))),(none,.op (.store 4 (.tmp 2) (.tmp 103))),((some 3),.op (.ak (.val (.val (.complex .f64 0 0))))),((some 4),.op (.ak (.val (.val (.int .i64 0)))))]⟩]) <|
  .ret,
  [.cell 2 (some 4),.tmp 3,.tmp 4],104⟩
theorem pO:bz Tryz.prog 52 [1]=some lu:=by kernel_rfl
def nM:DC :=
  .seq (.seq (.region [] [⟨none,[((some 28),.op (.ak (.tmp 5))),((some 29),.op (.addr 2 (.tmp 3))),((some 30),.op (.load none (.tmp 29))),((some 31),.op (.len (.tmp 30))),((some 32),.op (.arith .lss (.tmp 28) (.tmp 31))),((some 33),.op (.ak (.tmp 32)))]⟩,⟨(some (33,true)),[((some 34),.op (.ak (.tmp 0))),((some 35),.op (.bc (.tmp 34))),((some 36),.op (.addr 10 (.tmp 35))),((some 37),.op (.load none (.tmp 36))),((some 38),.op (.arith .eql (.tmp 37) (.val (.val (.int .i64 0)))))]⟩,⟨none,[((some 39),.op (.pick (.tmp 33) (.tmp 38) (.val (.val (.bool false)))))]⟩]) <|
  .cond (.tmp 39) (.skip) (.exit 0)) <|
  .seq (.block 1 (.seq (.region [] [⟨none,[((some 42),.op (.addr 2 (.tmp 3))),((some 43),.op (.load none (.tmp 42))),((some 44),.op (.ak (.tmp 5))),((some 45),.op (.idx 2 (.tmp 43) (.tmp 44))),((some 46),.op (.load (some 2) (.tmp 45))),((some 6),.op (.alloc [(.val (.string ⟨#[]⟩)),(.val (.complex .f64 0 0))])),(none,.op (.store 2 (.tmp 6) (.tmp 46)))]⟩]) <|
  .seq (.seq (.region [] [⟨none,[((some 47),.op (.addr 0 (.tmp 6))),((some 48),.op (.load none (.tmp 47))),((some 49),.call (.val (.fn 113 [] [])) [(.tmp 48)]),((some 50),.op (.not (.tmp 49)))]⟩]) <|
  .cond (.tmp 50) (.seq (.region [] [⟨none,[((some 51),.op (.ak (.tmp 0))),((some 52),.op (.load (some 2) (.tmp 6))),((some 53),.call (.val (.fn 96 [] [])) [(.tmp 51),(.tmp 52),(.val (.val (.int .i64 3)))])]⟩]) <|
  .ret) (.skip)) <|
  .seq (.seq (.region [] [⟨none,[((some 54),.op (.ak (.tmp 5))),((some 55),.op (.arith .eql (.tmp 54) (.val (.val (.int .i64 6)))))]⟩]) <|
  .cond (.tmp 55) (.seq (.region [] [⟨none,[((some 56),.op (.ak (.tmp 0))),((some 57),.op (.load (some 2) (.tmp 6))),((some 58),.call (.val (.fn 96 [] [])) [(.tmp 56),(.tmp 57),(.val (.val (.int .i64 5)))])]⟩]) <|
  .ret) (.skip)) <|
  .seq (.region [] [⟨none,[((some 59),.op (.ak (.tmp 0))),((some 60),.op (.load (some 2) (.tmp 6))),((some 61),.call (.val (.fn 140 [] [])) [(.tmp 59),(.tmp 60),(.val (.val (.bool true)))]),((some 7),.op (.ak (.tmp 61)))]⟩]) <|
  .seq (.region [] [⟨none,[((some 62),.op (.addr 1 (.tmp 4))),((some 63),.op (.load none (.tmp 62))),((some 64),.op (.ak (.tmp 7))),((some 65),.op (.bE 1 1 [(.val (.int .i64 0))] [(0,(.tmp 64))])),((some 66),.op (.app 1 8 (.tmp 63) (.tmp 65))),((some 67),.op (.addr 1 (.tmp 4))),(none,.op (.store 1 (.tmp 67) (.tmp 66)))]⟩]) <|
  .seq (.region [] [⟨none,[((some 68),.op (.ak (.tmp 7))),((some 69),.op (.arith .geq (.tmp 68) (.val (.val (.int .i64 0)))))]⟩]) <|
  .cond (.tmp 69) (.region [] [⟨none,[((some 70),.op (.ak (.tmp 7))),((some 71),.op (.addr 2 (.tmp 4))),(none,.op (.store 1 (.tmp 71) (.tmp 70)))]⟩]) (.skip))) <|
  .region [] [⟨none,[((some 40),.op (.ak (.tmp 5))),((some 41),.op (.arith .add (.tmp 40) (.val (.val (.int .i64 1))))),((some 5),.op (.ak (.tmp 41)))]⟩]
def iR:DF:=⟨.seq (.region [] [⟨none,[((some 3),.op (.er (.tmp 1)))]⟩]) <|
  .seq (.region [(7,9)] [⟨none,[((some 8),.op (.ak (.tmp 0))),((some 9),.op (.bc (.tmp 8))),((some 10),.op (.addr 0 (.tmp 9))),((some 11),.op (.load (some 4) (.tmp 10))),((some 12),.op (.addr 0 (.tmp 3))),((some 13),.op (.addr 0 (.tmp 12))),((some 14),.op (.load none (.tmp 13))),((some 15),.call (.val (.fn 95 [] [])) [(.tmp 11),(.tmp 14)]),((some 16),.op (.build [(.val (.int .i64 0)),(.emp 1),(.val (.int .i64 0))] [(0,1,(.tmp 15)),(2,1,(.val (.val (.int .i64 (-1)))))])),((some 4),.op (.alloc [(.val (.int .i64 0)),(.emp 1),(.val (.int .i64 0))])),(none,.op (.store 3 (.tmp 4) (.tmp 16)))]⟩]) <|
  .seq (.seq (.region [] [⟨none,[((some 17),.op (.ak (.tmp 0))),((some 18),.op (.bc (.tmp 17))),((some 19),.op (.addr 0 (.tmp 18))),((some 20),.op (.addr 2 (.tmp 19))),((some 21),.op (.load none (.tmp 20))),((some 22),.op (.len (.tmp 21))),((some 23),.op (.arith .eql (.tmp 22) (.val (.val (.int .i64 40)))))]⟩]) <|
  .cond (.tmp 23) (.region [] [⟨none,[((some 24),.op (.ak (.tmp 0))),((some 25),.op (.addr 0 (.tmp 3))),((some 26),.op (.load (some 2) (.tmp 25))),((some 27),.call (.val (.fn 96 [] [])) [(.tmp 24),(.tmp 26),(.val (.val (.int .i64 5)))])]⟩]) (.skip)) <|
  .seq (.seq (.region [] [⟨none,[((some 5),.op (.ak (.val (.val (.int .i64 0)))))]⟩]) <|
  .block 0 (.loop nM)) <|
  .seq (.seq (.region [] [⟨none,[((some 72),.op (.addr 3 (.tmp 3))),((some 73),.op (.addr 0 (.tmp 72))),((some 74),.op (.load none (.tmp 73))),((some 75),.op (.gV .neq (.tmp 74) (.val (.val (.string ⟨#[]⟩))))),((some 76),.op (.ak (.tmp 75)))]⟩,⟨(some (76,true)),[((some 77),.op (.ak (.tmp 0))),((some 78),.op (.bc (.tmp 77))),((some 79),.op (.addr 10 (.tmp 78))),((some 80),.op (.load none (.tmp 79))),((some 81),.op (.arith .eql (.tmp 80) (.val (.val (.int .i64 0)))))]⟩,⟨none,[((some 82),.op (.pick (.tmp 76) (.tmp 81) (.val (.val (.bool false)))))]⟩]) <|
  .cond (.tmp 82) (.seq (.seq (.region [] [⟨none,[((some 83),.op (.addr 3 (.tmp 3))),((some 84),.op (.addr 0 (.tmp 83))),((some 85),.op (.load none (.tmp 84))),((some 86),.call (.val (.fn 113 [] [])) [(.tmp 85)]),((some 87),.op (.not (.tmp 86)))]⟩]) <|
  .cond (.tmp 87) (.seq (.region [] [⟨none,[((some 88),.op (.ak (.tmp 0))),((some 89),.op (.addr 3 (.tmp 3))),((some 90),.op (.load (some 2) (.tmp 89))),((some 91),.call (.val (.fn 96 [] [])) [(.tmp 88),(.tmp 90),(.val (.val (.int .i64 3)))])]⟩]) <|
  .ret) (.skip)) <|
  .region [] [⟨none,[((some 92),.op (.ak (.tmp 0))),((some 93),.op (.addr 3 (.tmp 3))),((some 94),.op (.load (some 2) (.tmp 93))),((some 95),.call (.val (.fn 140 [] [])) [(.tmp 92),(.tmp 94),(.val (.val (.bool false)))]),((some 96),.op (.addr 2 (.tmp 4))),(none,.op (.store 1 (.tmp 96) (.tmp 95)))]⟩]) (.skip)) <|
  .region [] [⟨none,[((some 97),.op (.ak (.tmp 0))),((some 98),.op (.ak (.tmp 0))),((some 99),.op (.bc (.tmp 98))),((some 100),.op (.addr 0 (.tmp 99))),((some 101),.op (.addr 2 (.tmp 100))),((some 102),.op (.load none (.tmp 101))),((some 103),.op (.load (some 3) (.tmp 4))),((some 104),.op (.bE 1 3 [(.val (.int .i64 0)),(.emp 1),(.val (.int .i64 0))] [(0,(.tmp 103))])),((some 105),.op (.app 3 40 (.tmp 102) (.tmp 104))),((some 106),.op (.bc (.tmp 97))),((some 107),.op (.addr 0 (.tmp 106))),((some 108),.op (.addr 2 (.tmp 107))),(none,.op (.store 1 (.tmp 108) (.tmp 105)))]⟩],
  [],109⟩
theorem nf:bz Tryz.prog 94 [3]=some iR:=by kernel_rfl
def ln:DF:=⟨.seq (.region [] [⟨none,[((some 2),.op (.ak (.val (.val (.bool false)))))]⟩]) <|
  .seq (.region [] [⟨none,[((some 3),.op (.ak (.tmp 0))),((some 4),.call (.val (.fn 116 [] [])) [(.tmp 3)]),((some 5),.op (.ak (.tmp 4)))]⟩,⟨(some (5,false)),[((some 6),.op (.ak (.tmp 0))),((some 7),.call (.val (.fn 147 [] [])) [(.tmp 6)])]⟩,⟨none,[((some 8),.op (.pick (.tmp 5) (.val (.val (.bool true))) (.tmp 7))),((some 2),.op (.ak (.tmp 8)))]⟩]) <|
  .ret,
  [.tmp 2],9⟩
theorem p5:bz Tryz.prog 113 []=some ln:=by kernel_rfl
def r7:DC :=
  .seq (.seq (.region [] [⟨none,[((some 18),.op (.ak (.tmp 3))),((some 19),.op (.ak (.tmp 0))),((some 20),.op (.fB (.tmp 19))),((some 21),.op (.arith .lss (.tmp 18) (.tmp 20)))]⟩]) <|
  .cond (.tmp 21) (.skip) (.exit 0)) <|
  .seq (.block 1 (.seq (.region [] [⟨none,[((some 24),.op (.ak (.tmp 0))),((some 25),.op (.ak (.tmp 3))),((some 26),.op (.cH (.tmp 24) (.tmp 25))),((some 27),.call (.val (.fn 149 [] [])) [(.tmp 26)]),((some 28),.op (.not (.tmp 27)))]⟩]) <|
  .cond (.tmp 28) (.seq (.region [] [⟨none,[((some 2),.op (.ak (.val (.val (.bool false)))))]⟩]) <|
  .ret) (.skip))) <|
  .region [] [⟨none,[((some 22),.op (.ak (.tmp 3))),((some 23),.op (.arith .add (.tmp 22) (.val (.val (.int .i64 1))))),((some 3),.op (.ak (.tmp 23)))]⟩]
def mo:DF:=⟨.seq (.region [] [⟨none,[((some 2),.op (.ak (.val (.val (.bool false)))))]⟩]) <|
  .seq (.seq (.region [] [⟨none,[((some 4),.op (.ak (.tmp 0))),((some 5),.op (.fB (.tmp 4))),((some 6),.op (.arith .eql (.tmp 5) (.val (.val (.int .i64 0))))),((some 7),.op (.ak (.tmp 6)))]⟩,⟨(some (7,false)),[((some 8),.op (.ak (.tmp 0))),((some 9),.op (.fB (.tmp 8))),((some 10),.op (.arith .gtr (.tmp 9) (.val (.val (.int .i64 20)))))]⟩,⟨none,[((some 11),.op (.pick (.tmp 7) (.val (.val (.bool true))) (.tmp 10))),((some 12),.op (.ak (.tmp 11)))]⟩,⟨(some (12,false)),[((some 13),.op (.ak (.tmp 0))),((some 14),.op (.cH (.tmp 13) (.val (.val (.int .i64 0))))),((some 15),.call (.val (.fn 148 [] [])) [(.tmp 14)]),((some 16),.op (.not (.tmp 15)))]⟩,⟨none,[((some 17),.op (.pick (.tmp 12) (.val (.val (.bool true))) (.tmp 16)))]⟩]) <|
  .cond (.tmp 17) (.seq (.region [] [⟨none,[((some 2),.op (.ak (.val (.val (.bool false)))))]⟩]) <|
  .ret) (.skip)) <|
  .seq (.seq (.region [] [⟨none,[((some 3),.op (.ak (.val (.val (.int .i64 0)))))]⟩]) <|
  .block 0 (.loop r7)) <|
  .seq (.region [] [⟨none,[((some 2),.op (.ak (.val (.val (.bool true)))))]⟩]) <|
  .ret,
  [.tmp 2],29⟩
theorem q0:bz Tryz.prog 116 []=some mo:=by kernel_rfl
def iN:DF:=⟨.seq (.region [] [⟨none,[((some 4),.op (.er (.tmp 1)))]⟩]) <|
  .seq (.region [] [⟨none,[((some 6),.op (.ak (.tmp 0))),((some 7),.op (.bc (.tmp 6))),((some 8),.op (.addr 10 (.tmp 7))),((some 9),.op (.load none (.tmp 8))),((some 10),.op (.arith .eql (.tmp 9) (.val (.val (.int .i64 0)))))]⟩]) <|
  .cond (.tmp 10) (.region [] [⟨none,[((some 11),.op (.ak (.tmp 0))),((some 12),.op (.ak (.tmp 0))),((some 13),.op (.addr 1 (.tmp 4))),((some 14),.op (.load none (.tmp 13))),((some 15),.op (.ak (.tmp 2))),((some 16),.op (.bc (.tmp 11))),((some 17),.op (.addr 9 (.tmp 16))),(none,.op (.store 1 (.tmp 17) (.tmp 14))),((some 18),.op (.bc (.tmp 12))),((some 19),.op (.addr 10 (.tmp 18))),(none,.op (.store 1 (.tmp 19) (.tmp 15)))]⟩]) (.skip),
  [],20⟩
theorem ni:bz Tryz.prog 96 [4]=some iN:=by kernel_rfl
def gF:DF:=⟨.seq (.region [] [⟨none,[((some 4),.op (.er (.tmp 1))),((some 6),.op (.ak (.val (.val (.int .i64 0)))))]⟩]) <|
  .seq (.region [] [⟨none,[((some 8),.op (.ak (.tmp 0))),((some 9),.op (.bc (.tmp 8))),((some 10),.op (.addr 0 (.tmp 9))),((some 11),.op (.load (some 4) (.tmp 10))),((some 12),.op (.addr 0 (.tmp 4))),((some 13),.op (.load none (.tmp 12))),((some 14),.call (.val (.fn 95 [] [])) [(.tmp 11),(.tmp 13)]),((some 7),.op (.ak (.tmp 14)))]⟩]) <|
  .seq (.block 0 (.seq (.region [] [⟨none,[((some 19),.op (.ak (.tmp 7))),((some 20),.op (.arith .geq (.tmp 19) (.val (.val (.int .i64 0))))),((some 21),.op (.ak (.tmp 20)))]⟩,⟨(some (21,true)),[((some 22),.op (.ak (.tmp 2)))]⟩,⟨none,[((some 23),.op (.pick (.tmp 21) (.tmp 22) (.val (.val (.bool false))))),((some 18),.op (.ak (.tmp 23)))]⟩]) <|
  .cond (.tmp 18) (.seq (.region [] [⟨none,[((some 24),.op (.ak (.tmp 7))),((some 25),.op (.arith .sub (.val (.val (.int .i64 (-1)))) (.tmp 24))),((some 6),.op (.ak (.tmp 25)))]⟩]) <|
  .ret) (.seq (.region [] [⟨none,[((some 27),.op (.ak (.tmp 7))),((some 28),.op (.arith .geq (.tmp 27) (.val (.val (.int .i64 0))))),((some 26),.op (.ak (.tmp 28)))]⟩]) <|
  .cond (.tmp 26) (.region [] [⟨none,[((some 29),.op (.ak (.tmp 0))),((some 30),.op (.load (some 2) (.tmp 4))),((some 31),.call (.val (.fn 96 [] [])) [(.tmp 29),(.tmp 30),(.val (.val (.int .i64 6)))])]⟩]) (.seq (.region [] [⟨none,[((some 33),.op (.ak (.tmp 0))),((some 34),.op (.bc (.tmp 33))),((some 35),.op (.addr 0 (.tmp 34))),((some 36),.op (.load (some 4) (.tmp 35))),((some 37),.op (.addr 0 (.tmp 4))),((some 38),.op (.load none (.tmp 37))),((some 39),.call (.val (.fn 114 [] [])) [(.tmp 36),(.tmp 38)]),((some 40),.op (.arith .geq (.tmp 39) (.val (.val (.int .i64 0))))),((some 41),.op (.ak (.tmp 40)))]⟩,⟨(some (41,false)),[((some 42),.op (.addr 0 (.tmp 4))),((some 43),.op (.load none (.tmp 42))),((some 44),.call (.val (.fn 147 [] [])) [(.tmp 43)])]⟩,⟨none,[((some 45),.op (.pick (.tmp 41) (.val (.val (.bool true))) (.tmp 44))),((some 46),.op (.ak (.tmp 45)))]⟩,⟨(some (46,false)),[((some 47),.op (.addr 0 (.tmp 4))),((some 48),.op (.load none (.tmp 47))),((some 49),.op (.gV .eql (.tmp 48) (.val (.val (.string ⟨#[101,114,114,111,114]⟩)))))]⟩,⟨none,[((some 50),.op (.pick (.tmp 46) (.val (.val (.bool true))) (.tmp 49))),((some 32),.op (.ak (.tmp 50)))]⟩]) <|
  .cond (.tmp 32) (.seq (.region [] [⟨none,[((some 51),.op (.ak (.tmp 0))),((some 52),.op (.load (some 2) (.tmp 4))),((some 53),.call (.val (.fn 170 [] [])) [(.tmp 51),(.tmp 52)]),((some 6),.op (.ak (.tmp 53)))]⟩]) <|
  .ret) (.region [] [⟨none,[((some 15),.op (.ak (.tmp 0))),((some 16),.op (.load (some 2) (.tmp 4))),((some 17),.call (.val (.fn 96 [] [])) [(.tmp 15),(.tmp 16),(.val (.val (.int .i64 6)))])]⟩]))))) <|
  .seq (.region [] [⟨none,[((some 6),.op (.ak (.val (.val (.int .i64 0)))))]⟩]) <|
  .ret,
  [.tmp 6],54⟩
theorem lU:bz Tryz.prog 140 [4]=some gF:=by kernel_rfl
def sR:DC :=
  .seq (.seq (.region [] [⟨none,[((some 6),.op (.ak (.tmp 5))),((some 7),.op (.addr 1 (.tmp 2))),((some 8),.op (.load none (.tmp 7))),((some 9),.op (.len (.tmp 8))),((some 10),.op (.arith .lss (.tmp 6) (.tmp 9)))]⟩]) <|
  .cond (.tmp 10) (.skip) (.exit 0)) <|
  .seq (.block 1 (.seq (.region [] [⟨none,[((some 13),.op (.addr 1 (.tmp 2))),((some 14),.op (.load none (.tmp 13))),((some 15),.op (.ak (.tmp 5))),((some 16),.op (.idx 1 (.tmp 14) (.tmp 15))),((some 17),.op (.load none (.tmp 16))),((some 18),.op (.ak (.tmp 1))),((some 19),.op (.gV .eql (.tmp 17) (.tmp 18)))]⟩]) <|
  .cond (.tmp 19) (.seq (.region [] [⟨none,[((some 20),.op (.ak (.tmp 5))),((some 4),.op (.ak (.tmp 20)))]⟩]) <|
  .ret) (.skip))) <|
  .region [] [⟨none,[((some 11),.op (.ak (.tmp 5))),((some 12),.op (.arith .add (.tmp 11) (.val (.val (.int .i64 1))))),((some 5),.op (.ak (.tmp 12)))]⟩]
def nr:DF:=⟨.seq (.region [] [⟨none,[((some 2),.op (.er (.tmp 0))),((some 4),.op (.ak (.val (.val (.int .i64 0)))))]⟩]) <|
  .seq (.seq (.region [] [⟨none,[((some 5),.op (.ak (.val (.val (.int .i64 0)))))]⟩]) <|
  .block 0 (.loop sR)) <|
  .seq (.region [] [⟨none,[((some 4),.op (.ak (.val (.val (.int .i64 (-1))))))]⟩]) <|
  .ret,
  [.tmp 4],21⟩
theorem rA:bz Tryz.prog 95 [2]=some nr:=by kernel_rfl
def rR:DC :=
  .seq (.seq (.region [] [⟨none,[((some 6),.op (.ak (.tmp 5))),((some 7),.op (.addr 0 (.tmp 2))),((some 8),.op (.load none (.tmp 7))),((some 9),.op (.len (.tmp 8))),((some 10),.op (.arith .lss (.tmp 6) (.tmp 9)))]⟩]) <|
  .cond (.tmp 10) (.skip) (.exit 0)) <|
  .seq (.block 1 (.seq (.region [] [⟨none,[((some 13),.op (.addr 0 (.tmp 2))),((some 14),.op (.load none (.tmp 13))),((some 15),.op (.ak (.tmp 5))),((some 16),.op (.idx 3 (.tmp 14) (.tmp 15))),((some 17),.op (.addr 0 (.tmp 16))),((some 18),.op (.load none (.tmp 17))),((some 19),.op (.ak (.tmp 1))),((some 20),.op (.gV .eql (.tmp 18) (.tmp 19)))]⟩]) <|
  .cond (.tmp 20) (.seq (.region [] [⟨none,[((some 21),.op (.ak (.tmp 5))),((some 4),.op (.ak (.tmp 21)))]⟩]) <|
  .ret) (.skip))) <|
  .region [] [⟨none,[((some 11),.op (.ak (.tmp 5))),((some 12),.op (.arith .add (.tmp 11) (.val (.val (.int .i64 1))))),((some 5),.op (.ak (.tmp 12)))]⟩]
def mK:DF:=⟨.seq (.region [] [⟨none,[((some 2),.op (.er (.tmp 0))),((some 4),.op (.ak (.val (.val (.int .i64 0)))))]⟩]) <|
  .seq (.seq (.region [] [⟨none,[((some 5),.op (.ak (.val (.val (.int .i64 0)))))]⟩]) <|
  .block 0 (.loop rR)) <|
  .seq (.region [] [⟨none,[((some 4),.op (.ak (.val (.val (.int .i64 (-1))))))]⟩]) <|
  .ret,
  [.tmp 4],22⟩
theorem qJ:bz Tryz.prog 114 [2]=some mK:=by kernel_rfl
def fT:DF:=⟨.seq (.region [] [⟨none,[((some 3),.op (.er (.tmp 1))),((some 4),.op (.ak (.val (.val (.int .i64 0)))))]⟩]) <|
  .seq (.region [] [⟨none,[((some 6),.op (.ak (.tmp 0))),((some 7),.op (.bc (.tmp 6))),((some 8),.op (.addr 0 (.tmp 7))),((some 9),.op (.load (some 4) (.tmp 8))),((some 10),.op (.addr 0 (.tmp 3))),((some 11),.op (.load none (.tmp 10))),((some 12),.call (.val (.fn 114 [] [])) [(.tmp 9),(.tmp 11)]),((some 5),.op (.ak (.tmp 12)))]⟩]) <|
  .seq (.seq (.region [] [⟨none,[((some 13),.op (.ak (.tmp 5))),((some 14),.op (.arith .geq (.tmp 13) (.val (.val (.int .i64 0)))))]⟩]) <|
  .cond (.tmp 14) (.seq (.region [] [⟨none,[((some 15),.op (.ak (.tmp 5))),((some 4),.op (.ak (.tmp 15)))]⟩]) <|
  .ret) (.skip)) <|
  .seq (.seq (.region [] [⟨none,[((some 16),.op (.ak (.tmp 0))),((some 17),.op (.bc (.tmp 16))),((some 18),.op (.addr 0 (.tmp 17))),((some 19),.op (.addr 0 (.tmp 18))),((some 20),.op (.load none (.tmp 19))),((some 21),.op (.len (.tmp 20))),((some 22),.op (.arith .eql (.tmp 21) (.val (.val (.int .i64 24)))))]⟩]) <|
  .cond (.tmp 22) (.seq (.region [] [⟨none,[((some 23),.op (.ak (.tmp 0))),((some 24),.op (.load (some 2) (.tmp 3))),((some 25),.call (.val (.fn 96 [] [])) [(.tmp 23),(.tmp 24),(.val (.val (.int .i64 5)))])]⟩]) <|
  .seq (.region [] [⟨none,[((some 4),.op (.ak (.val (.val (.int .i64 0)))))]⟩]) <|
  .ret) (.skip)) <|
  .seq (.region [] [⟨none,[((some 26),.op (.ak (.tmp 0))),((some 27),.op (.ak (.tmp 0))),((some 28),.op (.bc (.tmp 27))),((some 29),.op (.addr 0 (.tmp 28))),((some 30),.op (.addr 0 (.tmp 29))),((some 31),.op (.load none (.tmp 30))),((some 32),.op (.addr 0 (.tmp 3))),((some 33),.op (.load none (.tmp 32))),((some 34),.op (.build [(.val (.string ⟨#[]⟩)),(.val (.int .i64 0)),(.val (.int .i64 0))] [(0,1,(.tmp 33))])),((some 35),.op (.bE 1 3 [(.val (.string ⟨#[]⟩)),(.val (.int .i64 0)),(.val (.int .i64 0))] [(0,(.tmp 34))])),((some 36),.op (.app 3 32 (.tmp 31) (.tmp 35))),((some 37),.op (.bc (.tmp 26))),((some 38),.op (.addr 0 (.tmp 37))),((some 39),.op (.addr 0 (.tmp 38))),(none,.op (.store 1 (.tmp 39) (.tmp 36)))]⟩]) <|
  .seq (.region [] [⟨none,[((some 40),.op (.ak (.tmp 0))),((some 41),.op (.bc (.tmp 40))),((some 42),.op (.addr 0 (.tmp 41))),((some 43),.op (.addr 0 (.tmp 42))),((some 44),.op (.load none (.tmp 43))),((some 45),.op (.len (.tmp 44))),((some 46),.op (.arith .sub (.tmp 45) (.val (.val (.int .i64 1))))),((some 4),.op (.ak (.tmp 46)))]⟩]) <|
  .ret,
  [.tmp 4],47⟩
theorem kQ:bz Tryz.prog 170 [3]=some fT:=by kernel_rfl
def m7:DC :=
  .seq (.seq (.region [] [⟨none,[((some 60),.op (.ak (.tmp 7))),((some 61),.op (.addr 1 (.tmp 5))),((some 62),.op (.load none (.tmp 61))),((some 63),.op (.len (.tmp 62))),((some 64),.op (.arith .lss (.tmp 60) (.tmp 63))),((some 65),.op (.ak (.tmp 64)))]⟩,⟨(some (65,true)),[((some 66),.op (.ak (.tmp 0))),((some 67),.op (.bc (.tmp 66))),((some 68),.op (.addr 10 (.tmp 67))),((some 69),.op (.load none (.tmp 68))),((some 70),.op (.arith .eql (.tmp 69) (.val (.val (.int .i64 0)))))]⟩,⟨none,[((some 71),.op (.pick (.tmp 65) (.tmp 70) (.val (.val (.bool false)))))]⟩]) <|
  .cond (.tmp 71) (.skip) (.exit 2)) <|
  .seq (.block 3 (.region [] [⟨none,[((some 74),.op (.ak (.tmp 0))),((some 75),.op (.addr 0 (.tmp 5))),((some 76),.op (.load none (.tmp 75))),((some 77),.op (.addr 1 (.tmp 5))),((some 78),.op (.load none (.tmp 77))),((some 79),.op (.ak (.tmp 7))),((some 80),.op (.idx 2 (.tmp 78) (.tmp 79))),((some 81),.op (.load (some 2) (.tmp 80))),((some 82),.call (.val (.fn 139 [] [])) [(.tmp 74),(.tmp 76),(.tmp 81)])]⟩])) <|
  .region [] [⟨none,[((some 72),.op (.ak (.tmp 7))),((some 73),.op (.arith .add (.tmp 72) (.val (.val (.int .i64 1))))),((some 7),.op (.ak (.tmp 73)))]⟩]
def nh:DC :=
  .seq (.seq (.region [] [⟨none,[((some 8),.op (.ak (.tmp 4))),((some 9),.op (.ak (.tmp 1))),((some 10),.op (.len (.tmp 9))),((some 11),.op (.arith .lss (.tmp 8) (.tmp 10))),((some 12),.op (.ak (.tmp 11)))]⟩,⟨(some (12,true)),[((some 13),.op (.ak (.tmp 0))),((some 14),.op (.bc (.tmp 13))),((some 15),.op (.addr 10 (.tmp 14))),((some 16),.op (.load none (.tmp 15))),((some 17),.op (.arith .eql (.tmp 16) (.val (.val (.int .i64 0)))))]⟩,⟨none,[((some 18),.op (.pick (.tmp 12) (.tmp 17) (.val (.val (.bool false)))))]⟩]) <|
  .cond (.tmp 18) (.skip) (.exit 0)) <|
  .seq (.block 1 (.seq (.region [] [⟨none,[((some 21),.op (.ak (.tmp 1))),((some 22),.op (.ak (.tmp 4))),((some 23),.op (.idx 2 (.tmp 21) (.tmp 22))),((some 24),.op (.load (some 2) (.tmp 23))),((some 5),.op (.alloc [(.val (.int .i64 0)),(.emp 1)])),(none,.op (.store 2 (.tmp 5) (.tmp 24)))]⟩]) <|
  .seq (.seq (.region [] [⟨none,[((some 25),.op (.addr 0 (.tmp 5))),((some 26),.op (.load none (.tmp 25))),((some 27),.op (.arith .lss (.tmp 26) (.val (.val (.int .i64 3))))),((some 28),.op (.ak (.tmp 27)))]⟩,⟨(some (28,false)),[((some 29),.op (.addr 0 (.tmp 5))),((some 30),.op (.load none (.tmp 29))),((some 31),.op (.arith .gtr (.tmp 30) (.val (.val (.int .i64 7)))))]⟩,⟨none,[((some 32),.op (.pick (.tmp 28) (.val (.val (.bool true))) (.tmp 31)))]⟩]) <|
  .cond (.tmp 32) (.seq (.region [] [⟨none,[((some 33),.op (.build [(.val (.string ⟨#[]⟩)),(.val (.complex .f64 0 0))] [])),((some 6),.op (.alloc [(.val (.string ⟨#[]⟩)),(.val (.complex .f64 0 0))])),(none,.op (.store 2 (.tmp 6) (.tmp 33)))]⟩]) <|
  .seq (.seq (.region [] [⟨none,[((some 34),.op (.addr 1 (.tmp 5))),((some 35),.op (.load none (.tmp 34))),((some 36),.op (.len (.tmp 35))),((some 37),.op (.arith .gtr (.tmp 36) (.val (.val (.int .i64 0)))))]⟩]) <|
  .cond (.tmp 37) (.region [] [⟨none,[((some 38),.op (.addr 1 (.tmp 5))),((some 39),.op (.load none (.tmp 38))),((some 40),.op (.idx 2 (.tmp 39) (.val (.val (.int .i64 0))))),((some 41),.op (.load (some 2) (.tmp 40))),(none,.op (.store 2 (.tmp 6) (.tmp 41)))]⟩]) (.skip)) <|
  .seq (.region [] [⟨none,[((some 42),.op (.ak (.tmp 0))),((some 43),.op (.load (some 2) (.tmp 6))),((some 44),.call (.val (.fn 96 [] [])) [(.tmp 42),(.tmp 43),(.val (.val (.int .i64 3)))])]⟩]) <|
  .ret) (.skip)) <|
  .seq (.seq (.region [] [⟨none,[((some 45),.op (.addr 0 (.tmp 5))),((some 46),.op (.load none (.tmp 45))),((some 47),.op (.arith .neq (.tmp 46) (.val (.val (.int .i64 3))))),((some 48),.op (.ak (.tmp 47)))]⟩,⟨(some (48,true)),[((some 49),.op (.addr 0 (.tmp 5))),((some 50),.op (.load none (.tmp 49))),((some 51),.op (.arith .neq (.tmp 50) (.val (.val (.int .i64 7)))))]⟩,⟨none,[((some 52),.op (.pick (.tmp 48) (.tmp 51) (.val (.val (.bool false)))))]⟩]) <|
  .cond (.tmp 52) (.region [] [⟨none,[((some 53),.op (.ak (.tmp 0))),((some 54),.op (.bc (.tmp 53))),((some 55),.op (.addr 8 (.tmp 54))),((some 56),.op (.load none (.tmp 55))),((some 57),.op (.arith .add (.tmp 56) (.val (.val (.int .i64 1))))),((some 58),.op (.bc (.tmp 53))),((some 59),.op (.addr 8 (.tmp 58))),(none,.op (.store 1 (.tmp 59) (.tmp 57)))]⟩]) (.skip)) <|
  .seq (.region [] [⟨none,[((some 7),.op (.ak (.val (.val (.int .i64 0)))))]⟩]) <|
  .block 2 (.loop m7))) <|
  .region [] [⟨none,[((some 19),.op (.ak (.tmp 4))),((some 20),.op (.arith .add (.tmp 19) (.val (.val (.int .i64 1))))),((some 4),.op (.ak (.tmp 20)))]⟩]
def gZ:DF:=⟨.seq (.region [] [⟨none,[((some 4),.op (.ak (.val (.val (.int .i64 0)))))]⟩]) <|
  .block 0 (.loop nh),
  [],83⟩
theorem mn:bz Tryz.prog 92 []=some gZ:=by kernel_rfl
def gm:DF:=⟨.seq (.region [] [⟨none,[((some 5),.op (.er (.tmp 2)))]⟩]) <|
  .block 0 (.seq (.region [] [⟨none,[((some 63),.op (.addr 0 (.tmp 5))),((some 64),.op (.load none (.tmp 63))),((some 65),.call (.val (.fn 113 [] [])) [(.tmp 64)]),((some 66),.op (.not (.tmp 65))),((some 67),.op (.ak (.tmp 66)))]⟩,⟨(some (67,false)),[((some 68),.op (.ak (.tmp 1))),((some 69),.op (.arith .eql (.tmp 68) (.val (.val (.int .i64 7))))),((some 70),.op (.ak (.tmp 69)))]⟩,⟨(some (70,true)),[((some 71),.op (.addr 0 (.tmp 5))),((some 72),.op (.load none (.tmp 71))),((some 73),.call (.val (.fn 116 [] [])) [(.tmp 72)]),((some 74),.op (.not (.tmp 73)))]⟩,⟨(some (67,false)),[((some 75),.op (.pick (.tmp 70) (.tmp 74) (.val (.val (.bool false)))))]⟩,⟨none,[((some 76),.op (.pick (.tmp 67) (.val (.val (.bool true))) (.tmp 75))),((some 62),.op (.ak (.tmp 76)))]⟩]) <|
  .cond (.tmp 62) (.region [] [⟨none,[((some 77),.op (.ak (.tmp 0))),((some 78),.op (.load (some 2) (.tmp 5))),((some 79),.call (.val (.fn 96 [] [])) [(.tmp 77),(.tmp 78),(.val (.val (.int .i64 3)))])]⟩]) (.seq (.region [] [⟨none,[((some 81),.op (.ak (.tmp 1))),((some 82),.op (.arith .eql (.tmp 81) (.val (.val (.int .i64 7))))),((some 80),.op (.ak (.tmp 82)))]⟩]) <|
  .cond (.tmp 80) (.seq (.seq (.region [] [⟨none,[((some 83),.op (.ak (.tmp 0))),((some 84),.op (.bc (.tmp 83))),((some 85),.op (.addr 7 (.tmp 84))),((some 86),.op (.load none (.tmp 85)))]⟩]) <|
  .cond (.tmp 86) (.region [] [⟨none,[((some 87),.op (.ak (.tmp 0))),((some 88),.op (.load (some 2) (.tmp 5))),((some 89),.call (.val (.fn 96 [] [])) [(.tmp 87),(.tmp 88),(.val (.val (.int .i64 7)))])]⟩]) (.skip)) <|
  .region [] [⟨none,[((some 90),.op (.ak (.tmp 0))),((some 91),.op (.ak (.tmp 0))),((some 92),.op (.load (some 2) (.tmp 5))),((some 93),.op (.bc (.tmp 90))),((some 94),.op (.addr 5 (.tmp 93))),(none,.op (.store 2 (.tmp 94) (.tmp 92))),((some 95),.op (.bc (.tmp 91))),((some 96),.op (.addr 7 (.tmp 95))),(none,.op (.store 1 (.tmp 96) (.val (.val (.bool true)))))]⟩]) (.seq (.region [] [⟨none,[((some 98),.op (.ak (.tmp 1))),((some 99),.op (.arith .eql (.tmp 98) (.val (.val (.int .i64 3))))),((some 97),.op (.ak (.tmp 99)))]⟩]) <|
  .cond (.tmp 97) (.seq (.seq (.region [] [⟨none,[((some 100),.op (.ak (.tmp 0))),((some 101),.op (.bc (.tmp 100))),((some 102),.op (.addr 4 (.tmp 101))),((some 103),.op (.load none (.tmp 102))),((some 104),.op (.addr 0 (.tmp 5))),((some 105),.op (.load none (.tmp 104))),((some 106),.call (.val (.fn 169 [] [])) [(.tmp 103),(.tmp 105)])]⟩]) <|
  .cond (.tmp 106) (.region [] [⟨none,[((some 107),.op (.ak (.tmp 0))),((some 108),.op (.load (some 2) (.tmp 5))),((some 109),.call (.val (.fn 96 [] [])) [(.tmp 107),(.tmp 108),(.val (.val (.int .i64 7)))])]⟩]) (.skip)) <|
  .seq (.region [] [⟨none,[((some 110),.op (.ak (.tmp 0))),((some 111),.op (.ak (.tmp 0))),((some 112),.op (.bc (.tmp 111))),((some 113),.op (.addr 4 (.tmp 112))),((some 114),.op (.load none (.tmp 113))),((some 115),.op (.addr 0 (.tmp 5))),((some 116),.op (.load none (.tmp 115))),((some 117),.op (.bE 1 1 [(.val (.string ⟨#[]⟩))] [(0,(.tmp 116))])),((some 118),.op (.app 1 16 (.tmp 114) (.tmp 117))),((some 119),.op (.bc (.tmp 110))),((some 120),.op (.addr 4 (.tmp 119))),(none,.op (.store 1 (.tmp 120) (.tmp 118)))]⟩]) <|
  .region [] [⟨none,[((some 121),.op (.ak (.tmp 0))),((some 122),.op (.load (some 2) (.tmp 5))),((some 123),.call (.val (.fn 170 [] [])) [(.tmp 121),(.tmp 122)])]⟩]) (.seq (.region [] [⟨none,[((some 7),.op (.ak (.tmp 0))),((some 8),.op (.bc (.tmp 7))),((some 9),.op (.addr 0 (.tmp 8))),((some 10),.op (.load (some 4) (.tmp 9))),((some 11),.op (.addr 0 (.tmp 5))),((some 12),.op (.load none (.tmp 11))),((some 13),.call (.val (.fn 114 [] [])) [(.tmp 10),(.tmp 12)]),((some 6),.op (.ak (.tmp 13)))]⟩]) <|
  .seq (.seq (.region [] [⟨none,[((some 14),.op (.ak (.tmp 6))),((some 15),.op (.arith .geq (.tmp 14) (.val (.val (.int .i64 0))))),((some 16),.op (.ak (.tmp 15)))]⟩,⟨(some (16,true)),[((some 17),.op (.ak (.tmp 0))),((some 18),.op (.bc (.tmp 17))),((some 19),.op (.addr 0 (.tmp 18))),((some 20),.op (.addr 0 (.tmp 19))),((some 21),.op (.load none (.tmp 20))),((some 22),.op (.ak (.tmp 6))),((some 23),.op (.idx 3 (.tmp 21) (.tmp 22))),((some 24),.op (.addr 1 (.tmp 23))),((some 25),.op (.load none (.tmp 24))),((some 26),.op (.arith .gtr (.tmp 25) (.val (.val (.int .i64 0)))))]⟩,⟨none,[((some 27),.op (.pick (.tmp 16) (.tmp 26) (.val (.val (.bool false)))))]⟩]) <|
  .cond (.tmp 27) (.seq (.region [] [⟨none,[((some 28),.op (.ak (.tmp 0))),((some 29),.op (.load (some 2) (.tmp 5))),((some 30),.call (.val (.fn 96 [] [])) [(.tmp 28),(.tmp 29),(.val (.val (.int .i64 7)))])]⟩]) <|
  .ret) (.skip)) <|
  .seq (.region [] [⟨none,[((some 31),.op (.ak (.tmp 0))),((some 32),.op (.load (some 2) (.tmp 5))),((some 33),.call (.val (.fn 170 [] [])) [(.tmp 31),(.tmp 32)]),((some 6),.op (.ak (.tmp 33)))]⟩]) <|
  .seq (.region [] [⟨none,[((some 34),.op (.ak (.tmp 0))),((some 35),.op (.bc (.tmp 34))),((some 36),.op (.addr 10 (.tmp 35))),((some 37),.op (.load none (.tmp 36))),((some 38),.op (.arith .eql (.tmp 37) (.val (.val (.int .i64 0)))))]⟩]) <|
  .cond (.tmp 38) (.region [] [⟨none,[((some 39),.op (.ak (.tmp 0))),((some 40),.op (.bc (.tmp 39))),((some 41),.op (.addr 0 (.tmp 40))),((some 42),.op (.addr 0 (.tmp 41))),((some 43),.op (.load none (.tmp 42))),((some 44),.op (.ak (.tmp 6))),((some 45),.op (.ak (.tmp 0))),((some 46),.op (.bc (.tmp 45))),((some 47),.op (.addr 0 (.tmp 46))),((some 48),.op (.addr 0 (.tmp 47))),((some 49),.op (.load none (.tmp 48))),((some 50),.op (.ak (.tmp 6))),((some 51),.op (.ak (.tmp 0))),((some 52),.op (.bc (.tmp 51))),((some 53),.op (.addr 8 (.tmp 52))),((some 54),.op (.load none (.tmp 53))),((some 55),.op (.ak (.tmp 1))),((some 56),.op (.arith .sub (.tmp 55) (.val (.val (.int .i64 4))))),((some 57),.op (.arith .add (.tmp 56) (.val (.val (.int .i64 1))))),((some 58),.op (.idx 3 (.tmp 43) (.tmp 44))),((some 59),.op (.addr 1 (.tmp 58))),(none,.op (.store 1 (.tmp 59) (.tmp 54))),((some 60),.op (.idx 3 (.tmp 49) (.tmp 50))),((some 61),.op (.addr 2 (.tmp 60))),(none,.op (.store 1 (.tmp 61) (.tmp 57)))]⟩]) (.skip))))),
  [],124⟩
theorem kZ:bz Tryz.prog 139 [5]=some gm:=by kernel_rfl
def sW:DC :=
  .seq (.seq (.region [] [⟨none,[((some 6),.op (.ak (.tmp 5))),((some 7),.op (.ak (.tmp 0))),((some 8),.op (.len (.tmp 7))),((some 9),.op (.arith .lss (.tmp 6) (.tmp 8)))]⟩]) <|
  .cond (.tmp 9) (.skip) (.exit 0)) <|
  .seq (.block 1 (.seq (.region [] [⟨none,[((some 12),.op (.ak (.tmp 0))),((some 13),.op (.ak (.tmp 5))),((some 14),.op (.idx 1 (.tmp 12) (.tmp 13))),((some 15),.op (.load none (.tmp 14))),((some 16),.op (.ak (.tmp 1))),((some 17),.op (.gV .eql (.tmp 15) (.tmp 16)))]⟩]) <|
  .cond (.tmp 17) (.seq (.region [] [⟨none,[((some 4),.op (.ak (.val (.val (.bool true)))))]⟩]) <|
  .ret) (.skip))) <|
  .region [] [⟨none,[((some 10),.op (.ak (.tmp 5))),((some 11),.op (.arith .add (.tmp 10) (.val (.val (.int .i64 1))))),((some 5),.op (.ak (.tmp 11)))]⟩]
def nt:DF:=⟨.seq (.region [] [⟨none,[((some 4),.op (.ak (.val (.val (.bool false)))))]⟩]) <|
  .seq (.seq (.region [] [⟨none,[((some 5),.op (.ak (.val (.val (.int .i64 0)))))]⟩]) <|
  .block 0 (.loop sW)) <|
  .seq (.region [] [⟨none,[((some 4),.op (.ak (.val (.val (.bool false)))))]⟩]) <|
  .ret,
  [.tmp 4],18⟩
theorem rb:bz Tryz.prog 169 []=some nt:=by kernel_rfl
def m9:DC :=
  .seq (.seq (.region [] [⟨none,[((some 6),.op (.ak (.tmp 4))),((some 7),.op (.ak (.tmp 1))),((some 8),.op (.len (.tmp 7))),((some 9),.op (.arith .lss (.tmp 6) (.tmp 8))),((some 10),.op (.ak (.tmp 9)))]⟩,⟨(some (10,true)),[((some 11),.op (.ak (.tmp 0))),((some 12),.op (.bc (.tmp 11))),((some 13),.op (.addr 10 (.tmp 12))),((some 14),.op (.load none (.tmp 13))),((some 15),.op (.arith .eql (.tmp 14) (.val (.val (.int .i64 0)))))]⟩,⟨none,[((some 16),.op (.pick (.tmp 10) (.tmp 15) (.val (.val (.bool false)))))]⟩]) <|
  .cond (.tmp 16) (.skip) (.exit 0)) <|
  .seq (.block 1 (.seq (.region [] [⟨none,[((some 19),.op (.ak (.tmp 1))),((some 20),.op (.ak (.tmp 4))),((some 21),.op (.idx 5 (.tmp 19) (.tmp 20))),((some 22),.op (.addr 0 (.tmp 21))),((some 23),.op (.load (some 2) (.tmp 22))),((some 5),.op (.alloc [(.val (.string ⟨#[]⟩)),(.val (.complex .f64 0 0))])),(none,.op (.store 2 (.tmp 5) (.tmp 23)))]⟩]) <|
  .block 2 (.seq (.region [] [⟨none,[((some 38),.op (.addr 0 (.tmp 5))),((some 39),.op (.load none (.tmp 38))),((some 40),.call (.val (.fn 116 [] [])) [(.tmp 39)]),((some 41),.op (.not (.tmp 40))),((some 37),.op (.ak (.tmp 41)))]⟩]) <|
  .cond (.tmp 37) (.region [] [⟨none,[((some 42),.op (.ak (.tmp 0))),((some 43),.op (.load (some 2) (.tmp 5))),((some 44),.call (.val (.fn 96 [] [])) [(.tmp 42),(.tmp 43),(.val (.val (.int .i64 3)))])]⟩]) (.seq (.region [] [⟨none,[((some 46),.op (.ak (.tmp 0))),((some 47),.op (.bc (.tmp 46))),((some 48),.op (.addr 0 (.tmp 47))),((some 49),.op (.load (some 4) (.tmp 48))),((some 50),.op (.addr 0 (.tmp 5))),((some 51),.op (.load none (.tmp 50))),((some 52),.call (.val (.fn 114 [] [])) [(.tmp 49),(.tmp 51)]),((some 53),.op (.arith .geq (.tmp 52) (.val (.val (.int .i64 0))))),((some 45),.op (.ak (.tmp 53)))]⟩]) <|
  .cond (.tmp 45) (.region [] [⟨none,[((some 54),.op (.ak (.tmp 0))),((some 55),.op (.load (some 2) (.tmp 5))),((some 56),.call (.val (.fn 96 [] [])) [(.tmp 54),(.tmp 55),(.val (.val (.int .i64 7)))])]⟩]) (.seq (.region [] [⟨none,[((some 58),.op (.ak (.tmp 0))),((some 59),.op (.bc (.tmp 58))),((some 60),.op (.addr 0 (.tmp 59))),((some 61),.op (.load (some 4) (.tmp 60))),((some 62),.op (.addr 0 (.tmp 5))),((some 63),.op (.load none (.tmp 62))),((some 64),.call (.val (.fn 95 [] [])) [(.tmp 61),(.tmp 63)]),((some 65),.op (.arith .geq (.tmp 64) (.val (.val (.int .i64 0))))),((some 57),.op (.ak (.tmp 65)))]⟩]) <|
  .cond (.tmp 57) (.skip) (.seq (.region [] [⟨none,[((some 67),.op (.ak (.tmp 0))),((some 68),.op (.bc (.tmp 67))),((some 69),.op (.addr 0 (.tmp 68))),((some 70),.op (.addr 1 (.tmp 69))),((some 71),.op (.load none (.tmp 70))),((some 72),.op (.len (.tmp 71))),((some 73),.op (.arith .eql (.tmp 72) (.val (.val (.int .i64 16))))),((some 66),.op (.ak (.tmp 73)))]⟩]) <|
  .cond (.tmp 66) (.region [] [⟨none,[((some 74),.op (.ak (.tmp 0))),((some 75),.op (.load (some 2) (.tmp 5))),((some 76),.call (.val (.fn 96 [] [])) [(.tmp 74),(.tmp 75),(.val (.val (.int .i64 5)))])]⟩]) (.region [] [⟨none,[((some 24),.op (.ak (.tmp 0))),((some 25),.op (.ak (.tmp 0))),((some 26),.op (.bc (.tmp 25))),((some 27),.op (.addr 0 (.tmp 26))),((some 28),.op (.addr 1 (.tmp 27))),((some 29),.op (.load none (.tmp 28))),((some 30),.op (.addr 0 (.tmp 5))),((some 31),.op (.load none (.tmp 30))),((some 32),.op (.bE 1 1 [(.val (.string ⟨#[]⟩))] [(0,(.tmp 31))])),((some 33),.op (.app 1 16 (.tmp 29) (.tmp 32))),((some 34),.op (.bc (.tmp 24))),((some 35),.op (.addr 0 (.tmp 34))),((some 36),.op (.addr 1 (.tmp 35))),(none,.op (.store 1 (.tmp 36) (.tmp 33)))]⟩]))))))) <|
  .region [] [⟨none,[((some 17),.op (.ak (.tmp 4))),((some 18),.op (.arith .add (.tmp 17) (.val (.val (.int .i64 1))))),((some 4),.op (.ak (.tmp 18)))]⟩]
def hZ:DF:=⟨.seq (.region [] [⟨none,[((some 4),.op (.ak (.val (.val (.int .i64 0)))))]⟩]) <|
  .block 0 (.loop m9),
  [],77⟩
theorem m0:bz Tryz.prog 93 []=some hZ:=by kernel_rfl
def xO:List (FuncId × DF):=[(33,mF),(51,ly),(90,kx),(131,m3),(159,nD),(160,mW),(161,mH),(162,kE),(178,kD),(132,oL),(163,oz),(133,nq),(149,ld),(148,lf),(147,jR),(164,jT),(165,jO),(166,mj),(91,oG),(137,gR),(136,gj),(167,gQ),(168,iQ),(135,gP),(138,gO),(134,gq),(52,lu),(94,iR),(113,ln),(116,mo),(96,iN),(140,gF),(95,nr),(114,mK),(170,fT),(92,gZ),(139,gm),(169,nt),(93,hZ)]
theorem DH:uD Tryz.prog xO:=by
  intro p hp
  simp only[xO,List.mem_cons,List.not_mem_nil,or_false] at hp
  rcases hp with rfl | rfl | rfl | rfl | rfl | rfl | rfl | rfl | rfl | rfl | rfl | rfl | rfl | rfl | rfl | rfl | rfl | rfl | rfl | rfl | rfl | rfl | rfl | rfl | rfl | rfl | rfl | rfl | rfl | rfl | rfl | rfl | rfl | rfl | rfl | rfl | rfl | rfl | rfl
  · exact ⟨_,qR⟩
  · exact ⟨_,p9⟩
  · exact ⟨_,oX⟩
  · exact ⟨_,qw⟩
  · exact ⟨_,rL⟩
  · exact ⟨_,qM⟩
  · exact ⟨_,qv⟩
  · exact ⟨_,o5⟩
  · exact ⟨_,oW⟩
  · exact ⟨_,sS⟩
  · exact ⟨_,sP⟩
  · exact ⟨_,rI⟩
  · exact ⟨_,pM⟩
  · exact ⟨_,p6⟩
  · exact ⟨_,ou⟩
  · exact ⟨_,ot⟩
  · exact ⟨_,oA⟩
  · exact ⟨_,qu⟩
  · exact ⟨_,sV⟩
  · exact ⟨_,lW⟩
  · exact ⟨_,k6⟩
  · exact ⟨_,lS⟩
  · exact ⟨_,ng⟩
  · exact ⟨_,lC⟩
  · exact ⟨_,lI⟩
  · exact ⟨_,kX⟩
  · exact ⟨_,pO⟩
  · exact ⟨_,nf⟩
  · exact ⟨_,p5⟩
  · exact ⟨_,q0⟩
  · exact ⟨_,ni⟩
  · exact ⟨_,lU⟩
  · exact ⟨_,rA⟩
  · exact ⟨_,qJ⟩
  · exact ⟨_,kQ⟩
  · exact ⟨_,mn⟩
  · exact ⟨_,kZ⟩
  · exact ⟨_,rb⟩
  · exact ⟨_,m0⟩
def tM (l:List Int):V:=.aV (l.map fun x=>[gy x])
theorem FP (l:List Int):Tree (tM l):=gh _ _ fun x _ v hv=>by simp at hv; subst hv; exact .val _
def j1 (g:au):V:=.bt [.agg (ao g),.val (.complex .f64 0 0),gi 0]
theorem CW {l:List Int} {g:au} (h:uL Tryz.prog xO (fun _ _=>none) 33 [tM l]=some (j1 g)):cq Tryz.prog 33 [tM l] (j1 g) :=
  wO mixed DH (HJ _) (by intro v hv; simp at hv; subst hv; exact FP _) h
end Gv
set_option linter.unusedSimpArgs false
namespace Gv
open Go
abbrev cr (κ:Type):=List (κ × V × Nat)
def dC {κ:Type} (key:κ→Value) (m:cr κ):List (V × V × Nat):=m.map fun x=>(.val (key x.1),x.2.1,x.2.2)
def getM {κ:Type} [BEq κ] (m:cr κ) (k:κ):Option V:=(m.find? fun x=>k == x.1).map (·.2.1)
def bM {κ:Type} [BEq κ] (k:κ) (v:V) (c:Nat):cr κ→cr κ
  | []=>[(k,v,c)]
  | x :: r=>if k == x.1 then (k,v,x.2.2) :: r else x :: bM k v c r
structure xS {κ:Type} [BEq κ] (P:Program) (kt:TypeId) (key:κ→Value):Prop where
  ty:∃ d,P.underlying kt=some d∧(∀ a b,Instr.sameNow d (key a) (key b)=some (a == b))∧(∀ a e,ba P (Instr.checkKey e 10000 kt (key a))=some ())
  bits:∀ a b,(a == b)=true→Instr.sameBits 10000 (key b) (key a)=true
theorem qP {κ:Type} (key:κ→Value):∀ m:cr κ,eL (dC key m)=some (m.map fun x=>{ key:=key x.1,val:=.nilFunc,born:=x.2.2 })
  | []=>rfl
  | x :: r=>by
    have:=qP key r
    simp only[dC] at this
    simp[dC,eL,cB,this]
def ee {κ:Type} [BEq κ] (k:κ):cr κ→Option Nat
  | []=>none
  | x :: r=>if k == x.1 then some 0 else (ee k r).map (·+1)
theorem vm {κ:Type} [BEq κ] {key:κ→Value} {d:TypeDesc} (h:∀ a b,Instr.sameNow d (key a) (key b)=some (a == b)) (k:κ):∀ (m:cr κ) (i:Nat),
    Instr.findNow d (key k) (m.map fun x=>{ key:=key x.1,val:=.nilFunc,born:=x.2.2 }) i=some ((ee k m).map fun j=>(i+j,.nilFunc))
  | [],i=>rfl
  | x :: r,i=>by
    simp only[List.map_cons,Instr.findNow,h,ee]
    cases hk:k == x.1 with
    | true=>simp
    | false =>
      simp only[vm h k r (i+1),Bool.false_eq_true,if_false,Option.map_map]
      congr 2
      funext j
      simp only[Function.comp]
      congr 1
      omega
theorem ux {κ:Type} [BEq κ] {P:Program} {kt:TypeId} {key:κ→Value} (h:xS P kt key) (k:κ) (e:Bool) (m:cr κ):jv P kt (.val (key k)) e (dC key m)=some (ee k m):=by
  obtain ⟨d,hd,hn,hc⟩:=h.ty
  have hu:ba P (underlying kt)=some d:=cG hd
  simp only[jv,cB,qP,aU,hc,Option.bind_some]
  have:ba P (Instr.findKey kt (key k) (m.map fun x=>{ key:=key x.1,val:=.nilFunc,born:=x.2.2 }))=some ((ee k m).map fun j=>(0+j,.nilFunc)):=by
    unfold Instr.findKey
    rw[aU,hu,Option.bind_some,vm hn]
    rfl
  rw[this]
  cases ee k m with
  | none=>rfl
  | some j=>simp
theorem xe {P:Program} {kt:TypeId} {d:TypeDesc} (h:P.underlying kt=some d) (hd:match d with | .int _ | .string | .bool=>True | _=>False) (e:Bool) (n:Nat) (v:Value):ba P (Instr.checkKey e (n+1) kt v)=some ():=by
  unfold Instr.checkKey
  rw[aU,cG h,Option.bind_some]
  cases d <;> first | exact hd.elim | rfl
theorem mO {P:Program} {kt:TypeId} (k:IntKind) (h:P.underlying kt=some (.int k)):xS P kt (Value.int k) where
  ty:=⟨_,h,fun a b=>by simp[Instr.sameNow],fun a e=>xe h trivial e 9999 _⟩
  bits:=fun a b hab=>by
    have:a=b:=by simpa using hab
    subst this
    simp[Instr.sameBits]
theorem rC {κ:Type} [BEq κ] {key:κ→Value} (k:κ):∀ m:cr κ,match ee k m with
    | some i=>∃ x,m[i]?=some x∧(k == x.1)=true∧getM m k=some x.2.1∧(dC key m)[i]?=some (.val (key x.1),x.2.1,x.2.2)∧∀ v c,(dC key m).set i (.val (key k),v,x.2.2)=dC key (bM k v c m)∧(bM k v c m).length=m.length
    | none=>getM m k=none∧∀ v c,dC key m ++ [(.val (key k),v,c)]=dC key (bM k v c m)∧(bM k v c m).length=m.length+1
  | []=>⟨rfl,fun v c=>⟨rfl,rfl⟩⟩
  | x :: r=>by
    have ih:=rC (key:=key) k r
    simp only[ee]
    cases hk:k == x.1 with
    | true=>exact ⟨x,rfl,hk,by simp[getM,hk],rfl,fun v c=>by simp[bM,hk,dC]⟩
    | false =>
      simp only[Bool.false_eq_true,if_false]
      cases hi:ee k r with
      | some i =>
        rw[hi] at ih
        obtain ⟨y,h1,h2,h3,h4,h5⟩:=ih
        refine ⟨y,by simpa using h1,h2,by simpa [getM,hk] using h3,by simpa [dC] using h4,fun v c=>?_⟩
        obtain ⟨g1,g2⟩:=h5 v c
        exact ⟨by simp only[dC] at g1 ⊢; simp[bM,hk,g1],by simp[bM,hk,g2]⟩
      | none =>
        rw[hi] at ih
        refine ⟨by simpa [getM,hk] using ih.1,fun v c=>?_⟩
        obtain ⟨g1,g2⟩:=ih.2 v c
        exact ⟨by simp only[dC] at g1 ⊢; simp[bM,hk,g1],by simp[bM,hk,g2]⟩
section
variable {P:Program} {T:Env} {H:View} {κ:Type} [BEq κ] {key:κ→Value} {kt et t ty:TypeId}
theorem zO {K:V→View→Prop} {w:cg (T,H,K)} {x i:Operand} {z:V} {id c:Nat} {m:cr κ} {k:κ} (hm:cY P t=some (kt,et)) (hz:zeroV P et=some z) (hk:xS P kt key)
    (hx:ev T x=.mp id) (hi:ev T i=.val (key k)) (hH:H id=.map (dC key m) c) (h:K ((getM m k).getD z) H):nO P (.lookup t x i false) ty T H K w:=by
  intro n _
  have hf:=ux hk k (dC key m).isEmpty m
  have hg:=rC (key:=key) k m
  refine ⟨(getM m k).getD z,.none,[id],?_,h⟩
  simp only[sI,bJ,oper,dp,hm,hz,hx,hi,hH,hf]
  cases hj:ee k m with
  | some j =>
    rw[hj] at hg
    obtain ⟨y,h1,h2,h3,h4,_⟩:=hg
    simp[h4,h3]
  | none =>
    rw[hj] at hg
    simp[hg.1]
theorem JQ {K:V→View→Prop} {w:cg (T,H,K)} {x i:Operand} {z:V} {id c:Nat} {m:cr κ} {k:κ} (hm:cY P t=some (kt,et)) (hz:zeroV P et=some z) (hk:xS P kt key)
    (hx:ev T x=.mp id) (hi:ev T i=.val (key k)) (hH:H id=.map (dC key m) c) (h:K (.bt [(getM m k).getD z,.val (.bool (getM m k).isSome)]) H):nO P (.lookup t x i true) ty T H K w:=by
  intro n _
  have hf:=ux hk k (dC key m).isEmpty m
  have hg:=rC (key:=key) k m
  refine ⟨_,.none,[id],?_,h⟩
  simp only[sI,bJ,oper,dp,hm,hz,hx,hi,hH,hf]
  cases hj:ee k m with
  | some j =>
    rw[hj] at hg
    obtain ⟨y,h1,h2,h3,h4,_⟩:=hg
    simp[h4,h3]
  | none =>
    rw[hj] at hg
    simp[hg.1]
theorem G6 (hk:xS P kt key) (k k':κ) (h:(k == k')=true):sameKey (.val (key k')) (.val (key k))=true:=by
  simp only[sameKey,cB]; exact hk.bits _ _ h
theorem Bh {K:V→View→Prop} {w:cg (T,H,K)} {x i y:Operand} {id c:Nat} {m:cr κ} {k:κ} {v:V} (hm:cY P t=some (kt,et)) (hk:xS P kt key)
    (hx:ev T x=.mp id) (hi:ev T i=.val (key k)) (hy:ev T y=v) (hH:H id=.map (dC key m) c)
    (h:∀ c',K .any (H.set id (.map (dC key (bM k v c m)) c'))):nO P (.mapUpdate t x i y) ty T H K w:=by
  intro n _
  have hf:=ux hk k false m
  have hg:=rC (key:=key) k m
  cases hj:ee k m with
  | some j =>
    rw[hj] at hg hf
    obtain ⟨z,h1,h2,h3,h4,h5⟩:=hg
    refine ⟨.any,.dM id (.map ((dC key m).set j (.val (key k),v,z.2.2)) c),[id],?_,?_⟩
    · simp only[sI,bJ,oper,fY,hm,hx,hi,hy,hH,hf,h4,G6 hk k z.1 h2,if_true]
    · rw[(h5 v c).1]; exact h c
  | none =>
    rw[hj] at hg hf
    refine ⟨.any,.dM id (.map (dC key m ++ [(.val (key k),v,c)]) (c+1)),[id],?_,?_⟩
    · simp only[sI,bJ,oper,fY,hm,hx,hi,hy,hH,hf]
    · rw[(hg.2 v c).1]; exact h (c+1)
omit [BEq κ] in
theorem Ju {K:V→View→Prop} {w:cg (T,H,K)} {x:Operand} {id c:Nat} {m:cr κ} (hm:cY P t=some (kt,et)) (hx:ev T x=.mp id) (hH:H id=.map (dC key m) c) (h:K (al m.length) H) :
    nO P (.call { callee:=.builtin .len,args:=#[x],argTypes:=#[t] }) ty T H K w:=by
  intro n _
  have hu:∃ a b,P.underlying t=some (.map a b):=by
    unfold cY at hm
    split at hm
    · rename_i a b h1; exact ⟨a,b,h1⟩
    · simp at hm
  obtain ⟨a,b,hu⟩:=hu
  refine ⟨al m.length,.none,[id],?_,h⟩
  have hl:(dC key m).length=m.length:=by simp[dC]
  simp only[sI,bJ,oper,List.size_toArray,List.length_cons,List.length_nil,pV,hu,hx,hH,hl]
  simp[hu,hx,hH,hl,pV]
end
theorem oN {κ:Type} [BEq κ] [LawfulBEq κ] (k k':κ) (v:V) (c:Nat):∀ m:cr κ,getM (bM k v c m) k'=if k' == k then some v else getM m k'
  | []=>by
    by_cases h:k'=k
    · subst h; simp[bM,getM]
    · simp[bM,getM,h]
  | x :: r=>by
    have ih:=oN k k' v c r
    simp only[bM]
    by_cases hk:k=x.1
    · by_cases h:k'=k
      · subst h; simp[hk,getM]
      · have:¬ k'=x.1:=fun e=>h (e.trans hk.symm)
        simp[hk,getM,this]
    · simp only[beq_iff_eq,hk,if_false]
      by_cases h:k'=x.1
      · have:¬ k'=k:=fun e=>hk (e.symm.trans h)
        simp[getM,h]
        subst h
        simp[this]
      · simp only[getM,List.find?_cons,beq_eq_false_iff_ne.2 h] at ih ⊢
        exact ih
def cX {κ β:Type} [BEq κ] (a:List (κ × β)) (k:κ):Option β:=(a.find? fun x=>k == x.1).map (·.2)
def gD {κ β:Type} [BEq κ] (k:κ) (v:β):List (κ × β)→List (κ × β)
  | []=>[(k,v)]
  | x :: r=>if k == x.1 then (k,v) :: r else x :: gD k v r
def kp {κ β:Type} (encV:β→V):List (κ × β)→cr κ→Prop
  | [],[]=>True
  | x :: a,y :: m=>y.1=x.1∧y.2.1=encV x.2∧kp encV a m
  | _,_=>False
theorem kp.get {κ β:Type} [BEq κ] {encV:β→V} (k:κ):∀ {a:List (κ × β)} {m:cr κ},kp encV a m→getM m k=(cX a k).map encV
  | [],[],_=>rfl
  | x :: a,y :: m,⟨h1,h2,h3⟩=>by
    have ih:=kp.get k h3
    simp only[getM,cX,List.find?_cons,h1] at ih ⊢
    cases k == x.1 with
    | true=>simp[h2]
    | false=>simpa using ih
theorem kp.put {κ β:Type} [BEq κ] {encV:β→V} (k:κ) (v:β) (c:Nat):∀ {a:List (κ × β)} {m:cr κ},kp encV a m→kp encV (gD k v a) (bM k (encV v) c m)
  | [],[],_=>⟨rfl,rfl,trivial⟩
  | x :: a,y :: m,⟨h1,h2,h3⟩=>by
    have ih:=kp.put k v c h3
    simp only[gD,bM,h1]
    cases k == x.1 with
    | true=>exact ⟨rfl,rfl,h3⟩
    | false=>exact ⟨h1,h2,ih⟩
theorem kp.len {κ β:Type} {encV:β→V} : ∀ {a:List (κ × β)} {m:cr κ},kp encV a m→m.length=a.length
  | [],[],_=>rfl
  | x :: a,y :: m,⟨_,_,h3⟩=>by simp[kp.len h3]
theorem An {κ β:Type} [BEq κ] [LawfulBEq κ] (k k':κ) (v:β):∀ a:List (κ × β),cX (gD k v a) k'=if k' == k then some v else cX a k'
  | []=>by
    by_cases h:k'=k
    · subst h; simp[gD,cX]
    · simp[gD,cX,h]
  | x :: r=>by
    have ih:=An k k' v r
    simp only[gD]
    by_cases hk:k=x.1
    · by_cases h:k'=k
      · subst h; simp[hk,cX]
      · have:¬ k'=x.1:=fun e=>h (e.trans hk.symm)
        simp[hk,cX,this]
    · simp only[beq_iff_eq,hk,if_false]
      by_cases h:k'=x.1
      · have:¬ k'=k:=fun e=>hk (e.symm.trans h)
        simp[cX,h]
        subst h
        simp[this]
      · simp only[cX,List.find?_cons,beq_eq_false_iff_ne.2 h] at ih ⊢
        exact ih
def zw (n k:Nat) (J:Nat→Env→View→Prop) (T:Env) (H:View):Prop:=∃ i,i+k=n∧J i T H
theorem bm.up {P:Program} {T:Env} {H:View} {c:SC} {Q:Exit→Env→View→Prop} {v:cg (T,H,Q)} (n:Nat) (J:Nat→Env→View→Prop) (h0:J 0 T H)
    (hs:∀ i k T H,i+k=n→J i T H→wS P c T H fun e T' H'=>wN e (∃ k',k' < k∧zw n k' J T' H') (Q e T' H')):bm P c T H Q v :=
  bm.intro (fun k T H=>zw n k J T H) n ⟨0,by omega,h0⟩ fun k T H ⟨i,hk,hj⟩=>hs i k T H hk hj
theorem aP {n i k:Nat} {J:Nat→Env→View→Prop} {T:Env} {H:View} (hk:i+k=n) (hlt:i < n) (hJ:J (i+1) T H):∃ k',k' < k∧zw n k' J T H:=⟨k - 1,by omega,i+1,by omega,hJ⟩
end Gv
