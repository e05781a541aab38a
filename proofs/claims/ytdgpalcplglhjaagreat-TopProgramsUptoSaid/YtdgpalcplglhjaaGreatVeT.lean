/- The tables: made by my program. -/
import Derived.Test.YtdgpalcplglhjaaGreatVeM
import Derived.Test.YtdgpalcplglhjaaGreatVeN
import Derived.KernelRfl
set_option linter.all false
set_option linter.unusedSectionVars false
namespace Ve
open Go Ve.Ab
abbrev iZ:V:=.lit (.int .i64 0)
def y1:TI:=⟨1,8,.lit .nilFunc,.scalar,false,none,false,[]⟩
def y2:TI:=⟨1,8,iZ,.scalar,false,some .i64,false,[]⟩
def y3:TI:=⟨1,8,iZ,.scalar,false,some .i64,false,[]⟩
def y4:TI:=⟨1,1,.lit (.bool false),.scalar,false,none,true,[]⟩
def y5:TI:=⟨1,1,.lit (.int .u8 0),.scalar,false,some .u8,false,[]⟩
def y6:TI:=⟨1,1,.lit (.int .u8 0),.scalar,false,some .u8,false,[]⟩
def y7:TI:=⟨4,24,.agg [iZ,iZ,.lit (.bool false),.lit (.int .u8 0)],.struct [(0,1),(1,1),(2,1),(3,1)],false,none,false,[2,3,4,6]⟩
def y8:TI:=⟨4,24,.agg [iZ,iZ,.lit (.bool false),.lit (.int .u8 0)],.struct [(0,1),(1,1),(2,1),(3,1)],false,none,false,[2,3,4,6]⟩
def y9:TI:=⟨1,16,.lit (.string ⟨#[]⟩),.scalar,false,none,false,[]⟩
def y10:TI:=⟨1,16,.lit (.string ⟨#[]⟩),.scalar,false,none,false,[]⟩
def y11:TI:=⟨1,16,.lit (.string ⟨#[]⟩),.scalar,false,none,false,[]⟩
def y12:TI:=⟨1,8,.lit (.int .u64 0),.scalar,false,some .u64,false,[]⟩
def y13:TI:=⟨2,24,.agg [.lit (.string ⟨#[]⟩),.lit (.int .u64 0)],.struct [(0,1),(1,1)],false,none,false,[9,12]⟩
def y22:TI:=⟨1,24,.own 1 [],.sl 3,false,none,false,[]⟩
def y24:TI:=⟨1,24,.own 3 [],.sl 33,false,none,false,[]⟩
def y25:TI:=⟨4,96,.agg [.own 3 [],.own 3 [],.own 3 [],.own 3 []],.arr 4 24,false,none,false,[]⟩
def y26:TI:=⟨4,32,.agg [iZ,iZ,iZ,iZ],.arr 4 3,true,none,false,[]⟩
def y27:TI:=⟨1,24,.own 17 [],.sl 38,false,none,false,[]⟩
def y28:TI:=⟨1,24,.own 4 [],.sl 71,false,none,false,[]⟩
def y30:TI:=⟨11,184,.agg [.own 3 [],.own 3 [],.own 3 [],.own 3 [],iZ,iZ,iZ,iZ,iZ,.own 17 [],.own 4 []],.struct [(0,4),(4,4),(8,1),(9,1),(10,1)],false,none,false,[25,26,3,27,28]⟩
def y33:TI:=⟨3,24,.agg [iZ,iZ,iZ],.struct [(0,1),(1,1),(2,1)],true,none,false,[3,3,3]⟩
def y34:TI:=⟨1,24,.own 4 [],.sl 40,false,none,false,[]⟩
def y35:TI:=⟨1,24,.own 3 [],.sl 148,false,none,false,[]⟩
def y36:TI:=⟨1,24,.own 3 [],.sl 114,false,none,false,[]⟩
def y38:TI:=⟨17,184,.agg [iZ,iZ,iZ,.own 4 [],iZ,iZ,iZ,iZ,iZ,iZ,.own 3 [],.own 3 [],iZ,iZ,iZ,iZ,iZ],.struct [(0,1),(1,1),(2,1),(3,1),(4,1),(5,1),(6,4),(10,1),(11,1),(12,1),(13,1),(14,1),(15,1),(16,1)],false,none,false,[3,3,3,34,3,3,26,35,36,3,3,3,3,3]⟩
def y40:TI:=⟨4,32,.agg [iZ,iZ,iZ,iZ],.struct [(0,1),(1,1),(2,1),(3,1)],true,none,false,[3,3,3,3]⟩
def y41:TI:=⟨1,8,iZ,.scalar,false,some .i64,false,[]⟩
def y50:TI:=⟨4,96,.agg [.own 1 [],.own 1 [],.own 1 [],.own 1 []],.arr 4 22,false,none,false,[]⟩
def y51:TI:=⟨1,24,.own 4 [],.sl 62,false,none,false,[]⟩
def y52:TI:=⟨1,24,.own 2 [],.sl 86,false,none,false,[]⟩
def y54:TI:=⟨7,152,.agg [.own 1 [],.own 1 [],.own 1 [],.own 1 [],iZ,.own 4 [],.own 2 []],.struct [(0,4),(4,1),(5,1),(6,1)],false,none,false,[50,3,51,52]⟩
def y58:TI:=⟨1,8,.lit (.int .u64 0),.scalar,false,some .u64,false,[]⟩
def y62:TI:=⟨4,48,.agg [iZ,iZ,iZ,.own 4 []],.struct [(0,1),(1,1),(2,1),(3,1)],false,none,false,[3,3,3,34]⟩
def y71:TI:=⟨4,32,.agg [iZ,iZ,iZ,iZ],.struct [(0,1),(1,1),(2,1),(3,1)],true,none,false,[3,3,3,3]⟩
def y73:TI:=⟨1,8,.lit (.pointer none),.scalar,false,none,false,[]⟩
def y74:TI:=⟨1,8,.lit (.pointer none),.scalar,false,none,false,[]⟩
def y86:TI:=⟨2,16,.agg [iZ,iZ],.struct [(0,1),(1,1)],true,none,false,[3,3]⟩
def y93:TI:=⟨1,24,.own 1 [],.sl 5,false,none,false,[]⟩
def XC:TI:=⟨3,24,.agg [iZ,iZ,iZ],.struct [(0,1),(1,1),(2,1)],true,none,false,[3,3,3]⟩
def gS:TI:=⟨12,192,.agg [.own 3 [],.own 3 [],.own 3 [],.own 3 [],iZ,iZ,iZ,iZ,iZ,.own 17 [],.own 4 [],iZ],.struct [(0,11),(11,1)],false,none,false,[30,3]⟩
def gR:TI:=⟨1,8,.lit .nilFunc,.scalar,false,none,false,[]⟩
def gQ:TI:=⟨1,8,.lit .nilFunc,.scalar,false,none,false,[]⟩
def Zn:TI:=⟨3,24,.agg [iZ,iZ,iZ],.struct [(0,1),(1,1),(2,1)],true,none,false,[3,3,3]⟩
def gO:TI:=⟨1,8,.lit .nilFunc,.scalar,false,none,false,[]⟩
def gK:TI:=⟨1,8,.lit (.pointer none),.scalar,false,none,false,[]⟩
def gJ:TI:=⟨1,8,.lit .nilFunc,.scalar,false,none,false,[]⟩
def gH:TI:=⟨1,8,.lit .nilFunc,.scalar,false,none,false,[]⟩
def gG:TI:=⟨1,8,.lit (.pointer none),.scalar,false,none,false,[]⟩
def gF:TI:=⟨1,8,.agg [.lit (.pointer none)],.struct [(0,1)],false,none,false,[172]⟩
def gE:TI:=⟨1,8,.lit .nilFunc,.scalar,false,none,false,[]⟩
def gB:TI:=⟨1,8,.lit .nilFunc,.scalar,false,none,false,[]⟩
def gA:TI:=⟨1,8,.lit .nilFunc,.scalar,false,none,false,[]⟩
def fZ:TI:=⟨1,16,.lit (.complex .f64 0 0),.scalar,false,none,false,[]⟩
def fY:TI:=⟨1,8,.lit (.float .f64 0),.scalar,false,none,false,[]⟩
def sU:List (Nat × TI):=[(1,y1),(2,y2),(3,y3),(4,y4),(5,y5),(6,y6),(7,y7),(8,y8),(9,y9),(10,y10),(11,y11),(12,y12),(13,y13),(22,y22),(24,y24),(25,y25),(26,y26),(27,y27),(28,y28),(30,y30),(33,y33),(34,y34),(35,y35),(36,y36),(38,y38),(40,y40),(41,y41),(50,y50),(51,y51),(52,y52),(54,y54),(58,y58),(62,y62),(71,y71),(73,y73),(74,y74),(86,y86),(93,y93),(114,XC),(129,gS),(131,gR),(137,gQ),(148,Zn),(163,gO),(167,gK),(169,gJ),(171,gH),(172,gG),(174,gF),(186,gE),(188,gB),(204,gA),(221,fZ),(222,fY)]
def lay:Lay:=lk sU
def Rz:IR:=(S (S (R [z 32 (mv 8),z 33 (mv 4),z 34 (bo .lss (t 32) (t 33))])
(.cond (t 34)
.skip
(.exit 0 [3,4,5,6,7])))
(S (.block 1 (S (R [z 37 (mv 0),z 38 (mv 8),o 39 (ia 22 37 38),o 40 (ld 3 39),z 41 (bo .and (t 40) (n 3)),z 9 (av 41)])
(S (R [z 42 (mv 5),z 43 (mv 9),z 44 (.build 40 #[(0,(.const (.int .i64 2))),(2,(.tmp 43))]),z 45 (.buildSlice 34 1 #[(0,(.tmp 44))]),z 46 (.call { callee:=(.builtin .append),args:=#[(.tmp 42),(.tmp 45)],argTypes:=#[34,34] }),z 5 (av 46)])
(S (S (R [z 47 (mv 6),z 48 (mv 9),z 49 (bo .or (t 47) (t 48)),z 50 (mv 6),z 51 (bo .neq (t 49) (t 50))])
(.cond (t 51)
(R [z 52 (mv 7),z 53 (bo .add (t 52) (n 1)),z 7 (av 53)])
.skip))
(R [z 54 (mv 6),z 55 (mv 9),z 56 (bo .or (t 54) (t 55)),z 6 (av 56)])))))
(R [z 35 (mv 8),z 36 (bo .add (t 35) (n 1)),z 8 (av 36)])))
def Oc:IR:=(S (S (R [z 62 (mv 11),z 63 (mv 4),z 64 (bo .mul (n 2) (t 63)),z 65 (bo .lss (t 62) (t 64))])
(.cond (t 65)
.skip
(.exit 2 [3,6,7,10])))
(S (.block 3 (S (R [o 69 (ld 30 3),z 70 (cl 7 #[(t 69),(n 1)] #[30,3]),z 68 (mv 70),z 71 (xt 68 0),z 72 (xt 68 1),z 12 (av 71),z 13 (av 72)])
(S (S (R [z 73 (mv 13),z 74 (cl 8 #[(t 73)] #[41]),z 75 (bo .eql (t 74) (n 0)),z 76 (mv 75),zT 77 (mv 12) 76,z 78 (.pick (.tmp 76) (.tmp 77) (.const (.bool false)))])
(.cond (t 78)
(S (R [o 80 (ld 30 3),z 81 (cl 9 #[(t 80),(n 1)] #[30,3]),z 79 (mv 81),z 82 (xt 79 0),z 83 (xt 79 1),z 14 (al 30),⟨none,st 30 14 82,none,true⟩,z 15 (av 83)])
(S (S (R [z 84 (mv 15),z 85 (cl 8 #[(t 84)] #[41]),z 86 (bo .neq (t 85) (n 0)),z 87 (mv 86),zF 88 (fa 30 14 3) 87,oF 89 (ld 27 88) 87,zF 90 (len 89 27) 87,zF 91 (bo .neq (t 90) (n 2)) 87,z 92 (.pick (.tmp 87) (.const (.bool true)) (.tmp 91))])
(.cond (t 92)
(S (R [z 2 (ab false)])
(.ret [2]))
.skip))
(S (R [o 93 (ld 30 14),⟨none,st 30 3 93,none,true⟩])
(S (R [z 94 (mv 10),z 95 (bo .add (t 94) (n 1)),z 10 (av 95)])
(.exit 3 [3,4,6,7,10,11])))))
.skip))
(S (R [o 97 (ld 30 3),z 98 (cl 10 #[(t 97),(n 1)] #[30,3]),z 96 (mv 98),z 99 (xt 96 0),z 100 (xt 96 1),z 16 (al 30),⟨none,st 30 16 99,none,true⟩,z 17 (av 100)])
(S (S (R [z 101 (mv 17),z 102 (bo .neq (t 101) (n 0)),z 103 (mv 102),zF 104 (fa 30 16 3) 103,oF 105 (ld 27 104) 103,zF 106 (len 105 27) 103,zF 107 (bo .neq (t 106) (n 2)) 103,z 108 (.pick (.tmp 103) (.const (.bool true)) (.tmp 107))])
(.cond (t 108)
(S (R [z 2 (ab false)])
(.ret [2]))
.skip))
(S (R [o 109 (ld 30 16),⟨none,st 30 3 109,none,true⟩])
(S (R [z 110 (fa 30 3 3),o 111 (ld 27 110),o 112 (.indexAddr 27 (.tmp 111) (.const (.int .i64 1))),z 113 (fa 38 112 5),o 114 (ld 3 113),z 115 (mv 4),z 116 (bo .geq (t 114) (t 115))])
(.cond (t 116)
(.exit 2 [3,6,7,10])
.skip))))))))
(R [z 66 (mv 11),z 67 (bo .add (t 66) (n 1)),z 11 (av 67)])))
def c3:IR:=(S (R [z 2 (ab false)])
(S (S (R [z 18 (cl 5 #[] #[]),z 19 (.unOp .not 4 (.tmp 18))])
(.cond (t 19)
(S (R [z 2 (ab false)])
(.ret [2]))
.skip))
(S (R [o 20 (cl 6 #[(n 3)] #[3]),z 3 (al 30),⟨none,st 30 3 20,none,true⟩])
(S (R [z 21 (.build 33 #[(0,(.const (.int .i64 1)))]),z 22 (.buildSlice 24 1 #[(0,(.tmp 21))]),z 23 (fa 30 3 0),o 24 (.indexAddr 25 (.tmp 23) (.const (.int .i64 2))),⟨none,st 24 24 22,none,true⟩])
(S (R [z 25 (fa 30 3 3),o 26 (ld 27 25),o 27 (.indexAddr 27 (.tmp 26) (.const (.int .i64 1))),z 28 (fa 38 27 1),⟨none,.store 3 (.tmp 28) (.const (.int .i64 0)),none,true⟩])
(S (R [z 29 (mv 0),z 30 (len 29 22),z 31 (.call { callee:=(.builtin .min),args:=#[(.tmp 30),(.const (.int .i64 10))],argTypes:=#[3,3] }),z 4 (av 31)])
(S (R [z 5 (.assign (.const (.slice none 0 0)))])
(S (R [z 6 (an 0),z 7 (an 0)])
(S (S (R [z 8 (an 0)])
(.block 0 (.loop [0,3,4,5,6,7,8] Rz)))
(S (R [z 57 (fa 30 3 3),o 58 (ld 27 57),z 59 (mv 5),o 60 (.indexAddr 27 (.tmp 58) (.const (.int .i64 1))),z 61 (fa 38 60 3),⟨none,st 34 61 59,none,true⟩])
(S (R [z 10 (an 0)])
(S (S (R [z 11 (an 0)])
(.block 2 (.loop [3,4,6,7,10,11] Oc)))
(S (R [z 117 (mv 10),z 118 (mv 7),z 119 (bo .eql (t 117) (t 118)),z 120 (mv 119),zT 121 (mv 10) 120,zT 122 (bo .leq (t 121) (n 2)) 120,z 123 (.pick (.tmp 120) (.tmp 122) (.const (.bool false))),z 124 (mv 123),zT 125 (fa 30 3 3) 124,oT 126 (ld 27 125) 124,oT 127 (.indexAddr 27 (.tmp 126) (.const (.int .i64 1))) 124,zT 128 (fa 38 127 1) 124,oT 129 (ld 3 128) 124,zT 130 (mv 6) 124,zT 131 (bo .eql (t 129) (t 130)) 124,z 132 (.pick (.tmp 124) (.tmp 131) (.const (.bool false))),z 2 (av 132)])
(.ret [2]))))))))))))))
def g3:IFn:=⟨133,[.tmp 2],[4],c3,[],false,none⟩
def c4:IR:=(S (R [z 2 (bx 54 0),z 4 (ab false)])
(S (S (R [z 15 (cl 11 #[] #[]),z 16 (.unOp .not 4 (.tmp 15))])
(.cond (t 16)
(S (R [z 4 (ab false)])
(.ret [4]))
.skip))
(S (R [o 18 (ld 54 2),z 19 (cl 12 #[(t 18)] #[54]),z 17 (mv 19),z 20 (xt 17 0),z 21 (xt 17 1),z 5 (al 30),⟨none,st 30 5 20,none,true⟩,z 6 (av 21)])
(S (S (R [z 22 (mv 6),z 23 (cl 8 #[(t 22)] #[41]),z 24 (bo .neq (t 23) (n 0)),z 25 (mv 24),zF 26 (fa 54 2 2) 25,oF 27 (ld 51 26) 25,zF 28 (len 27 51) 25,zF 29 (bo .eql (t 28) (n 0)) 25,z 30 (.pick (.tmp 25) (.const (.bool true)) (.tmp 29))])
(.cond (t 30)
(S (R [z 31 (mv 6),z 32 (cl 8 #[(t 31)] #[41]),z 33 (bo .eql (t 32) (n 0)),z 34 (mv 33),oF 35 (ld 30 5) 34,zF 36 (.build 30 #[]) 34,zF 37 (cl 13 #[(t 35),(t 36)] #[30,30]) 34,z 38 (.pick (.tmp 34) (.const (.bool true)) (.tmp 37)),z 4 (av 38)])
(.ret [4]))
.skip))
(S (R [o 39 (ld 54 2),o 40 (cl 14 #[(t 39)] #[54]),z 7 (al 54),⟨none,st 54 7 40,none,true⟩])
(S (R [z 41 (mv 1),o 42 (.convert 3 58 (.tmp 41)),z 43 (fa 54 2 2),o 44 (ld 51 43),z 45 (len 44 51),o 46 (.convert 3 58 (.tmp 45)),z 47 (.binOp .rem 58 (.tmp 42) (.tmp 46) 58),o 48 (.convert 58 3 (.tmp 47)),z 8 (av 48)])
(S (R [z 50 (fa 54 2 2),o 51 (ld 51 50),z 52 (mv 8),o 53 (ia 51 51 52),z 54 (fa 62 53 3),o 55 (ld 34 54),z 56 (cl 15 #[(t 55)] #[34]),z 49 (mv 56),z 57 (xt 49 0),z 58 (xt 49 1),z 9 (av 57),z 10 (av 58)])
(S (R [z 60 (mv 9),o 61 (cl 16 #[(t 60)] #[9]),z 59 (mv 61),z 62 (xt 59 0),z 63 (xt 59 1),z 11 (av 62),z 12 (av 63)])
(S (R [z 64 (fa 54 7 2),o 65 (ld 51 64),z 66 (mv 8),z 67 (mv 11),o 68 (ia 51 65 66),z 69 (fa 62 68 3),⟨none,st 34 69 67,none,true⟩])
(S (R [o 71 (ld 54 7),z 72 (cl 12 #[(t 71)] #[54]),z 70 (mv 72),z 73 (xt 70 0),z 74 (xt 70 1),z 13 (al 30),⟨none,st 30 13 73,none,true⟩,z 14 (av 74)])
(S (R [z 75 (mv 10),z 76 (cl 8 #[(t 75)] #[41]),z 77 (bo .eql (t 76) (n 0)),z 78 (mv 77),zT 79 (mv 12) 78,zT 80 (cl 8 #[(t 79)] #[41]) 78,zT 81 (bo .eql (t 80) (n 0)) 78,z 82 (.pick (.tmp 78) (.tmp 81) (.const (.bool false))),z 83 (mv 82),zT 84 (mv 14) 83,zT 85 (cl 8 #[(t 84)] #[41]) 83,zT 86 (bo .eql (t 85) (n 0)) 83,z 87 (.pick (.tmp 83) (.tmp 86) (.const (.bool false))),z 88 (mv 87),oT 89 (ld 30 13) 88,oT 90 (ld 30 5) 88,zT 91 (cl 13 #[(t 89),(t 90)] #[30,30]) 88,z 92 (.pick (.tmp 88) (.tmp 91) (.const (.bool false))),z 93 (mv 92),zT 94 (fa 54 7 2) 93,oT 95 (ld 51 94) 93,zT 96 (mv 8) 93,oT 97 (ia 51 95 96) 93,oT 98 (ld 62 97) 93,zT 99 (cl 17 #[(t 98)] #[62]) 93,z 100 (.pick (.tmp 93) (.tmp 99) (.const (.bool false))),z 4 (av 100)])
(.ret [4]))))))))))))
def g4:IFn:=⟨101,[.tmp 4],[4],c4,[],false,none⟩
def c5:IR:=(S (R [z 0 (ab false)])
(S (R [z 14 (cl 6 #[(n 3)] #[3]),z 15 (cl 7 #[(t 14),(n 1)] #[30,3]),z 13 (mv 15),z 16 (xt 13 0),z 17 (xt 13 1),z 1 (av 16),z 2 (av 17)])
(S (R [z 19 (cl 18 #[] #[]),z 20 (cl 7 #[(t 19),(n 1)] #[30,3]),z 18 (mv 20),z 21 (xt 18 0),z 22 (xt 18 1),z 3 (av 21),z 4 (av 22)])
(S (R [z 24 (cl 6 #[(n 3)] #[3]),z 25 (cl 9 #[(t 24),(n 1)] #[30,3]),z 23 (mv 25),z 26 (xt 23 0),z 27 (xt 23 1),z 5 (al 30),⟨none,st 30 5 26,none,true⟩,z 6 (av 27)])
(S (R [z 29 (cl 6 #[(n 1)] #[3]),z 30 (cl 9 #[(t 29),(n 1)] #[30,3]),z 28 (mv 30),z 31 (xt 28 0),z 32 (xt 28 1),z 7 (al 30),⟨none,st 30 7 31,none,true⟩,z 8 (av 32)])
(S (R [z 34 (cl 18 #[] #[]),z 35 (cl 9 #[(t 34),(n 1)] #[30,3]),z 33 (mv 35),z 36 (xt 33 0),z 37 (xt 33 1),z 9 (al 30),⟨none,st 30 9 36,none,true⟩,z 10 (av 37)])
(S (R [z 39 (cl 19 #[(n 0),(n 1)] #[3,3]),z 40 (cl 7 #[(t 39),(n 0)] #[30,3]),z 38 (mv 40),z 41 (xt 38 0),z 42 (xt 38 1),z 11 (av 41),z 12 (av 42)])
(S (S (R [z 43 (fa 30 5 3),o 44 (ld 27 43),z 45 (len 44 27),z 46 (bo .neq (t 45) (n 2)),z 47 (mv 46),zF 48 (fa 30 7 3) 47,oF 49 (ld 27 48) 47,zF 50 (len 49 27) 47,zF 51 (bo .neq (t 50) (n 2)) 47,z 52 (.pick (.tmp 47) (.const (.bool true)) (.tmp 51))])
(.cond (t 52)
(S (R [z 0 (ab false)])
(.ret [0]))
.skip))
(S (R [z 53 (mv 1),z 54 (mv 53),zT 55 (mv 2) 54,zT 56 (cl 8 #[(t 55)] #[41]) 54,zT 57 (bo .eql (t 56) (n 0)) 54,z 58 (.pick (.tmp 54) (.tmp 57) (.const (.bool false))),z 59 (mv 58),zT 60 (mv 3) 59,zT 61 (.unOp .not 4 (.tmp 60)) 59,z 62 (.pick (.tmp 59) (.tmp 61) (.const (.bool false))),z 63 (mv 62),zT 64 (mv 4) 63,zT 65 (cl 8 #[(t 64)] #[41]) 63,zT 66 (bo .eql (t 65) (n 0)) 63,z 67 (.pick (.tmp 63) (.tmp 66) (.const (.bool false))),z 68 (mv 67),zT 69 (fa 30 5 3) 68,oT 70 (ld 27 69) 68,oT 71 (.indexAddr 27 (.tmp 70) (.const (.int .i64 1))) 68,zT 72 (fa 38 71 1) 68,oT 73 (ld 3 72) 68,zT 74 (bo .eql (t 73) (n 3)) 68,z 75 (.pick (.tmp 68) (.tmp 74) (.const (.bool false))),z 76 (mv 75),zT 77 (fa 30 5 4) 76,oT 78 (ld 28 77) 76,zT 79 (.build 71 #[(0,(.const (.int .i64 5))),(1,(.const (.int .i64 1))),(2,(.const (.int .i64 2))),(3,(.const (.int .i64 3)))]) 76,zT 80 (.buildSlice 28 1 #[(0,(.tmp 79))]) 76,zT 81 (cl 20 #[(t 78),(t 80)] #[28,28]) 76,z 82 (.pick (.tmp 76) (.tmp 81) (.const (.bool false))),z 83 (mv 82),zT 84 (mv 6) 83,zT 85 (cl 8 #[(t 84)] #[41]) 83,zT 86 (bo .eql (t 85) (n 0)) 83,z 87 (.pick (.tmp 83) (.tmp 86) (.const (.bool false))),z 88 (mv 87),zT 89 (fa 30 7 3) 88,oT 90 (ld 27 89) 88,oT 91 (.indexAddr 27 (.tmp 90) (.const (.int .i64 1))) 88,zT 92 (fa 38 91 12) 88,oT 93 (ld 3 92) 88,zT 94 (bo .eql (t 93) (n 4)) 88,z 95 (.pick (.tmp 88) (.tmp 94) (.const (.bool false))),z 96 (mv 95),zT 97 (mv 8) 96,zT 98 (cl 8 #[(t 97)] #[41]) 96,zT 99 (bo .eql (t 98) (n 0)) 96,z 100 (.pick (.tmp 96) (.tmp 99) (.const (.bool false))),z 101 (mv 100),zT 102 (mv 10) 101,zT 103 (cl 8 #[(t 102)] #[41]) 101,zT 104 (bo .eql (t 103) (n 1400)) 101,z 105 (.pick (.tmp 101) (.tmp 104) (.const (.bool false))),z 106 (mv 105),zT 107 (mv 12) 106,zT 108 (cl 8 #[(t 107)] #[41]) 106,zT 109 (bo .eql (t 108) (n 1400)) 106,z 110 (.pick (.tmp 106) (.tmp 109) (.const (.bool false))),z 0 (av 110)])
(.ret [0]))))))))))
def g5:IFn:=⟨111,[.tmp 0],[4],c5,[],false,none⟩
def c6:IR:=(S (R [o 2 (al 30)])
(S (R [o 4 (cl 18 #[] #[]),o 3 (al 30),w (st 30 3 4)])
(S (R [o 5 (fa 30 3 3),o 6 (ld 27 5),o 7 (.build 40 #[(0,(.const (.int .i64 2))),(2,(.const (.int .i64 3)))]),o 8 (.buildSlice 34 1 #[(0,(.tmp 7))]),o 9 (.indexAddr 27 (.tmp 6) (.const (.int .i64 1))),o 10 (fa 38 9 3),w (st 34 10 8)])
(S (R [o 11 (fa 30 3 3),o 12 (ld 27 11),o 13 (mv 0),o 14 (.indexAddr 27 (.tmp 12) (.const (.int .i64 1))),o 15 (fa 38 14 2),w (st 3 15 13)])
(S (R [o 16 (ld 30 3),w (st 30 2 16)])
(.ret [2]))))))
def g6:IFn:=⟨17,[.cell 2 30],[30],c6,[],false,none⟩
def nF:IR:=D [o 15 (mv 6),o 16 (nc 15),o 17 (fa 38 16 3),o 18 (ld 34 17),o 19 (mv 6),o 20 (nc 19),o 21 (fa 38 20 5),o 22 (ld 3 21),o 23 (ia 34 18 22),o 24 (fa 40 23 2),o 25 (ld 3 24),o 26 (mv 6),o 27 (nc 26),o 28 (fa 38 27 1),o 29 (ld 3 28),o 30 (cl 22 #[(t 25),(t 29)] #[3,3]),o 31 (.unOp .not 4 (.tmp 30)),o 4 (av 31),o 5 (an 0)] [[],[0],[1],[2],[],[4],[5],[6],[3,7],[8],[9],[],[11],[12],[13],[10,14],[15],[16,15,0,1,2,3,4,5,6,7,8,9,10,11,12,13,14,15,16],[17,0,1,2,3,4,5,6,7,8,9,10,11,12,13,14,15,16,17]]
def c7:IR:=(S (R [z 2 (bx 30 0),o 4 (ab false),o 5 (an 0)])
(S (S (R [o 7 (mv 1),o 8 (.buildSlice 22 1 #[(0,(.const (.int .i64 2)))]),o 9 (cl 21 #[(t 2),(t 7),(t 8)] #[73,3,22]),o 10 (.unOp .not 4 (.tmp 9))])
(.cond (t 10)
(S (R [o 4 (ab false),o 5 (an 1400)])
(.ret [4,5]))
.skip))
(S (R [o 11 (fa 30 2 3),o 12 (ld 27 11),o 13 (mv 1),o 14 (ia 27 12 13),o 6 (av 14)])
(S nF
(.ret [4,5])))))
def g7:IFn:=⟨32,[.tmp 4,.tmp 5],[4,41],c7,[],false,none⟩
def c8:IR:=(S (R [o 2 (an 0)])
(S (R [o 3 (mv 0),o 2 (av 3)])
(.ret [2])))
def g8:IFn:=⟨4,[.tmp 2],[3],c8,[],false,none⟩
def nE:IR:=D [o 30 (mv 8),o 31 (nc 30),o 32 (fa 38 31 1),o 33 (ld 3 32),o 34 (mv 8),o 35 (nc 34),o 36 (fa 38 35 3),o 37 (ld 34 36),o 38 (mv 8),o 39 (nc 38),o 40 (fa 38 39 5),o 41 (ld 3 40),o 42 (ia 34 37 41),o 43 (fa 40 42 2),o 44 (ld 3 43),o 45 (cl 23 #[(t 33),(t 44)] #[3,3]),o 29 (mv 45),o 46 (xt 29 0),o 47 (xt 29 1),o 9 (av 46),o 10 (av 47)] [[],[0],[1],[2],[],[4],[5],[6],[],[8],[9],[10],[7,11],[12],[13],[3,14],[15],[16],[16],[17,15,0,1,2,3,4,5,6,7,8,9,10,11,12,13,14,15,16,17],[18,19,0,1,2,3,4,5,6,7,8,9,10,11,12,13,14,15,16,17,18,19]]
def c9:IR:=(S (R [z 2 (bx 30 0),o 4 (al 30),o 5 (an 0)])
(S (S (R [o 13 (ld 30 2),o 14 (mv 1),o 15 (cl 7 #[(t 13),(t 14)] #[30,3]),o 12 (mv 15),o 16 (xt 12 0),o 17 (xt 12 1),o 6 (av 16),o 7 (av 17)])
(S (R [o 18 (mv 7),o 19 (.binOp .neq 41 (.tmp 18) (.const (.int .i64 0)) 41),o 20 (mv 19),oF 21 (mv 6) 20,oF 22 (.unOp .not 4 (.tmp 21)) 20,o 23 (.pick (.tmp 20) (.const (.bool true)) (.tmp 22))])
(.cond (t 23)
(S (R [o 24 (.build 30 #[]),w (st 30 4 24),o 5 (an 1400)])
(.ret [4,5]))
.skip)))
(S (R [o 25 (fa 30 2 3),o 26 (ld 27 25),o 27 (mv 1),o 28 (ia 27 26 27),o 8 (av 28)])
(S nE
(S (S (R [o 48 (mv 9),o 49 (mv 8),o 50 (nc 49),o 51 (fa 38 50 2),o 52 (ld 3 51),o 53 (cl 22 #[(t 48),(t 52)] #[3,3]),o 54 (.unOp .not 4 (.tmp 53))])
(.cond (t 54)
(S (R [o 55 (ld 30 2),o 56 (mv 1),o 57 (cl 24 #[(t 55),(t 56),(n 4),(n 0)] #[30,3,3,3]),o 58 (xt 57 0),o 59 (xt 57 1),w (st 30 4 58),o 5 (av 59)])
(.ret [4,5]))
.skip))
(S (R [o 60 (ld 30 2),o 61 (cl 25 #[(t 60)] #[30]),o 11 (al 30),w (st 30 11 61)])
(S (R [o 62 (mv 1),o 63 (mv 9),o 64 (cl 26 #[(t 11),(t 62),(n 2),(t 63)] #[73,3,3,3])])
(S (R [o 65 (fa 30 11 3),o 66 (ld 27 65),o 67 (mv 1),o 68 (mv 9),o 69 (ia 27 66 67),o 70 (fa 38 69 1),w (st 3 70 68)])
(S (R [o 71 (ld 30 11),w (st 30 4 71),o 5 (an 0)])
(.ret [4,5]))))))))))
def g9:IFn:=⟨72,[.cell 4 30,.tmp 5],[30,41],c9,[],false,none⟩
def c10:IR:=(S (R [z 2 (bx 30 0),o 4 (al 30),o 5 (an 0)])
(S (S (R [o 8 (ld 30 2),o 9 (mv 1),o 10 (cl 27 #[(t 8),(t 9)] #[30,3]),o 11 (.unOp .not 4 (.tmp 10))])
(.cond (t 11)
(S (R [o 12 (.build 30 #[]),w (st 30 4 12),o 5 (an 2300)])
(.ret [4,5]))
.skip))
(S (R [o 13 (ld 30 2),o 14 (cl 28 #[(t 13)] #[30]),o 6 (al 30),w (st 30 6 14),o 7 (an 0)])
(S (S (R [o 15 (fa 30 2 3),o 16 (ld 27 15),o 17 (mv 1),o 18 (ia 27 16 17),o 19 (fa 38 18 4),o 20 (ld 3 19)])
(.block 0 (S (R [o 22 (bo .eql (t 20) (n 0)),o 21 (av 22)])
(.cond (t 21)
(R [o 24 (ld 30 2),o 25 (mv 1),o 26 (cl 29 #[(t 24),(t 25)] #[30,3]),o 23 (mv 26),o 27 (xt 23 0),o 28 (xt 23 1),w (st 30 6 27),o 7 (av 28)])
(S (R [o 30 (bo .eql (t 20) (n 1)),o 29 (av 30)])
(.cond (t 29)
(R [o 32 (ld 30 2),o 33 (mv 1),o 34 (cl 30 #[(t 32),(t 33)] #[30,3]),o 31 (mv 34),o 35 (xt 31 0),o 36 (xt 31 1),w (st 30 6 35),o 7 (av 36)])
(S (R [o 38 (bo .eql (t 20) (n 2)),o 37 (av 38)])
(.cond (t 37)
(R [o 40 (ld 30 2),o 41 (mv 1),o 42 (cl 31 #[(t 40),(t 41)] #[30,3]),o 39 (mv 42),o 43 (xt 39 0),o 44 (xt 39 1),w (st 30 6 43),o 7 (av 44)])
(S (R [o 46 (bo .eql (t 20) (n 3)),o 45 (av 46)])
(.cond (t 45)
(R [o 48 (ld 30 2),o 49 (mv 1),o 50 (cl 32 #[(t 48),(t 49)] #[30,3]),o 47 (mv 50),o 51 (xt 47 0),o 52 (xt 47 1),w (st 30 6 51),o 7 (av 52)])
(S (R [o 54 (bo .eql (t 20) (n 4)),o 53 (av 54)])
(.cond (t 53)
(R [o 56 (ld 30 2),o 57 (mv 1),o 58 (cl 33 #[(t 56),(t 57)] #[30,3]),o 55 (mv 58),o 59 (xt 55 0),o 60 (xt 55 1),w (st 30 6 59),o 7 (av 60)])
(S (R [o 62 (bo .eql (t 20) (n 5)),o 61 (av 62)])
(.cond (t 61)
(R [o 64 (ld 30 2),o 65 (mv 1),o 66 (cl 34 #[(t 64),(t 65)] #[30,3]),o 63 (mv 66),o 67 (xt 63 0),o 68 (xt 63 1),w (st 30 6 67),o 7 (av 68)])
.skip))))))))))))))
(S (S (R [o 69 (mv 7),o 70 (bo .neq (t 69) (n 0))])
(.cond (t 70)
(S (R [o 71 (.build 30 #[]),w (st 30 4 71),o 5 (an 2300)])
(.ret [4,5]))
.skip))
(S (R [o 72 (ld 30 6),w (st 30 4 72),o 5 (an 0)])
(.ret [4,5])))))))
def g10:IFn:=⟨73,[.cell 4 30,.tmp 5],[30,3],c10,[],false,none⟩
def c11:IR:=(S (R [z 0 (ab false)])
(S (R [z 15 (cl 35 #[] #[]),z 16 (cl 12 #[(t 15)] #[54]),z 14 (mv 16),z 17 (xt 14 0),z 18 (xt 14 1),z 1 (al 30),⟨none,st 30 1 17,none,true⟩,z 2 (av 18)])
(S (R [z 20 (cl 36 #[(n 1),(n 3)] #[3,3]),z 19 (mv 20),z 21 (xt 19 0),z 22 (xt 19 1),z 3 (av 21),z 4 (av 22)])
(S (R [z 24 (cl 35 #[] #[]),z 25 (cl 37 #[(t 24)] #[54]),z 23 (mv 25),z 26 (xt 23 0),z 27 (xt 23 1),z 5 (al 30),⟨none,st 30 5 26,none,true⟩,z 6 (av 27)])
(S (R [o 29 (ld 30 5),z 30 (.build 86 #[]),z 31 (cl 38 #[(t 29),(t 30)] #[30,86]),z 28 (mv 31),z 32 (xt 28 0),z 33 (xt 28 1),z 7 (al 30),⟨none,st 30 7 32,none,true⟩,z 8 (av 33)])
(S (R [o 35 (ld 30 5),z 36 (cl 39 #[(t 35),(n 0)] #[30,3]),z 34 (mv 36),z 37 (xt 34 0),z 38 (xt 34 1),z 9 (al 30),⟨none,st 30 9 37,none,true⟩,z 10 (av 38)])
(S (R [o 40 (ld 30 5),z 41 (.build 86 #[(0,(.const (.int .i64 1)))]),z 42 (cl 40 #[(t 40),(t 41)] #[30,86]),z 39 (mv 42),z 43 (xt 39 0),z 44 (xt 39 1),z 45 (xt 39 2),z 11 (av 43),z 12 (av 44),z 13 (av 45)])
(S (S (R [z 46 (fa 30 1 0),o 47 (.indexAddr 25 (.tmp 46) (.const (.int .i64 0))),o 48 (ld 24 47),z 49 (len 48 24),z 50 (bo .neq (t 49) (n 1)),z 51 (mv 50),zF 52 (fa 30 7 3) 51,oF 53 (ld 27 52) 51,zF 54 (len 53 27) 51,zF 55 (bo .neq (t 54) (n 2)) 51,z 56 (.pick (.tmp 51) (.const (.bool true)) (.tmp 55))])
(.cond (t 56)
(S (R [z 0 (ab false)])
(.ret [0]))
.skip))
(S (R [z 57 (fa 30 1 0),o 58 (.indexAddr 25 (.tmp 57) (.const (.int .i64 0))),o 59 (ld 24 58),o 60 (.indexAddr 24 (.tmp 59) (.const (.int .i64 0))),o 61 (ld 33 60),z 62 (.build 33 #[(0,(.const (.int .i64 10))),(1,(.const (.int .i64 1)))]),z 63 (.binOp .eql 33 (.tmp 61) (.tmp 62) 33),z 64 (mv 63),zT 65 (mv 2) 64,zT 66 (cl 8 #[(t 65)] #[41]) 64,zT 67 (bo .eql (t 66) (n 0)) 64,z 68 (.pick (.tmp 64) (.tmp 67) (.const (.bool false))),z 69 (mv 68),zT 70 (mv 3) 69,z 71 (.pick (.tmp 69) (.tmp 70) (.const (.bool false))),z 72 (mv 71),zT 73 (mv 4) 72,zT 74 (cl 8 #[(t 73)] #[41]) 72,zT 75 (bo .eql (t 74) (n 0)) 72,z 76 (.pick (.tmp 72) (.tmp 75) (.const (.bool false))),z 77 (mv 76),zT 78 (mv 6) 77,zT 79 (cl 8 #[(t 78)] #[41]) 77,zT 80 (bo .eql (t 79) (n 0)) 77,z 81 (.pick (.tmp 77) (.tmp 80) (.const (.bool false))),z 82 (mv 81),zT 83 (fa 30 7 3) 82,oT 84 (ld 27 83) 82,oT 85 (.indexAddr 27 (.tmp 84) (.const (.int .i64 0))) 82,zT 86 (fa 38 85 5) 82,oT 87 (ld 3 86) 82,zT 88 (bo .eql (t 87) (n 1)) 82,z 89 (.pick (.tmp 82) (.tmp 88) (.const (.bool false))),z 90 (mv 89),zT 91 (mv 8) 90,zT 92 (cl 8 #[(t 91)] #[41]) 90,zT 93 (bo .eql (t 92) (n 0)) 90,z 94 (.pick (.tmp 90) (.tmp 93) (.const (.bool false))),z 95 (mv 94),oT 96 (ld 30 7) 95,oT 97 (ld 30 9) 95,zT 98 (cl 13 #[(t 96),(t 97)] #[30,30]) 95,z 99 (.pick (.tmp 95) (.tmp 98) (.const (.bool false))),z 100 (mv 99),zT 101 (mv 10) 100,zT 102 (cl 8 #[(t 101)] #[41]) 100,zT 103 (bo .eql (t 102) (n 0)) 100,z 104 (.pick (.tmp 100) (.tmp 103) (.const (.bool false))),z 105 (mv 104),zT 106 (mv 11) 105,zT 107 (bo .eql (t 106) (n 1)) 105,z 108 (.pick (.tmp 105) (.tmp 107) (.const (.bool false))),z 109 (mv 108),zT 110 (mv 12) 109,z 111 (.pick (.tmp 109) (.tmp 110) (.const (.bool false))),z 112 (mv 111),zT 113 (mv 13) 112,zT 114 (cl 8 #[(t 113)] #[41]) 112,zT 115 (bo .eql (t 114) (n 0)) 112,z 116 (.pick (.tmp 112) (.tmp 115) (.const (.bool false))),z 0 (av 116)])
(.ret [0]))))))))))
def g11:IFn:=⟨117,[.tmp 0],[4],c11,[],false,none⟩
def IS:IR:=(S (R [o 23 (bo .lss (t 22) (t 21))])
(S (.cond (t 23)
.skip
(.exit 0 [2,4]))
(S (.block 1 (S (R [o 24 (ia 52 20 22),o 25 (ld 86 24),o 7 (al 86),w (st 86 7 25)])
(S (R [o 27 (ld 30 4),o 28 (ld 86 7),o 29 (cl 38 #[(t 27),(t 28)] #[30,86]),o 26 (mv 29),o 30 (xt 26 0),o 31 (xt 26 1),o 8 (al 30),w (st 30 8 30),o 9 (av 31)])
(S (S (R [o 32 (mv 9),o 33 (.binOp .neq 41 (.tmp 32) (.const (.int .i64 0)) 41)])
(.cond (t 33)
(S (R [o 34 (.build 30 #[]),w (st 30 2 34),o 3 (an 2500)])
(.ret [2,3]))
.skip))
(R [o 35 (ld 30 8),w (st 30 4 35)])))))
(R [o 36 (bo .add (t 22) (n 1)),o 22 (mv 36)]))))
def c12:IR:=(S (R [z 1 (bx 54 0),o 2 (al 30),o 3 (an 0)])
(S (S (R [o 10 (ld 54 1),o 11 (cl 41 #[(t 10)] #[54]),o 12 (.unOp .not 4 (.tmp 11))])
(.cond (t 12)
(S (R [o 13 (.build 30 #[]),w (st 30 2 13),o 3 (an 2500)])
(.ret [2,3]))
.skip))
(S (R [o 15 (ld 54 1),o 16 (cl 37 #[(t 15)] #[54]),o 14 (mv 16),o 17 (xt 14 0),o 18 (xt 14 1),o 4 (al 30),w (st 30 4 17),o 5 (av 18)])
(S (S (R [o 19 (fa 54 1 3),o 20 (ld 52 19),o 21 (len 20 52),o 22 (.move (.const (.int .i64 0)))])
(.block 0 (.loop [2,4,20,21,22] IS)))
(S (R [o 37 (ld 30 4),w (st 30 2 37),o 3 (an 0)])
(.ret [2,3]))))))
def g12:IFn:=⟨38,[.cell 2 30,.tmp 3],[30,41],c12,[],false,none⟩
def Xu:IR:=D [o 50 (fa 30 2 3),o 51 (ld 27 50),o 52 (mv 5),o 53 (ia 27 51 52),o 54 (ld 38 53),o 55 (fa 30 3 3),o 56 (ld 27 55),o 57 (mv 5),o 58 (ia 27 56 57),o 59 (ld 38 58),o 60 (cl 43 #[(t 54),(t 59)] #[38,38]),o 61 (.unOp .not 4 (.tmp 60))] [[],[0],[],[1,2],[3],[],[5],[],[6,7],[8],[4,9],[10]]
def Pw:IR:=(S (S (R [o 43 (mv 5),o 44 (fa 30 2 3),o 45 (ld 27 44),o 46 (len 45 27),o 47 (bo .lss (t 43) (t 46))])
(.cond (t 47)
.skip
(.exit 0 [])))
(S (.block 1 (S Xu
(.cond (t 61)
(S (R [o 4 (ab false)])
(.ret [4]))
.skip)))
(R [o 48 (mv 5),o 49 (bo .add (t 48) (n 1)),o 5 (av 49)])))
def c13:IR:=(S (R [z 2 (bx 30 0),z 3 (bx 30 1),o 4 (ab false)])
(S (S (R [o 6 (fa 30 2 0),o 7 (ld 25 6),o 8 (fa 30 3 0),o 9 (ld 25 8),o 10 (cl 42 #[(t 7),(t 9)] #[25,25]),o 11 (.unOp .not 4 (.tmp 10)),o 12 (mv 11),oF 13 (fa 30 2 1) 12,oF 14 (ld 26 13) 12,oF 15 (fa 30 3 1) 12,oF 16 (ld 26 15) 12,oF 17 (.binOp .neq 26 (.tmp 14) (.tmp 16) 26) 12,o 18 (.pick (.tmp 12) (.const (.bool true)) (.tmp 17)),o 19 (mv 18),oF 20 (fa 30 2 2) 19,oF 21 (ld 3 20) 19,oF 22 (fa 30 3 2) 19,oF 23 (ld 3 22) 19,oF 24 (bo .neq (t 21) (t 23)) 19,o 25 (.pick (.tmp 19) (.const (.bool true)) (.tmp 24)),o 26 (mv 25),oF 27 (fa 30 2 3) 26,oF 28 (ld 27 27) 26,oF 29 (len 28 27) 26,oF 30 (fa 30 3 3) 26,oF 31 (ld 27 30) 26,oF 32 (len 31 27) 26,oF 33 (bo .neq (t 29) (t 32)) 26,o 34 (.pick (.tmp 26) (.const (.bool true)) (.tmp 33)),o 35 (mv 34),oF 36 (fa 30 2 4) 35,oF 37 (ld 28 36) 35,oF 38 (fa 30 3 4) 35,oF 39 (ld 28 38) 35,oF 40 (cl 20 #[(t 37),(t 39)] #[28,28]) 35,oF 41 (.unOp .not 4 (.tmp 40)) 35,o 42 (.pick (.tmp 35) (.const (.bool true)) (.tmp 41))])
(.cond (t 42)
(S (R [o 4 (ab false)])
(.ret [4]))
.skip))
(S (S (R [o 5 (an 0)])
(.block 0 (.loop [2,3,5] Pw)))
(S (R [o 4 (ab true)])
(.ret [4])))))
def g13:IFn:=⟨62,[.tmp 4],[4],c13,[],false,none⟩
def Xt:IR:=D [o 7 (fa 54 1 1),o 8 (ld 3 7),o 9 (.buildSlice 52 0 #[]),o 10 (fa 54 1 3),o 11 (ld 52 10),o 12 (.call { callee:=(.builtin .append),args:=#[(.tmp 9),(.tmp 11)],argTypes:=#[52,52] }),o 13 (.build 54 #[(1,(.tmp 8)),(3,(.tmp 12))]),o 3 (al 54),w (st 54 3 13)] [[],[0],[],[],[3],[2,4],[1,5],[],[7,6,5,0,1,2,3,4,5,6,7]]
def pJ:IR:=(S (S (R [o 14 (mv 4),o 15 (bo .lss (t 14) (n 4))])
(.cond (t 15)
.skip
(.exit 0 [1,2,3])))
(S (.block 1 (R [o 18 (mv 4),o 19 (.buildSlice 22 0 #[]),o 20 (mv 4),o 21 (fa 54 1 0),o 22 (ia 50 21 20),o 23 (ld 22 22),o 24 (.call { callee:=(.builtin .append),args:=#[(.tmp 19),(.tmp 23)],argTypes:=#[22,22] }),o 25 (fa 54 3 0),o 26 (ia 50 25 18),w (st 22 26 24)]))
(R [o 16 (mv 4),o 17 (bo .add (t 16) (n 1)),o 4 (av 17)])))
def TH:IR:=(S (S (R [o 27 (mv 5),o 28 (fa 54 1 2),o 29 (ld 51 28),o 30 (len 29 51),o 31 (bo .lss (t 27) (t 30))])
(.cond (t 31)
.skip
(.exit 2 [2,3])))
(S (.block 3 (S (R [o 34 (fa 54 1 2),o 35 (ld 51 34),o 36 (mv 5),o 37 (ia 51 35 36),o 38 (ld 62 37),o 6 (al 62),w (st 62 6 38)])
(S (R [o 39 (.buildSlice 34 0 #[]),o 40 (fa 62 6 3),o 41 (ld 34 40),o 42 (.call { callee:=(.builtin .append),args:=#[(.tmp 39),(.tmp 41)],argTypes:=#[34,34] }),o 43 (fa 62 6 3),w (st 34 43 42)])
(R [o 44 (fa 54 3 2),o 45 (ld 51 44),o 46 (ld 62 6),o 47 (.buildSlice 51 1 #[(0,(.tmp 46))]),o 48 (.call { callee:=(.builtin .append),args:=#[(.tmp 45),(.tmp 47)],argTypes:=#[51,51] }),o 49 (fa 54 3 2),w (st 51 49 48)]))))
(R [o 32 (mv 5),o 33 (bo .add (t 32) (n 1)),o 5 (av 33)])))
def c14:IR:=(S (R [z 1 (bx 54 0),o 2 (al 54)])
(S Xt
(S (S (R [o 4 (an 0)])
(.block 0 (.loop [1,2,3,4] pJ)))
(S (S (R [o 5 (an 0)])
(.block 2 (.loop [1,2,3,5] TH)))
(S (R [o 50 (ld 54 3),w (st 54 2 50)])
(.ret [2]))))))
def g14:IFn:=⟨51,[.cell 2 54],[54],c14,[],false,none⟩
def Pv:IR:=(S (R [o 20 (bo .lss (t 19) (t 18))])
(S (.cond (t 20)
.skip
(.exit 0 [4]))
(S (.block 1 (S (R [o 21 (ia 34 17 19),o 22 (ld 40 21),o 6 (al 40),w (st 40 6 22)])
(S (R [o 24 (ld 40 6),o 25 (cl 45 #[(t 24)] #[40]),o 23 (mv 25),o 26 (xt 23 0),o 27 (xt 23 1),o 7 (av 26),o 8 (av 27)])
(R [o 28 (mv 4),o 29 (mv 7),o 30 (.binOp .add 9 (.tmp 28) (.tmp 29) 9),o 4 (av 30)]))))
(R [o 31 (bo .add (t 19) (n 1)),o 19 (mv 31)]))))
def c15:IR:=(S (R [o 2 (.assign (.const (.string { data:=#[] }))),o 3 (an 0)])
(S (S (R [o 9 (mv 0),o 10 (cl 44 #[(t 9)] #[34]),o 11 (.unOp .not 4 (.tmp 10))])
(.cond (t 11)
(S (R [o 2 (.assign (.const (.string { data:=#[] }))),o 3 (an 800)])
(.ret [2,3]))
.skip))
(S (R [o 12 (mv 0),o 13 (len 12 34),o 14 (.convert 3 5 (.tmp 13)),o 15 (.buildSlice 93 1 #[(0,(.tmp 14))]),z 16 (.convert 93 9 (.tmp 15)),o 4 (av 16)])
(S (S (R [o 17 (mv 0),o 18 (len 17 34),o 19 (.move (.const (.int .i64 0)))])
(.block 0 (.loop [4,17,18,19] Pv)))
(S (R [o 32 (mv 4),o 2 (av 32),o 3 (an 0)])
(.ret [2,3]))))))
def g15:IFn:=⟨33,[.tmp 2,.tmp 3],[9,41],c15,[],false,none⟩
def NH:IR:=(S (S (R [o 10 (mv 5),o 11 (bo .add (t 10) (n 4)),o 12 (mv 0),o 13 (len 12 9),o 14 (bo .leq (t 11) (t 13)),o 15 (mv 14),oT 16 (mv 4) 15,oT 17 (len 16 34) 15,oT 18 (bo .leq (t 17) (n 16)) 15,o 19 (.pick (.tmp 15) (.tmp 18) (.const (.bool false)))])
(.cond (t 19)
.skip
(.exit 0 [0,4])))
(S (.block 1 (S (R [o 23 (mv 0),o 24 (mv 5),o 25 (mv 5),o 26 (bo .add (t 25) (n 4)),z 27 (.slice 9 (.tmp 23) (some (.tmp 24)) (some (.tmp 26)) none),o 28 (cl 46 #[(t 27)] #[9]),o 22 (mv 28),o 29 (xt 22 0),o 30 (xt 22 1),o 6 (al 40),w (st 40 6 29),o 7 (av 30)])
(S (S (R [o 31 (mv 7),o 32 (.binOp .neq 41 (.tmp 31) (.const (.int .i64 0)) 41)])
(.cond (t 32)
(S (R [o 2 (.assign (.const (.slice none 0 0))),o 3 (an 800)])
(.ret [2,3]))
.skip))
(R [o 33 (mv 4),o 34 (ld 40 6),o 35 (.buildSlice 34 1 #[(0,(.tmp 34))]),o 36 (.call { callee:=(.builtin .append),args:=#[(.tmp 33),(.tmp 35)],argTypes:=#[34,34] }),o 4 (av 36)]))))
(R [o 20 (mv 5),o 21 (bo .add (t 20) (n 4)),o 5 (av 21)])))
def c16:IR:=(S (R [o 2 (.assign (.const (.slice none 0 0))),o 3 (an 0)])
(S (R [o 4 (.assign (.const (.slice none 0 0)))])
(S (S (R [o 5 (an 1)])
(.block 0 (.loop [0,4,5] NH)))
(S (S (R [o 38 (mv 4),o 39 (cl 15 #[(t 38)] #[34]),o 37 (mv 39),o 40 (xt 37 0),o 41 (xt 37 1),o 8 (av 40),o 9 (av 41)])
(S (R [o 42 (mv 9),o 43 (.binOp .neq 41 (.tmp 42) (.const (.int .i64 0)) 41),o 44 (mv 43),oF 45 (mv 8) 44,oF 46 (mv 0) 44,oF 47 (.binOp .neq 9 (.tmp 45) (.tmp 46) 9) 44,o 48 (.pick (.tmp 44) (.const (.bool true)) (.tmp 47))])
(.cond (t 48)
(S (R [o 2 (.assign (.const (.slice none 0 0))),o 3 (an 800)])
(.ret [2,3]))
.skip)))
(S (R [o 49 (mv 4),o 2 (av 49),o 3 (an 0)])
(.ret [2,3]))))))
def g16:IFn:=⟨50,[.tmp 2,.tmp 3],[34,41],c16,[],false,none⟩
def c17:IR:=(S (R [z 1 (bx 62 0),o 2 (ab false)])
(S (R [o 3 (fa 62 1 0),o 4 (ld 3 3),o 5 (cl 47 #[(t 4)] #[3]),o 6 (mv 5),oT 7 (fa 62 1 1) 6,oT 8 (ld 3 7) 6,oT 9 (cl 48 #[(t 8)] #[3]) 6,o 10 (.pick (.tmp 6) (.tmp 9) (.const (.bool false))),o 11 (mv 10),oT 12 (fa 62 1 2) 11,oT 13 (ld 3 12) 11,oT 14 (cl 48 #[(t 13)] #[3]) 11,o 15 (.pick (.tmp 11) (.tmp 14) (.const (.bool false))),o 16 (mv 15),oT 17 (fa 62 1 1) 16,oT 18 (ld 3 17) 16,oT 19 (fa 62 1 2) 16,oT 20 (ld 3 19) 16,oT 21 (cl 22 #[(t 18),(t 20)] #[3,3]) 16,o 22 (.pick (.tmp 16) (.tmp 21) (.const (.bool false))),o 23 (mv 22),oT 24 (fa 62 1 3) 23,oT 25 (ld 34 24) 23,oT 26 (cl 44 #[(t 25)] #[34]) 23,o 27 (.pick (.tmp 23) (.tmp 26) (.const (.bool false))),o 2 (av 27)])
(.ret [2])))
def g17:IFn:=⟨28,[.tmp 2],[4],c17,[],false,none⟩
def c18:IR:=(S (R [o 0 (al 30)])
(S (R [o 4 (.buildSlice 22 2 #[(0,(.const (.int .i64 5))),(1,(.const (.int .i64 6)))]),o 5 (.buildSlice 22 1 #[(0,(.const (.int .i64 7)))]),o 6 (.buildSlice 22 1 #[(0,(.const (.int .i64 9)))]),o 7 (.build 50 #[(0,(.tmp 4)),(1,(.tmp 5)),(2,(.const (.slice none 0 0))),(3,(.tmp 6))]),o 8 (.build 40 #[(0,(.const (.int .i64 2)))]),o 9 (.build 40 #[(0,(.const (.int .i64 1)))]),o 10 (.build 40 #[(0,(.const (.int .i64 3)))]),o 11 (.buildSlice 34 3 #[(0,(.tmp 8)),(1,(.tmp 9)),(2,(.tmp 10))]),o 12 (.build 62 #[(0,(.const (.int .i64 3))),(2,(.const (.int .i64 3))),(3,(.tmp 11))]),o 13 (.build 40 #[(0,(.const (.int .i64 2))),(3,(.const (.int .i64 1)))]),o 14 (.build 40 #[(0,(.const (.int .i64 3))),(2,(.const (.int .i64 1)))]),o 15 (.buildSlice 34 2 #[(0,(.tmp 13)),(1,(.tmp 14))]),o 16 (.build 62 #[(0,(.const (.int .i64 5))),(1,(.const (.int .i64 1))),(2,(.const (.int .i64 1))),(3,(.tmp 15))]),o 17 (.buildSlice 51 2 #[(0,(.tmp 12)),(1,(.tmp 16))]),o 18 (.build 54 #[(0,(.tmp 7)),(1,(.const (.int .i64 9))),(2,(.tmp 17))]),o 19 (cl 49 #[(t 18)] #[54]),o 3 (mv 19),o 20 (xt 3 0),o 21 (xt 3 1),o 1 (al 30),w (st 30 1 20),o 2 (av 21)])
(S (R [o 22 (ld 30 1),w (st 30 0 22)])
(.ret [0]))))
def g18:IFn:=⟨23,[.cell 0 30],[30],c18,[],false,none⟩
def a0i:IR:=(S (S (R [o 8 (mv 6),o 9 (mv 1),o 10 (bo .lss (t 8) (t 9))])
(.cond (t 10)
.skip
(.exit 0 [4,5])))
(S (.block 1 (R [o 14 (ld 30 5),o 15 (mv 0),o 16 (cl 10 #[(t 14),(t 15)] #[30,3]),o 13 (mv 16),o 17 (xt 13 0),o 18 (xt 13 1),w (st 30 5 17)]))
(R [o 11 (mv 6),o 12 (bo .add (t 11) (n 1)),o 6 (av 12)])))
def c19:IR:=(S (R [o 4 (al 30)])
(S (R [o 7 (cl 18 #[] #[]),o 5 (al 30),w (st 30 5 7)])
(S (S (R [o 6 (an 0)])
(.block 0 (.loop [0,1,4,5,6] a0i)))
(S (R [o 19 (ld 30 5),w (st 30 4 19)])
(.ret [4])))))
def g19:IFn:=⟨20,[.cell 4 30],[30],c19,[],false,none⟩
def Xs:IR:=D [o 17 (mv 0),o 18 (mv 5),o 19 (ia 28 17 18),o 20 (ld 71 19),o 21 (mv 1),o 22 (mv 5),o 23 (ia 28 21 22),o 24 (ld 71 23),o 25 (.binOp .neq 71 (.tmp 20) (.tmp 24) 71)] [[],[],[0,1],[2],[],[],[4,5],[6],[3,7]]
def Pu:IR:=(S (S (R [o 11 (mv 5),o 12 (mv 0),o 13 (len 12 28),o 14 (bo .lss (t 11) (t 13))])
(.cond (t 14)
.skip
(.exit 0 [])))
(S (.block 1 (S Xs
(.cond (t 25)
(S (R [o 4 (ab false)])
(.ret [4]))
.skip)))
(R [o 15 (mv 5),o 16 (bo .add (t 15) (n 1)),o 5 (av 16)])))
def c20:IR:=(S (R [o 4 (ab false)])
(S (S (R [o 6 (mv 0),o 7 (len 6 28),o 8 (mv 1),o 9 (len 8 28),o 10 (bo .neq (t 7) (t 9))])
(.cond (t 10)
(S (R [o 4 (ab false)])
(.ret [4]))
.skip))
(S (S (R [o 5 (an 0)])
(.block 0 (.loop [0,1,5] Pu)))
(S (R [o 4 (ab true)])
(.ret [4])))))
def g20:IFn:=⟨26,[.tmp 4],[4],c20,[],false,none⟩
def Xr:IR:=D [o 18 (mv 7),o 19 (nc 18),o 20 (fa 38 19 4),o 21 (ld 3 20),o 22 (bo .eql (t 21) (n 0)),o 23 (mv 22),oT 24 (mv 7) 23,oT 25 (nc 24) 23,oT 26 (fa 38 25 5) 23,oT 27 (ld 3 26) 23,oT 28 (mv 7) 23,oT 29 (nc 28) 23,oT 30 (fa 38 29 3) 23,oT 31 (ld 34 30) 23,oT 32 (len 31 34) 23,oT 33 (bo .lss (t 27) (t 32)) 23,o 34 (.pick (.tmp 23) (.tmp 33) (.const (.bool false))),o 35 (mv 34),oT 36 (mv 2) 35,oT 37 (mv 7) 35,oT 38 (nc 37) 35,oT 39 (fa 38 38 3) 35,oT 40 (ld 34 39) 35,oT 41 (mv 7) 35,oT 42 (nc 41) 35,oT 43 (fa 38 42 5) 35,oT 44 (ld 3 43) 35,oT 45 (ia 34 40 44) 35,oT 46 (fa 40 45 0) 35,oT 47 (ld 3 46) 35,oT 48 (cl 51 #[(t 36),(t 47)] #[22,3]) 35,o 49 (.pick (.tmp 35) (.tmp 48) (.const (.bool false))),o 6 (av 49)] [[],[0],[1],[2],[3],[4],[5],[6,5],[7,5],[8,5],[5],[10,5],[11,5],[12,5],[13,5],[9,14,5],[5,15],[16,5],[17],[17],[19,17],[20,17],[21,17],[17],[23,17],[24,17],[25,17],[22,26,17],[27,17],[28,17],[18,29,17,17],[17,30],[31,30,0,1,2,3,4,5,6,7,8,9,10,11,12,13,14,15,16,17,18,19,20,21,22,23,24,25,26,27,28,29,30,31]]
def c21:IR:=(S (R [o 6 (ab false)])
(S (S (R [o 8 (mv 0),o 9 (mv 1),o 10 (cl 50 #[(t 8),(t 9)] #[73,3]),o 11 (.unOp .not 4 (.tmp 10))])
(.cond (t 11)
(S (R [o 6 (ab false)])
(.ret [6]))
.skip))
(S (R [o 12 (mv 0),o 13 (nc 12),o 14 (fa 30 13 3),o 15 (ld 27 14),o 16 (mv 1),o 17 (ia 27 15 16),o 7 (av 17)])
(S Xr
(.ret [6])))))
def g21:IFn:=⟨50,[.tmp 6],[4],c21,[],false,none⟩
def c22:IR:=(S (R [o 4 (ab false)])
(S (R [o 5 (mv 0),o 6 (mv 1),o 7 (bo .or (t 5) (t 6)),o 8 (mv 1),o 9 (bo .eql (t 7) (t 8)),o 4 (av 9)])
(.ret [4])))
def g22:IFn:=⟨10,[.tmp 4],[4],c22,[],false,none⟩
def c23:IR:=(S (R [o 4 (an 0),o 5 (an 0)])
(S (S (R [o 6 (mv 0),o 7 (cl 48 #[(t 6)] #[3]),o 8 (.unOp .not 4 (.tmp 7)),o 9 (mv 8),oF 10 (mv 1) 9,oF 11 (cl 48 #[(t 10)] #[3]) 9,oF 12 (.unOp .not 4 (.tmp 11)) 9,o 13 (.pick (.tmp 9) (.const (.bool true)) (.tmp 12))])
(.cond (t 13)
(S (R [o 4 (an 0),o 5 (an 100)])
(.ret [4,5]))
.skip))
(S (R [o 14 (mv 0),o 15 (mv 1),o 16 (bo .or (t 14) (t 15)),o 4 (av 16),o 5 (an 0)])
(.ret [4,5]))))
def g23:IFn:=⟨17,[.tmp 4,.tmp 5],[3,41],c23,[],false,none⟩
def c24:IR:=(S (R [z 4 (bx 30 0),o 8 (al 30),o 9 (an 0)])
(S (S (R [o 12 (mv 1),o 13 (cl 50 #[(t 4),(t 12)] #[73,3]),o 14 (.unOp .not 4 (.tmp 13)),o 15 (mv 14),oF 16 (mv 2) 15,oF 17 (bo .lss (t 16) (n 0)) 15,o 18 (.pick (.tmp 15) (.const (.bool true)) (.tmp 17)),o 19 (mv 18),oF 20 (mv 2) 19,oF 21 (bo .gtr (t 20) (n 5)) 19,o 22 (.pick (.tmp 19) (.const (.bool true)) (.tmp 21)),o 23 (mv 22),oF 24 (mv 3) 23,oF 25 (cl 52 #[(t 24)] #[3]) 23,oF 26 (.unOp .not 4 (.tmp 25)) 23,o 27 (.pick (.tmp 23) (.const (.bool true)) (.tmp 26))])
(.cond (t 27)
(S (R [o 28 (.build 30 #[]),w (st 30 8 28),o 9 (an 1300)])
(.ret [8,9]))
.skip))
(S (R [o 29 (ld 30 4),o 30 (cl 25 #[(t 29)] #[30]),o 10 (al 30),w (st 30 10 30)])
(S (R [o 31 (mv 1),o 32 (cl 53 #[(t 10),(t 31)] #[73,3]),o 11 (av 32)])
(S (R [o 33 (mv 11),o 34 (mv 11),o 35 (mv 11),o 36 (mv 2),o 37 (mv 3),o 38 (nc 33),o 39 (fa 38 38 4),w (.store 3 (.tmp 39) (.const (.int .i64 6))),o 40 (nc 34),o 41 (fa 38 40 12),w (st 3 41 36),o 42 (nc 35),o 43 (fa 38 42 13),w (st 3 43 37)])
(S (R [o 44 (mv 1),o 45 (mv 2),o 46 (cl 26 #[(t 10),(t 44),(n 6),(t 45)] #[73,3,3,3])])
(S (R [o 47 (ld 30 10),w (st 30 8 47),o 9 (an 0)])
(.ret [8,9]))))))))
def g24:IFn:=⟨48,[.cell 8 30,.tmp 9],[30,41],c24,[],false,none⟩
def Xq:IR:=D [o 5 (fa 30 1 0),o 6 (ld 25 5),o 7 (cl 54 #[(t 6)] #[25]),o 8 (fa 30 1 3),o 9 (ld 27 8),o 10 (cl 55 #[(t 9)] #[27]),o 11 (fa 30 1 4),o 12 (ld 28 11),o 13 (cl 56 #[(t 12)] #[28]),o 14 (fa 30 1 0),w (st 25 14 7),o 15 (fa 30 1 3),w (st 27 15 10),o 16 (fa 30 1 4),w (st 28 16 13)] [[],[0],[1],[],[3],[4,2],[],[6],[7,5],[0,1,2,3,4,6,7],[9,2,8,0,1,2,3,4,6,7],[0,1,2,3,4,5,6,7,9,10],[11,5,10,0,1,2,3,4,5,6,7,9,10],[0,1,2,3,4,5,6,7,8,9,10,11,12],[13,8,12,0,1,2,3,4,5,6,7,8,9,10,11,12]]
def Xp:IR:=D [o 25 (fa 30 1 3),o 26 (ld 27 25),o 27 (mv 3),o 28 (ld 38 4),o 29 (cl 57 #[(t 28)] #[38]),o 30 (ia 27 26 27),w (st 38 30 29)] [[],[0],[],[],[3],[1,2,0,1,2,3,4],[5,4,4,0,1,2,3,4]]
def TG:IR:=(S (R [o 21 (bo .lss (t 20) (t 19))])
(S (.cond (t 21)
.skip
(.exit 0 [1,2]))
(S (.block 1 (S (R [o 22 (mv 20),o 23 (ia 27 18 20),o 24 (ld 38 23),o 4 (al 38),o 3 (av 22),w (st 38 4 24)])
Xp))
(R [o 31 (bo .add (t 20) (n 1)),o 20 (mv 31)]))))
def c25:IR:=(S (R [o 1 (bx 30 0),o 2 (al 30)])
(S Xq
(S (S (R [o 17 (fa 30 1 3),o 18 (ld 27 17),o 19 (len 18 27),o 20 (.move (.const (.int .i64 0)))])
(.block 0 (.loop [1,2,18,19,20] TG)))
(S (R [o 32 (ld 30 1),w (st 30 2 32)])
(.ret [2])))))
def g25:IFn:=⟨33,[.cell 2 30],[30],c25,[],false,none⟩
def Xo:IR:=D [o 21 (mv 0),o 22 (mv 0),o 23 (nc 22),o 24 (fa 30 23 4),o 25 (ld 28 24),o 26 (mv 8),o 27 (nc 26),o 28 (fa 38 27 0),o 29 (ld 3 28),o 30 (mv 8),o 31 (nc 30),o 32 (fa 38 31 1),o 33 (ld 3 32),o 34 (mv 2),o 35 (mv 3),o 36 (.build 71 #[(0,(.tmp 29)),(1,(.tmp 33)),(2,(.tmp 34)),(3,(.tmp 35))]),o 37 (.buildSlice 28 1 #[(0,(.tmp 36))]),o 38 (.call { callee:=(.builtin .append),args:=#[(.tmp 25),(.tmp 37)],argTypes:=#[28,28] }),o 39 (nc 21),o 40 (fa 30 39 4),w (st 28 40 38)] [[],[],[1],[2],[3],[],[5],[6],[7],[],[9],[10],[11],[],[],[8,12,13,14],[15],[4,16],[0,0,1,2,3,4,5,6,7,8,9,10,11,12,13,14,15,16,17],[18,0,1,2,3,4,5,6,7,8,9,10,11,12,13,14,15,16,17],[19,17,17,0,1,2,3,4,5,6,7,8,9,10,11,12,13,14,15,16,17]]
def c26:IR:=(S (R [o 9 (mv 0),o 10 (nc 9),o 11 (fa 30 10 4),o 12 (ld 28 11),o 13 (len 12 28),o 14 (bo .lss (t 13) (n 512))])
(.cond (t 14)
(S (R [o 15 (mv 0),o 16 (nc 15),o 17 (fa 30 16 3),o 18 (ld 27 17),o 19 (mv 1),o 20 (ia 27 18 19),o 8 (av 20)])
Xo)
.skip))
def g26:IFn:=⟨41,[],[],c26,[],true,none⟩
def c27:IR:=(S (R [z 2 (bx 30 0),o 4 (ab false)])
(S (R [o 5 (ld 30 2),o 6 (cl 58 #[(t 5)] #[30]),o 7 (mv 6),oT 8 (mv 1) 7,oT 9 (bo .geq (t 8) (n 0)) 7,o 10 (.pick (.tmp 7) (.tmp 9) (.const (.bool false))),o 11 (mv 10),oT 12 (mv 1) 11,oT 13 (fa 30 2 3) 11,oT 14 (ld 27 13) 11,oT 15 (len 14 27) 11,oT 16 (bo .lss (t 12) (t 15)) 11,o 17 (.pick (.tmp 11) (.tmp 16) (.const (.bool false))),o 4 (av 17)])
(.ret [4])))
def g27:IFn:=⟨18,[.tmp 4],[4],c27,[],false,none⟩
def Xn:IR:=D [o 18 (fa 30 3 3),o 19 (ld 27 18),o 20 (fa 30 1 3),o 21 (ld 27 20),o 22 (mv 4),o 23 (ia 27 21 22),o 24 (ld 38 23),o 25 (cl 60 #[(t 24)] #[38]),o 26 (.buildSlice 27 1 #[(0,(.tmp 25))]),o 27 (.call { callee:=(.builtin .append),args:=#[(.tmp 19),(.tmp 26)],argTypes:=#[27,27] }),o 28 (fa 30 3 3),w (st 27 28 27)] [[],[0],[],[2],[],[3,4],[5],[6],[7],[1,8,7],[0,1,2,3,4,5,6,7,8,9],[10,9,9,0,1,2,3,4,5,6,7,8,9]]
def TF:IR:=(S (S (R [o 11 (mv 4),o 12 (fa 30 1 3),o 13 (ld 27 12),o 14 (len 13 27),o 15 (bo .lss (t 11) (t 14))])
(.cond (t 15)
.skip
(.exit 0 [1,2,3])))
(S (.block 1 Xn)
(R [o 16 (mv 4),o 17 (bo .add (t 16) (n 1)),o 4 (av 17)])))
def c28:IR:=(S (R [z 1 (bx 30 0),o 2 (al 30)])
(S (R [o 5 (ld 30 1),o 3 (al 30),w (st 30 3 5)])
(S (R [o 6 (fa 30 1 0),o 7 (ld 25 6),o 8 (cl 59 #[(t 7)] #[25]),o 9 (fa 30 3 0),w (st 25 9 8)])
(S (R [o 10 (fa 30 3 3),w (.store 27 (.tmp 10) (.const (.slice none 0 0)))])
(S (S (R [o 4 (an 0)])
(.block 0 (.loop [1,2,3,4] TF)))
(S (R [o 29 (.buildSlice 28 0 #[]),o 30 (fa 30 1 4),o 31 (ld 28 30),o 32 (.call { callee:=(.builtin .append),args:=#[(.tmp 29),(.tmp 31)],argTypes:=#[28,28] }),o 33 (fa 30 3 4),w (st 28 33 32)])
(S (R [o 34 (ld 30 3),w (st 30 2 34)])
(.ret [2]))))))))
def g28:IFn:=⟨35,[.cell 2 30],[30],c28,[],false,none⟩
def Xm:IR:=D [o 62 (ld 30 2),o 63 (mv 1),o 64 (fa 38 6 3),o 65 (ld 34 64),o 66 (fa 38 6 5),o 67 (ld 3 66),o 68 (ia 34 65 67),o 69 (fa 40 68 1),o 70 (ld 3 69),o 71 (cl 67 #[(t 62),(t 63),(n 2),(t 70)] #[30,3,3,3]),o 72 (xt 71 0),o 73 (xt 71 1),w (st 30 4 72),o 5 (av 73)] [[],[],[],[2],[],[4],[3,5],[6],[7],[0,1,8],[9],[9],[10,9,0,1,2,3,4,5,6,7,8,9,10,11],[11,12,0,1,2,3,4,5,6,7,8,9,10,11,12]]
def c29:IR:=(S (R [z 2 (bx 30 0),o 4 (al 30),o 5 (an 0)])
(S (R [o 10 (fa 30 2 3),o 11 (ld 27 10),o 12 (mv 1),o 13 (ia 27 11 12),o 14 (ld 38 13),o 6 (al 38),w (st 38 6 14)])
(S (S (R [o 15 (ld 30 2),o 16 (mv 1),o 17 (cl 61 #[(t 15),(t 16)] #[30,3])])
(.block 0 (S (R [o 19 (bo .eql (t 17) (n 2)),o 18 (av 19)])
(.cond (t 18)
(S (R [o 21 (ld 30 2),o 22 (mv 1),o 23 (cl 62 #[(t 21),(t 22)] #[30,3]),o 20 (mv 23),o 24 (xt 20 0),o 25 (xt 20 1),o 7 (av 24),o 8 (av 25)])
(S (S (R [o 26 (mv 7)])
(.cond (t 26)
(S (R [o 27 (ld 30 2),o 28 (mv 1),o 29 (cl 63 #[(t 27),(t 28)] #[30,3]),o 30 (xt 29 0),o 31 (xt 29 1),w (st 30 4 30),o 5 (av 31)])
(.ret [4,5]))
.skip))
(S (R [o 32 (ld 30 2),o 33 (mv 1),o 34 (cl 64 #[(t 32),(t 33)] #[30,3]),o 35 (xt 34 0),o 36 (xt 34 1),w (st 30 4 35),o 5 (av 36)])
(.ret [4,5]))))
(S (R [o 38 (bo .eql (t 17) (n 3)),o 37 (av 38)])
(.cond (t 37)
(S (R [o 39 (ld 30 2),o 40 (mv 1),o 41 (cl 65 #[(t 39),(t 40)] #[30,3]),o 42 (xt 41 0),o 43 (xt 41 1),w (st 30 4 42),o 5 (av 43)])
(.ret [4,5]))
(S (S (R [o 45 (bo .eql (t 17) (n 0)),o 44 (av 45)])
(.cond (t 44)
.skip
(S (R [o 46 (bo .eql (t 17) (n 1)),o 44 (av 46)])
(.cond (t 44)
.skip
(R [o 47 (bo .eql (t 17) (n 4)),o 44 (av 47)])))))
(.cond (t 44)
(S (R [o 48 (ld 30 2),o 49 (mv 1),o 50 (cl 66 #[(t 48),(t 49)] #[30,3]),o 51 (xt 50 0),o 52 (xt 50 1),w (st 30 4 51),o 5 (av 52)])
(.ret [4,5]))
(S (R [o 54 (bo .eql (t 17) (n 5)),o 53 (av 54)])
(.cond (t 53)
(S (R [o 55 (ld 30 2),o 56 (mv 1),o 57 (cl 34 #[(t 55),(t 56)] #[30,3]),o 58 (xt 57 0),o 59 (xt 57 1),w (st 30 4 58),o 5 (av 59)])
(.ret [4,5]))
(S (R [o 61 (bo .eql (t 17) (n 6)),o 60 (av 61)])
(.cond (t 60)
(S Xm
(.ret [4,5]))
.skip))))))))))))
(S (S (R [o 74 (fa 38 6 8),o 75 (ld 36 74),o 76 (fa 38 6 1),o 77 (ld 3 76),o 78 (cl 68 #[(t 75),(t 77)] #[36,3]),o 79 (.unOp .not 4 (.tmp 78))])
(.cond (t 79)
(S (R [o 80 (ld 30 2),o 81 (mv 1),o 82 (cl 67 #[(t 80),(t 81),(n 3),(n 0)] #[30,3,3,3]),o 83 (xt 82 0),o 84 (xt 82 1),w (st 30 4 83),o 5 (av 84)])
(.ret [4,5]))
.skip))
(S (R [o 85 (ld 30 2),o 86 (cl 28 #[(t 85)] #[30]),o 9 (al 30),w (st 30 9 86)])
(S (R [o 87 (fa 30 9 3),o 88 (ld 27 87),o 89 (mv 1),o 90 (ia 27 88 89),o 91 (fa 38 90 9),w (.store 3 (.tmp 91) (.const (.int .i64 0)))])
(S (R [o 92 (fa 30 9 3),o 93 (ld 27 92),o 94 (mv 1),o 95 (ia 27 93 94),o 96 (fa 38 95 4),w (.store 3 (.tmp 96) (.const (.int .i64 1)))])
(S (S (R [o 97 (fa 38 6 8),o 98 (ld 36 97),o 99 (len 98 36),o 100 (bo .eql (t 99) (n 0))])
(.cond (t 100)
(R [o 101 (fa 30 9 3),o 102 (ld 27 101),o 103 (mv 1),o 104 (ia 27 102 103),o 105 (fa 38 104 4),w (.store 3 (.tmp 105) (.const (.int .i64 3)))])
.skip))
(S (R [o 106 (ld 30 9),w (st 30 4 106),o 5 (an 0)])
(.ret [4,5]))))))))))
def g29:IFn:=⟨107,[.cell 4 30,.tmp 5],[30,3],c29,[],false,none⟩
def Xl:IR:=D [o 28 (fa 114 7 0),o 29 (ld 3 28),o 30 (fa 30 2 0),o 31 (ia 25 30 29),o 32 (ld 24 31),o 33 (fa 114 7 1),o 34 (ld 3 33),o 35 (ia 24 32 34),o 36 (ld 33 35),o 37 (fa 38 6 0),o 38 (ld 3 37),o 39 (cl 70 #[(t 36),(t 38)] #[33,3]),o 27 (mv 39),o 40 (xt 27 0),o 41 (xt 27 1),o 8 (al 33),w (st 33 8 40),o 9 (av 41)] [[],[0],[],[2,1],[3],[],[5],[4,6],[7],[],[9],[8,10],[11],[12],[12],[],[15,13,11,0,1,2,3,4,5,6,7,8,9,10,11,12,13,15],[14,16,0,1,2,3,4,5,6,7,8,9,10,11,12,13,14,15,16]]
def Xk:IR:=D [o 51 (fa 114 7 0),o 52 (ld 3 51),o 53 (fa 30 10 0),o 54 (ia 25 53 52),o 55 (ld 24 54),o 56 (fa 114 7 1),o 57 (ld 3 56),o 58 (ld 33 8),o 59 (ia 24 55 57),w (st 33 59 58)] [[],[0],[],[2,1],[3],[],[5],[],[4,6,0,1,2,3,4,5,6,7],[8,7,0,1,2,3,4,5,6,7]]
def c30:IR:=(S (R [z 2 (bx 30 0),o 4 (al 30),o 5 (an 0)])
(S (S (R [o 11 (ld 30 2),o 12 (mv 1),o 13 (cl 69 #[(t 11),(t 12),(n 1)] #[30,3,3]),o 14 (.unOp .not 4 (.tmp 13))])
(.cond (t 14)
(S (R [o 15 (.build 30 #[]),w (st 30 4 15),o 5 (an 1800)])
(.ret [4,5]))
.skip))
(S (R [o 16 (fa 30 2 3),o 17 (ld 27 16),o 18 (mv 1),o 19 (ia 27 17 18),o 20 (ld 38 19),o 6 (al 38),w (st 38 6 20)])
(S (R [o 21 (fa 38 6 8),o 22 (ld 36 21),o 23 (fa 38 6 9),o 24 (ld 3 23),o 25 (ia 36 22 24),o 26 (ld 114 25),o 7 (al 114),w (st 114 7 26)])
(S Xl
(S (S (R [o 42 (mv 9),o 43 (bo .neq (t 42) (n 0))])
(.cond (t 43)
(S (R [o 44 (ld 30 2),o 45 (mv 1),o 46 (cl 71 #[(t 44),(t 45),(n 3)] #[30,3,3]),o 47 (xt 46 0),o 48 (xt 46 1),w (st 30 4 47),o 5 (av 48)])
(.ret [4,5]))
.skip))
(S (R [o 49 (ld 30 2),o 50 (cl 28 #[(t 49)] #[30]),o 10 (al 30),w (st 30 10 50)])
(S Xk
(S (R [o 60 (fa 30 10 3),o 61 (ld 27 60),o 62 (mv 1),o 63 (ia 27 61 62),o 64 (fa 38 63 9),o 65 (ld 3 64),o 66 (bo .add (t 65) (n 1)),o 67 (ia 27 61 62),o 68 (fa 38 67 9),w (st 3 68 66)])
(S (S (R [o 69 (fa 38 6 9),o 70 (ld 3 69),o 71 (bo .add (t 70) (n 1)),o 72 (fa 38 6 8),o 73 (ld 36 72),o 74 (len 73 36),o 75 (bo .eql (t 71) (t 74))])
(.cond (t 75)
(R [o 76 (fa 30 10 3),o 77 (ld 27 76),o 78 (mv 1),o 79 (ia 27 77 78),o 80 (fa 38 79 4),w (.store 3 (.tmp 80) (.const (.int .i64 2)))])
.skip))
(S (R [o 81 (ld 30 10),w (st 30 4 81),o 5 (an 0)])
(.ret [4,5]))))))))))))
def g30:IFn:=⟨82,[.cell 4 30,.tmp 5],[30,3],c30,[],false,none⟩
def Xj:IR:=D [o 25 (fa 30 2 1),o 26 (ld 26 25),o 27 (fa 30 2 3),o 28 (ld 27 27),o 29 (mv 1),o 30 (ia 27 28 29),o 31 (fa 38 30 1),o 32 (ld 3 31),o 33 (fa 30 2 2),o 34 (ld 3 33),o 35 (cl 72 #[(t 26),(t 32),(t 34)] #[26,3,3]),o 24 (mv 35),o 36 (xt 24 0),o 37 (xt 24 1),o 38 (xt 24 2),o 6 (al 26),w (st 26 6 36),o 7 (av 37),o 8 (av 38)] [[],[0],[],[2],[],[3,4],[5],[6],[],[8],[1,7,9],[10],[11],[11],[11],[],[15,12,10,0,1,2,3,4,5,6,7,8,9,10,11,12,15],[13,16,0,1,2,3,4,5,6,7,8,9,10,11,12,13,15,16],[14,17,0,1,2,3,4,5,6,7,8,9,10,11,12,13,14,15,16,17]]
def c31:IR:=(S (R [z 2 (bx 30 0),o 4 (al 30),o 5 (an 0)])
(S (S (R [o 10 (ld 30 2),o 11 (mv 1),o 12 (cl 27 #[(t 10),(t 11)] #[30,3]),o 13 (.unOp .not 4 (.tmp 12)),o 14 (mv 13),oF 15 (fa 30 2 3) 14,oF 16 (ld 27 15) 14,oF 17 (mv 1) 14,oF 18 (ia 27 16 17) 14,oF 19 (fa 38 18 4) 14,oF 20 (ld 3 19) 14,oF 21 (bo .neq (t 20) (n 2)) 14,o 22 (.pick (.tmp 14) (.const (.bool true)) (.tmp 21))])
(.cond (t 22)
(S (R [o 23 (.build 30 #[]),w (st 30 4 23),o 5 (an 1900)])
(.ret [4,5]))
.skip))
(S Xj
(S (S (R [o 39 (mv 8),o 40 (bo .neq (t 39) (n 0))])
(.cond (t 40)
(S (R [o 41 (ld 30 2),o 42 (mv 1),o 43 (cl 67 #[(t 41),(t 42),(n 5),(n 0)] #[30,3,3,3]),o 44 (xt 43 0),o 45 (xt 43 1),w (st 30 4 44),o 5 (av 45)])
(.ret [4,5]))
.skip))
(S (R [o 46 (ld 30 2),o 47 (cl 28 #[(t 46)] #[30]),o 9 (al 30),w (st 30 9 47)])
(S (R [o 48 (ld 26 6),o 49 (fa 30 9 1),w (st 26 49 48)])
(S (R [o 50 (fa 30 9 3),o 51 (ld 27 50),o 52 (mv 1),o 53 (mv 7),o 54 (ia 27 51 52),o 55 (fa 38 54 10),w (st 3 55 53)])
(S (R [o 56 (fa 30 9 3),o 57 (ld 27 56),o 58 (mv 1),o 59 (ia 27 57 58),o 60 (fa 38 59 4),w (.store 3 (.tmp 60) (.const (.int .i64 3)))])
(S (R [o 61 (ld 30 9),w (st 30 4 61),o 5 (an 0)])
(.ret [4,5]))))))))))
def g31:IFn:=⟨62,[.cell 4 30,.tmp 5],[30,3],c31,[],false,none⟩
def c32:IR:=(S (R [z 2 (bx 30 0),o 4 (al 30),o 5 (an 0)])
(S (S (R [o 10 (ld 30 2),o 11 (mv 1),o 12 (cl 27 #[(t 10),(t 11)] #[30,3]),o 13 (.unOp .not 4 (.tmp 12)),o 14 (mv 13),oF 15 (fa 30 2 3) 14,oF 16 (ld 27 15) 14,oF 17 (mv 1) 14,oF 18 (ia 27 16 17) 14,oF 19 (fa 38 18 4) 14,oF 20 (ld 3 19) 14,oF 21 (bo .neq (t 20) (n 3)) 14,o 22 (.pick (.tmp 14) (.const (.bool true)) (.tmp 21))])
(.cond (t 22)
(S (R [o 23 (.build 30 #[]),w (st 30 4 23),o 5 (an 2000)])
(.ret [4,5]))
.skip))
(S (R [o 24 (fa 30 2 3),o 25 (ld 27 24),o 26 (mv 1),o 27 (ia 27 25 26),o 28 (ld 38 27),o 6 (al 38),w (st 38 6 28)])
(S (R [o 30 (fa 30 2 0),o 31 (ld 25 30),o 32 (fa 38 6 7),o 33 (ld 35 32),o 34 (fa 38 6 0),o 35 (ld 3 34),o 36 (cl 73 #[(t 31),(t 33),(t 35)] #[25,35,3]),o 29 (mv 36),o 37 (xt 29 0),o 38 (xt 29 1),o 7 (av 37),o 8 (av 38)])
(S (S (R [o 39 (mv 7),o 40 (.unOp .not 4 (.tmp 39))])
(.cond (t 40)
(S (R [o 41 (ld 30 2),o 42 (mv 1),o 43 (cl 71 #[(t 41),(t 42),(n 3)] #[30,3,3]),o 44 (xt 43 0),o 45 (xt 43 1),w (st 30 4 44),o 5 (av 45)])
(.ret [4,5]))
.skip))
(S (S (R [o 46 (fa 38 6 8),o 47 (ld 36 46),o 48 (len 47 36),o 49 (bo .eql (t 48) (n 0))])
(.cond (t 49)
(S (R [o 50 (ld 30 2),o 51 (mv 1),o 52 (cl 67 #[(t 50),(t 51),(n 1),(n 0)] #[30,3,3,3]),o 53 (xt 52 0),o 54 (xt 52 1),w (st 30 4 53),o 5 (av 54)])
(.ret [4,5]))
.skip))
(S (R [o 55 (ld 30 2),o 56 (cl 28 #[(t 55)] #[30]),o 9 (al 30),w (st 30 9 56)])
(S (R [o 57 (fa 30 9 3),o 58 (ld 27 57),o 59 (mv 1),o 60 (ia 27 58 59),o 61 (fa 38 60 9),w (.store 3 (.tmp 61) (.const (.int .i64 0)))])
(S (R [o 62 (fa 30 9 3),o 63 (ld 27 62),o 64 (mv 1),o 65 (ia 27 63 64),o 66 (fa 38 65 4),w (.store 3 (.tmp 66) (.const (.int .i64 4)))])
(S (R [o 67 (ld 30 9),w (st 30 4 67),o 5 (an 0)])
(.ret [4,5])))))))))))
def g32:IFn:=⟨68,[.cell 4 30,.tmp 5],[30,3],c32,[],false,none⟩
def Xi:IR:=D [o 28 (fa 114 7 0),o 29 (ld 3 28),o 30 (fa 30 2 0),o 31 (ia 25 30 29),o 32 (ld 24 31),o 33 (fa 114 7 1),o 34 (ld 3 33),o 35 (ia 24 32 34),o 36 (ld 33 35),o 37 (fa 114 7 2),o 38 (ld 3 37),o 39 (fa 38 6 10),o 40 (ld 3 39),o 41 (cl 74 #[(t 36),(t 38),(t 40)] #[33,3,3]),o 27 (mv 41),o 42 (xt 27 0),o 43 (xt 27 1),o 8 (al 33),w (st 33 8 42),o 9 (av 43)] [[],[0],[],[2,1],[3],[],[5],[4,6],[7],[],[9],[],[11],[8,10,12],[13],[14],[14],[],[17,15,13,0,1,2,3,4,5,6,7,8,9,10,11,12,13,14,15,17],[16,18,0,1,2,3,4,5,6,7,8,9,10,11,12,13,14,15,16,17,18]]
def Xh:IR:=D [o 46 (fa 114 7 0),o 47 (ld 3 46),o 48 (fa 30 10 0),o 49 (ia 25 48 47),o 50 (ld 24 49),o 51 (fa 114 7 1),o 52 (ld 3 51),o 53 (ld 33 8),o 54 (ia 24 50 52),w (st 33 54 53)] [[],[0],[],[2,1],[3],[],[5],[],[4,6,0,1,2,3,4,5,6,7],[8,7,0,1,2,3,4,5,6,7]]
def c33:IR:=(S (R [z 2 (bx 30 0),o 4 (al 30),o 5 (an 0)])
(S (S (R [o 11 (ld 30 2),o 12 (mv 1),o 13 (cl 69 #[(t 11),(t 12),(n 4)] #[30,3,3]),o 14 (.unOp .not 4 (.tmp 13))])
(.cond (t 14)
(S (R [o 15 (.build 30 #[]),w (st 30 4 15),o 5 (an 2100)])
(.ret [4,5]))
.skip))
(S (R [o 16 (fa 30 2 3),o 17 (ld 27 16),o 18 (mv 1),o 19 (ia 27 17 18),o 20 (ld 38 19),o 6 (al 38),w (st 38 6 20)])
(S (R [o 21 (fa 38 6 8),o 22 (ld 36 21),o 23 (fa 38 6 9),o 24 (ld 3 23),o 25 (ia 36 22 24),o 26 (ld 114 25),o 7 (al 114),w (st 114 7 26)])
(S Xi
(S (R [o 44 (ld 30 2),o 45 (cl 28 #[(t 44)] #[30]),o 10 (al 30),w (st 30 10 45)])
(S Xh
(S (R [o 55 (fa 30 10 3),o 56 (ld 27 55),o 57 (mv 1),o 58 (ia 27 56 57),o 59 (fa 38 58 9),o 60 (ld 3 59),o 61 (bo .add (t 60) (n 1)),o 62 (ia 27 56 57),o 63 (fa 38 62 9),w (st 3 63 61)])
(S (S (R [o 64 (fa 38 6 9),o 65 (ld 3 64),o 66 (bo .add (t 65) (n 1)),o 67 (fa 38 6 8),o 68 (ld 36 67),o 69 (len 68 36),o 70 (bo .eql (t 66) (t 69))])
(.cond (t 70)
(S (R [o 71 (ld 30 10),o 72 (mv 1),o 73 (cl 67 #[(t 71),(t 72),(n 1),(n 0)] #[30,3,3,3]),o 74 (xt 73 0),o 75 (xt 73 1),w (st 30 4 74),o 5 (av 75)])
(.ret [4,5]))
.skip))
(S (R [o 76 (ld 30 10),w (st 30 4 76),o 5 (an 0)])
(.ret [4,5])))))))))))
def g33:IFn:=⟨77,[.cell 4 30,.tmp 5],[30,3],c33,[],false,none⟩
def Xg:IR:=D [o 53 (ld 30 6),o 54 (mv 1),o 55 (fa 30 2 3),o 56 (ld 27 55),o 57 (mv 1),o 58 (ia 27 56 57),o 59 (fa 38 58 7),o 60 (ld 35 59),o 61 (len 60 35),o 62 (cl 75 #[(t 53),(t 54),(n 4),(t 61)] #[30,3,3,3]),w (st 30 4 62),o 5 (an 0)] [[],[],[],[2],[],[3,4],[5],[6],[7],[0,1,8],[9,9,0,1,2,3,4,5,6,7,8,9],[10,0,1,2,3,4,5,6,7,8,9,10]]
def Xf:IR:=D [o 64 (fa 30 2 0),o 65 (ld 25 64),o 66 (fa 30 2 3),o 67 (ld 27 66),o 68 (mv 1),o 69 (ia 27 67 68),o 70 (fa 38 69 7),o 71 (ld 35 70),o 72 (cl 76 #[(t 65),(t 71)] #[25,35]),o 63 (mv 72),o 73 (xt 63 0),o 74 (xt 63 1),o 7 (av 73),o 8 (av 74)] [[],[0],[],[2],[],[3,4],[5],[6],[1,7],[8],[9],[9],[10,8,0,1,2,3,4,5,6,7,8,9,10],[11,12,0,1,2,3,4,5,6,7,8,9,10,11,12]]
def c34:IR:=(S (R [z 2 (bx 30 0),o 4 (al 30),o 5 (an 0)])
(S (S (R [o 9 (ld 30 2),o 10 (mv 1),o 11 (cl 27 #[(t 9),(t 10)] #[30,3]),o 12 (.unOp .not 4 (.tmp 11)),o 13 (mv 12),oF 14 (fa 30 2 3) 13,oF 15 (ld 27 14) 13,oF 16 (mv 1) 13,oF 17 (ia 27 15 16) 13,oF 18 (fa 38 17 4) 13,oF 19 (ld 3 18) 13,oF 20 (bo .neq (t 19) (n 5)) 13,oF 21 (mv 20) 13,oT 22 (ld 30 2) 21,oT 23 (mv 1) 21,oT 24 (cl 61 #[(t 22),(t 23)] #[30,3]) 21,oT 25 (bo .neq (t 24) (n 5)) 21,oF 26 (.pick (.tmp 21) (.tmp 25) (.const (.bool false))) 13,o 27 (.pick (.tmp 13) (.const (.bool true)) (.tmp 26))])
(.cond (t 27)
(S (R [o 28 (.build 30 #[]),w (st 30 4 28),o 5 (an 2200)])
(.ret [4,5]))
.skip))
(S (R [o 29 (ld 30 2),o 30 (cl 28 #[(t 29)] #[30]),o 6 (al 30),w (st 30 6 30)])
(S (S (R [o 31 (fa 30 2 3),o 32 (ld 27 31),o 33 (mv 1),o 34 (ia 27 32 33),o 35 (fa 38 34 4),o 36 (ld 3 35),o 37 (bo .eql (t 36) (n 0))])
(.cond (t 37)
(S (R [o 38 (fa 30 6 3),o 39 (ld 27 38),o 40 (mv 1),o 41 (ia 27 39 40),o 42 (fa 38 41 8),w (.store 36 (.tmp 42) (.const (.slice none 0 0)))])
(S (R [o 43 (fa 30 6 3),o 44 (ld 27 43),o 45 (mv 1),o 46 (ia 27 44 45),o 47 (fa 38 46 9),w (.store 3 (.tmp 47) (.const (.int .i64 0)))])
(S (R [o 48 (fa 30 6 3),o 49 (ld 27 48),o 50 (mv 1),o 51 (ia 27 49 50),o 52 (fa 38 51 4),w (.store 3 (.tmp 52) (.const (.int .i64 5)))])
(S Xg
(.ret [4,5])))))
.skip))
(S Xf
(S (S (R [o 75 (mv 7)])
(.cond (t 75)
(S (R [o 76 (ld 30 2),o 77 (mv 1),o 78 (cl 71 #[(t 76),(t 77),(n 5)] #[30,3,3]),o 79 (xt 78 0),o 80 (xt 78 1),w (st 30 4 79),o 5 (av 80)])
(.ret [4,5]))
.skip))
(S (R [o 81 (ld 30 6),w (st 30 4 81),o 5 (an 0)])
(.ret [4,5]))))))))
def g34:IFn:=⟨82,[.cell 4 30,.tmp 5],[30,3],c34,[],false,none⟩
def c35:IR:=(S (R [o 0 (al 54)])
(S (R [o 1 (.buildSlice 22 1 #[(0,(.const (.int .i64 5)))]),o 2 (.buildSlice 22 1 #[(0,(.const (.int .i64 7)))]),o 3 (.buildSlice 22 1 #[(0,(.const (.int .i64 9)))]),o 4 (.build 50 #[(0,(.tmp 1)),(1,(.tmp 2)),(2,(.const (.slice none 0 0))),(3,(.tmp 3))]),o 5 (.build 40 #[(0,(.const (.int .i64 2)))]),o 6 (.build 40 #[(0,(.const (.int .i64 1)))]),o 7 (.build 40 #[(0,(.const (.int .i64 3)))]),o 8 (.buildSlice 34 3 #[(0,(.tmp 5)),(1,(.tmp 6)),(2,(.tmp 7))]),o 9 (.build 62 #[(0,(.const (.int .i64 3))),(2,(.const (.int .i64 3))),(3,(.tmp 8))]),o 10 (.build 40 #[(0,(.const (.int .i64 2)))]),o 11 (.build 40 #[(0,(.const (.int .i64 3))),(2,(.const (.int .i64 1)))]),o 12 (.buildSlice 34 2 #[(0,(.tmp 10)),(1,(.tmp 11))]),o 13 (.build 62 #[(0,(.const (.int .i64 5))),(1,(.const (.int .i64 1))),(2,(.const (.int .i64 1))),(3,(.tmp 12))]),o 14 (.buildSlice 51 2 #[(0,(.tmp 9)),(1,(.tmp 13))]),o 15 (.build 86 #[]),o 16 (.build 86 #[(0,(.const (.int .i64 1)))]),o 17 (.build 86 #[]),o 18 (.build 86 #[]),o 19 (.build 86 #[(0,(.const (.int .i64 3)))]),o 20 (.build 86 #[]),o 21 (.build 86 #[]),o 22 (.build 86 #[]),o 23 (.build 86 #[]),o 24 (.build 86 #[]),o 25 (.buildSlice 52 10 #[(0,(.tmp 15)),(1,(.tmp 16)),(2,(.tmp 17)),(3,(.tmp 18)),(4,(.tmp 19)),(5,(.tmp 20)),(6,(.tmp 21)),(7,(.tmp 22)),(8,(.tmp 23)),(9,(.tmp 24))]),o 26 (.build 54 #[(0,(.tmp 4)),(1,(.const (.int .i64 9))),(2,(.tmp 14)),(3,(.tmp 25))]),w (st 54 0 26)])
(.ret [0])))
def g35:IFn:=⟨27,[.cell 0 54],[54],c35,[],false,none⟩
def c36:IR:=(S (R [o 4 (ab false),o 5 (an 0)])
(S (S (R [o 6 (mv 0),o 7 (cl 48 #[(t 6)] #[3]),o 8 (.unOp .not 4 (.tmp 7)),o 9 (mv 8),oF 10 (mv 1) 9,oF 11 (cl 48 #[(t 10)] #[3]) 9,oF 12 (.unOp .not 4 (.tmp 11)) 9,o 13 (.pick (.tmp 9) (.const (.bool true)) (.tmp 12))])
(.cond (t 13)
(S (R [o 4 (ab false),o 5 (an 100)])
(.ret [4,5]))
.skip))
(S (R [o 14 (mv 0),o 15 (mv 1),o 16 (cl 22 #[(t 14),(t 15)] #[3,3]),o 4 (av 16),o 5 (an 0)])
(.ret [4,5]))))
def g36:IFn:=⟨17,[.tmp 4,.tmp 5],[4,41],c36,[],false,none⟩
def LL:IR:=(S (R [o 25 (bo .lss (t 24) (t 23))])
(S (.cond (t 25)
.skip
(.exit 0 [2,5,6]))
(S (.block 1 (S (R [o 26 (ia 51 22 24),o 27 (ld 62 26),o 8 (al 62),w (st 62 8 27)])
(S (R [o 29 (ld 62 8),o 30 (cl 78 #[(t 29)] #[62]),o 28 (mv 30),o 31 (xt 28 0),o 32 (xt 28 1),o 9 (al 38),w (st 38 9 31),o 10 (av 32)])
(S (S (R [o 33 (mv 5),o 34 (mv 10),o 35 (.call { callee:=(.builtin .max),args:=#[(.tmp 33),(.tmp 34)],argTypes:=#[41,41] }),o 5 (av 35)])
(S (R [o 36 (mv 5),o 37 (.binOp .neq 41 (.tmp 36) (.const (.int .i64 0)) 41)])
(.cond (t 37)
(.exit 0 [2,5,6])
.skip)))
(R [o 38 (fa 30 6 3),o 39 (ld 27 38),o 40 (ld 38 9),o 41 (.buildSlice 27 1 #[(0,(.tmp 40))]),o 42 (.call { callee:=(.builtin .append),args:=#[(.tmp 39),(.tmp 41)],argTypes:=#[27,27] }),o 43 (fa 30 6 3),w (st 27 43 42)])))))
(R [o 44 (bo .add (t 24) (n 1)),o 24 (mv 44)]))))
def c37:IR:=(S (R [z 1 (bx 54 0),o 2 (al 30),o 3 (an 0)])
(S (R [o 12 (fa 54 1 0),o 13 (ld 50 12),o 14 (cl 77 #[(t 13)] #[50]),o 11 (mv 14),o 15 (xt 11 0),o 16 (xt 11 1),o 4 (al 25),w (st 25 4 15),o 5 (av 16)])
(S (R [o 17 (ld 25 4),o 18 (fa 54 1 1),o 19 (ld 3 18),o 20 (.build 30 #[(0,(.tmp 17)),(2,(.tmp 19))]),o 6 (al 30),w (st 30 6 20)])
(S (S (R [o 21 (fa 54 1 2),o 22 (ld 51 21),o 23 (len 22 51),o 24 (.move (.const (.int .i64 0)))])
(.block 0 (.loop [2,5,6,22,23,24] LL)))
(S (S (R [o 45 (mv 5),o 46 (.binOp .neq 41 (.tmp 45) (.const (.int .i64 0)) 41),o 47 (mv 46),oF 48 (ld 30 6) 47,oF 49 (cl 79 #[(t 48)] #[30]) 47,oF 50 (.unOp .not 4 (.tmp 49)) 47,o 51 (.pick (.tmp 47) (.const (.bool true)) (.tmp 50))])
(.cond (t 51)
(S (R [o 52 (.build 30 #[]),w (st 30 2 52),o 3 (an 1200)])
(.ret [2,3]))
.skip))
(S (R [o 53 (ld 30 6),w (st 30 2 53),o 3 (an 0)])
(.ret [2,3])))))))
def g37:IFn:=⟨54,[.cell 2 30,.tmp 3],[30,41],c37,[],false,none⟩
def c38:IR:=(S (R [z 2 (bx 30 0),z 3 (bx 86 1),o 4 (al 30),o 5 (an 0)])
(S (R [o 11 (ld 30 2),o 12 (ld 86 3),o 13 (cl 40 #[(t 11),(t 12)] #[30,86]),o 10 (mv 13),o 14 (xt 10 0),o 15 (xt 10 1),o 16 (xt 10 2),o 6 (av 14),o 7 (av 15),o 8 (av 16)])
(S (.block 0 (S (R [o 18 (mv 8),o 19 (.binOp .neq 41 (.tmp 18) (.const (.int .i64 0)) 41),o 17 (av 19)])
(.cond (t 17)
(S (R [o 20 (.build 30 #[]),w (st 30 4 20),o 5 (an 2400)])
(.ret [4,5]))
(S (R [o 22 (mv 7),o 23 (.unOp .not 4 (.tmp 22)),o 21 (av 23)])
(.cond (t 21)
(S (R [o 24 (ld 30 2),o 25 (cl 25 #[(t 24)] #[30]),w (st 30 4 25),o 5 (an 0)])
(.ret [4,5]))
.skip)))))
(S (R [o 27 (ld 30 2),o 28 (mv 6),o 29 (cl 39 #[(t 27),(t 28)] #[30,3]),o 26 (mv 29),o 30 (xt 26 0),o 31 (xt 26 1),o 9 (al 30),w (st 30 9 30),o 8 (av 31)])
(S (S (R [o 32 (mv 8),o 33 (.binOp .neq 41 (.tmp 32) (.const (.int .i64 0)) 41)])
(.cond (t 33)
(S (R [o 34 (.build 30 #[]),w (st 30 4 34),o 5 (an 2400)])
(.ret [4,5]))
.skip))
(S (R [o 35 (ld 30 9),w (st 30 4 35),o 5 (an 0)])
(.ret [4,5])))))))
def g38:IFn:=⟨36,[.cell 4 30,.tmp 5],[30,41],c38,[],false,none⟩
def c39:IR:=(S (R [z 2 (bx 30 0),o 4 (al 30),o 5 (an 0)])
(S (S (R [o 8 (mv 1),o 9 (cl 50 #[(t 2),(t 8)] #[73,3]),o 10 (.unOp .not 4 (.tmp 9))])
(.cond (t 10)
(S (R [o 11 (.build 30 #[]),w (st 30 4 11),o 5 (an 2300)])
(.ret [4,5]))
.skip))
(S (R [o 13 (ld 30 2),o 14 (mv 1),o 15 (.build 129 #[(0,(.tmp 13)),(1,(.tmp 14))]),o 16 (cl 80 #[(t 15)] #[129]),o 12 (mv 16),o 17 (xt 12 0),o 18 (xt 12 1),o 6 (al 30),w (st 30 6 17),o 7 (av 18)])
(S (S (R [o 19 (mv 7),o 20 (.binOp .neq 41 (.tmp 19) (.const (.int .i64 0)) 41)])
(.cond (t 20)
(S (R [o 21 (.build 30 #[]),w (st 30 4 21),o 5 (an 2300)])
(.ret [4,5]))
.skip))
(S (R [o 22 (ld 30 6),w (st 30 4 22),o 5 (an 0)])
(.ret [4,5]))))))
def g39:IFn:=⟨23,[.cell 4 30,.tmp 5],[30,41],c39,[],false,none⟩
def HE:IR:=(S (R [o 22 (bo .lss (t 21) (t 20))])
(S (.cond (t 22)
.skip
(.exit 0 [3,7]))
(S (.block 1 (S (R [o 23 (mv 21),o 24 (ia 27 19 21),o 25 (ld 38 24),o 9 (al 38),o 8 (av 23),w (st 38 9 25)])
(S (R [o 26 (fa 38 9 1),o 27 (ld 3 26),o 28 (fa 86 3 0),o 29 (ld 3 28),o 30 (bo .eql (t 27) (t 29)),o 31 (mv 30),oT 32 (fa 38 9 4) 31,oT 33 (ld 3 32) 31,oT 34 (bo .neq (t 33) (n 6)) 31,o 35 (.pick (.tmp 31) (.tmp 34) (.const (.bool false)))])
(.cond (t 35)
(R [o 36 (mv 7),o 37 (mv 8),o 38 (.buildSlice 22 1 #[(0,(.tmp 37))]),o 39 (.call { callee:=(.builtin .append),args:=#[(.tmp 36),(.tmp 38)],argTypes:=#[22,22] }),o 7 (av 39)])
.skip))))
(R [o 40 (bo .add (t 21) (n 1)),o 21 (mv 40)]))))
def c40:IR:=(S (R [z 2 (bx 30 0),z 3 (bx 86 1),o 4 (an 0),o 5 (ab false),o 6 (an 0)])
(S (S (R [o 10 (ld 30 2),o 11 (cl 79 #[(t 10)] #[30]),o 12 (.unOp .not 4 (.tmp 11)),o 13 (mv 12),oF 14 (ld 86 3) 13,oF 15 (cl 81 #[(t 14)] #[86]) 13,oF 16 (.unOp .not 4 (.tmp 15)) 13,o 17 (.pick (.tmp 13) (.const (.bool true)) (.tmp 16))])
(.cond (t 17)
(S (R [o 4 (an 0),o 5 (ab false),o 6 (an 2400)])
(.ret [4,5,6]))
.skip))
(S (R [o 7 (.assign (.const (.slice none 0 0)))])
(S (S (R [o 18 (fa 30 2 3),o 19 (ld 27 18),o 20 (len 19 27),o 21 (.move (.const (.int .i64 0)))])
(.block 0 (.loop [3,7,19,20,21] HE)))
(S (S (R [o 41 (mv 7),o 42 (len 41 22),o 43 (bo .eql (t 42) (n 0))])
(.cond (t 43)
(S (R [o 4 (an 0),o 5 (ab false),o 6 (an 0)])
(.ret [4,5,6]))
.skip))
(S (R [o 44 (mv 7),o 45 (fa 86 3 1),o 46 (ld 3 45),o 47 (mv 7),o 48 (len 47 22),o 49 (bo .rem (t 46) (t 48)),o 50 (ia 22 44 49),o 51 (ld 3 50),o 4 (av 51),o 5 (ab true),o 6 (an 0)])
(.ret [4,5,6])))))))
def g40:IFn:=⟨52,[.tmp 4,.tmp 5,.tmp 6],[3,4,41],c40,[],false,none⟩
def c41:IR:=(S (R [z 1 (bx 54 0),o 2 (ab false)])
(S (R [o 7 (ld 54 1),o 8 (cl 37 #[(t 7)] #[54]),o 6 (mv 8),o 9 (xt 6 0),o 10 (xt 6 1),o 3 (al 30),w (st 30 3 9),o 4 (av 10)])
(S (R [o 5 (.assign (.func 82))])
(S (R [o 11 (mv 4),o 12 (.binOp .eql 41 (.tmp 11) (.const (.int .i64 0)) 41),o 13 (mv 12),oT 14 (fa 54 1 3) 13,oT 15 (ld 52 14) 13,oT 16 (len 15 52) 13,oT 17 (bo .leq (t 16) (n 256)) 13,o 18 (.pick (.tmp 13) (.tmp 17) (.const (.bool false))),o 19 (mv 18),oT 20 (fa 54 1 3) 19,oT 21 (ld 52 20) 19,oT 22 (mv 5) 19,oT 23 (cl 83 #[(t 21),(t 22)] #[52,131]) 19,oT 24 (.unOp .not 4 (.tmp 23)) 19,o 25 (.pick (.tmp 19) (.tmp 24) (.const (.bool false))),o 2 (av 25)])
(.ret [2])))))
def g41:IFn:=⟨26,[.tmp 2],[4],c41,[],false,none⟩
def Xe:IR:=D [o 10 (mv 5),o 11 (ia 25 2 10),o 12 (ld 24 11),o 13 (mv 5),o 14 (ia 25 3 13),o 15 (ld 24 14),o 16 (cl 84 #[(t 12),(t 15)] #[24,24]),o 17 (.unOp .not 4 (.tmp 16))] [[],[0],[1],[],[3],[4],[2,5],[6]]
def TE:IR:=(S (S (R [o 6 (mv 5),o 7 (bo .lss (t 6) (n 4))])
(.cond (t 7)
.skip
(.exit 0 [])))
(S (.block 1 (S Xe
(.cond (t 17)
(S (R [o 4 (ab false)])
(.ret [4]))
.skip)))
(R [o 8 (mv 5),o 9 (bo .add (t 8) (n 1)),o 5 (av 9)])))
def c42:IR:=(S (R [z 2 (bx 25 0),z 3 (bx 25 1),o 4 (ab false)])
(S (S (R [o 5 (an 0)])
(.block 0 (.loop [2,3,5] TE)))
(S (R [o 4 (ab true)])
(.ret [4]))))
def g42:IFn:=⟨18,[.tmp 4],[4],c42,[],false,none⟩
def c43:IR:=(S (R [z 2 (bx 38 0),z 3 (bx 38 1),o 4 (ab false)])
(S (R [o 5 (fa 38 2 0),o 6 (ld 3 5),o 7 (fa 38 3 0),o 8 (ld 3 7),o 9 (bo .eql (t 6) (t 8)),o 10 (mv 9),oT 11 (fa 38 2 1) 10,oT 12 (ld 3 11) 10,oT 13 (fa 38 3 1) 10,oT 14 (ld 3 13) 10,oT 15 (bo .eql (t 12) (t 14)) 10,o 16 (.pick (.tmp 10) (.tmp 15) (.const (.bool false))),o 17 (mv 16),oT 18 (fa 38 2 2) 17,oT 19 (ld 3 18) 17,oT 20 (fa 38 3 2) 17,oT 21 (ld 3 20) 17,oT 22 (bo .eql (t 19) (t 21)) 17,o 23 (.pick (.tmp 17) (.tmp 22) (.const (.bool false))),o 24 (mv 23),oT 25 (fa 38 2 3) 24,oT 26 (ld 34 25) 24,oT 27 (fa 38 3 3) 24,oT 28 (ld 34 27) 24,oT 29 (cl 85 #[(t 26),(t 28)] #[34,34]) 24,o 30 (.pick (.tmp 24) (.tmp 29) (.const (.bool false))),o 31 (mv 30),oT 32 (fa 38 2 4) 31,oT 33 (ld 3 32) 31,oT 34 (fa 38 3 4) 31,oT 35 (ld 3 34) 31,oT 36 (bo .eql (t 33) (t 35)) 31,o 37 (.pick (.tmp 31) (.tmp 36) (.const (.bool false))),o 38 (mv 37),oT 39 (fa 38 2 5) 38,oT 40 (ld 3 39) 38,oT 41 (fa 38 3 5) 38,oT 42 (ld 3 41) 38,oT 43 (bo .eql (t 40) (t 42)) 38,o 44 (.pick (.tmp 38) (.tmp 43) (.const (.bool false))),o 45 (mv 44),oT 46 (fa 38 2 6) 45,oT 47 (ld 26 46) 45,oT 48 (fa 38 3 6) 45,oT 49 (ld 26 48) 45,oT 50 (.binOp .eql 26 (.tmp 47) (.tmp 49) 26) 45,o 51 (.pick (.tmp 45) (.tmp 50) (.const (.bool false))),o 52 (mv 51),oT 53 (fa 38 2 7) 52,oT 54 (ld 35 53) 52,oT 55 (fa 38 3 7) 52,oT 56 (ld 35 55) 52,oT 57 (cl 86 #[(t 54),(t 56)] #[35,35]) 52,o 58 (.pick (.tmp 52) (.tmp 57) (.const (.bool false))),o 59 (mv 58),oT 60 (fa 38 2 8) 59,oT 61 (ld 36 60) 59,oT 62 (fa 38 3 8) 59,oT 63 (ld 36 62) 59,oT 64 (cl 87 #[(t 61),(t 63)] #[36,36]) 59,o 65 (.pick (.tmp 59) (.tmp 64) (.const (.bool false))),o 66 (mv 65),oT 67 (fa 38 2 9) 66,oT 68 (ld 3 67) 66,oT 69 (fa 38 3 9) 66,oT 70 (ld 3 69) 66,oT 71 (bo .eql (t 68) (t 70)) 66,o 72 (.pick (.tmp 66) (.tmp 71) (.const (.bool false))),o 73 (mv 72),oT 74 (fa 38 2 10) 73,oT 75 (ld 3 74) 73,oT 76 (fa 38 3 10) 73,oT 77 (ld 3 76) 73,oT 78 (bo .eql (t 75) (t 77)) 73,o 79 (.pick (.tmp 73) (.tmp 78) (.const (.bool false))),o 80 (mv 79),oT 81 (fa 38 2 11) 80,oT 82 (ld 3 81) 80,oT 83 (fa 38 3 11) 80,oT 84 (ld 3 83) 80,oT 85 (bo .eql (t 82) (t 84)) 80,o 86 (.pick (.tmp 80) (.tmp 85) (.const (.bool false))),o 87 (mv 86),oT 88 (fa 38 2 12) 87,oT 89 (ld 3 88) 87,oT 90 (fa 38 3 12) 87,oT 91 (ld 3 90) 87,oT 92 (bo .eql (t 89) (t 91)) 87,o 93 (.pick (.tmp 87) (.tmp 92) (.const (.bool false))),o 94 (mv 93),oT 95 (fa 38 2 13) 94,oT 96 (ld 3 95) 94,oT 97 (fa 38 3 13) 94,oT 98 (ld 3 97) 94,oT 99 (bo .eql (t 96) (t 98)) 94,o 100 (.pick (.tmp 94) (.tmp 99) (.const (.bool false))),o 4 (av 100)])
(.ret [4])))
def g43:IFn:=⟨101,[.tmp 4],[4],c43,[],false,none⟩
def NA:IR:=(S (R [o 8 (bo .lss (t 7) (t 6))])
(S (.cond (t 8)
.skip
(.exit 0 [0]))
(S (.block 1 (S (R [o 9 (mv 7),o 10 (ia 34 5 7),o 11 (ld 40 10),o 4 (al 40),o 3 (av 9),w (st 40 4 11)])
(S (R [o 12 (ld 40 4),o 13 (cl 88 #[(t 12)] #[40]),o 14 (.unOp .not 4 (.tmp 13)),o 15 (mv 14),oF 16 (fa 40 4 0) 15,oF 17 (ld 3 16) 15,oF 18 (bo .eql (t 17) (n 4)) 15,oF 19 (mv 18) 15,oT 20 (fa 40 4 2) 19,oT 21 (ld 3 20) 19,oT 22 (mv 3) 19,oT 23 (bo .leq (t 21) (t 22)) 19,oT 24 (mv 23) 19,oF 25 (fa 40 4 2) 24,oF 26 (ld 3 25) 24,oF 27 (mv 0) 24,oF 28 (len 27 34) 24,oF 29 (bo .gtr (t 26) (t 28)) 24,oT 30 (.pick (.tmp 24) (.const (.bool true)) (.tmp 29)) 19,oF 31 (.pick (.tmp 19) (.tmp 30) (.const (.bool false))) 15,o 32 (.pick (.tmp 15) (.const (.bool true)) (.tmp 31))])
(.cond (t 32)
(S (R [o 2 (ab false)])
(.ret [2]))
.skip))))
(R [o 33 (bo .add (t 7) (n 1)),o 7 (mv 33)]))))
def c44:IR:=(S (R [o 2 (ab false)])
(S (S (R [o 5 (mv 0),o 6 (len 5 34),o 7 (.move (.const (.int .i64 0)))])
(.block 0 (.loop [0,5,6,7] NA)))
(S (R [o 34 (mv 0),o 35 (len 34 34),o 36 (bo .leq (t 35) (n 16)),o 2 (av 36)])
(.ret [2]))))
def g44:IFn:=⟨37,[.tmp 2],[4],c44,[],false,none⟩
def c45:IR:=(S (R [z 1 (bx 40 0),o 2 (.assign (.const (.string { data:=#[] }))),o 3 (an 0)])
(S (S (R [o 4 (ld 40 1),o 5 (cl 88 #[(t 4)] #[40]),o 6 (.unOp .not 4 (.tmp 5))])
(.cond (t 6)
(S (R [o 2 (.assign (.const (.string { data:=#[] }))),o 3 (an 700)])
(.ret [2,3]))
.skip))
(S (R [o 7 (fa 40 1 0),o 8 (ld 3 7),o 9 (.convert 3 5 (.tmp 8)),o 10 (fa 40 1 1),o 11 (ld 3 10),o 12 (.convert 3 5 (.tmp 11)),o 13 (fa 40 1 2),o 14 (ld 3 13),o 15 (.convert 3 5 (.tmp 14)),o 16 (fa 40 1 3),o 17 (ld 3 16),o 18 (.convert 3 5 (.tmp 17)),o 19 (.buildSlice 93 4 #[(0,(.tmp 9)),(1,(.tmp 12)),(2,(.tmp 15)),(3,(.tmp 18))]),z 20 (.convert 93 9 (.tmp 19)),o 2 (av 20),o 3 (an 0)])
(.ret [2,3]))))
def g45:IFn:=⟨21,[.tmp 2,.tmp 3],[9,41],c45,[],false,none⟩
def Xd:IR:=D [o 9 (mv 0),z 10 (.index 9 (.tmp 9) (.const (.int .i64 0))),o 11 (.convert 5 3 (.tmp 10)),o 12 (mv 0),z 13 (.index 9 (.tmp 12) (.const (.int .i64 1))),o 14 (.convert 5 3 (.tmp 13)),o 15 (mv 0),z 16 (.index 9 (.tmp 15) (.const (.int .i64 2))),o 17 (.convert 5 3 (.tmp 16)),o 18 (mv 0),z 19 (.index 9 (.tmp 18) (.const (.int .i64 3))),o 20 (.convert 5 3 (.tmp 19)),o 21 (.build 40 #[(0,(.tmp 11)),(1,(.tmp 14)),(2,(.tmp 17)),(3,(.tmp 20))]),o 4 (al 40),w (st 40 4 21)] [[],[0],[1],[],[3],[4],[],[6],[7],[],[9],[10],[2,5,8,11],[],[13,12,0,1,2,3,4,5,6,7,8,9,10,11,12,13]]
def c46:IR:=(S (R [o 2 (al 40),o 3 (an 0)])
(S (S (R [o 5 (mv 0),o 6 (len 5 9),o 7 (bo .neq (t 6) (n 4))])
(.cond (t 7)
(S (R [o 8 (.build 40 #[]),w (st 40 2 8),o 3 (an 700)])
(.ret [2,3]))
.skip))
(S Xd
(S (S (R [o 22 (ld 40 4),o 23 (cl 88 #[(t 22)] #[40]),o 24 (.unOp .not 4 (.tmp 23))])
(.cond (t 24)
(S (R [o 25 (.build 40 #[]),w (st 40 2 25),o 3 (an 700)])
(.ret [2,3]))
.skip))
(S (R [o 26 (ld 40 4),w (st 40 2 26),o 3 (an 0)])
(.ret [2,3]))))))
def g46:IFn:=⟨27,[.cell 2 40,.tmp 3],[40,41],c46,[],false,none⟩
def c47:IR:=(S (R [o 2 (ab false)])
(S (R [o 3 (mv 0),o 4 (cl 89 #[(t 3),(n 254)] #[3,3]),o 2 (av 4)])
(.ret [2])))
def g47:IFn:=⟨5,[.tmp 2],[4],c47,[],false,none⟩
def c48:IR:=(S (R [o 2 (ab false)])
(S (R [o 3 (mv 0),o 4 (bo .geq (t 3) (n 0)),o 5 (mv 4),oT 6 (mv 0) 5,oT 7 (bo .lss (t 6) (n 4)) 5,o 8 (.pick (.tmp 5) (.tmp 7) (.const (.bool false))),o 2 (av 8)])
(.ret [2])))
def g48:IFn:=⟨9,[.tmp 2],[4],c48,[],false,none⟩
def a0h:IR:=(S (S (R [o 20 (mv 7),o 21 (fa 54 1 2),o 22 (ld 51 21),o 23 (len 22 51),o 24 (bo .lss (t 20) (t 23))])
(.cond (t 24)
.skip
(.exit 0 [2,5,6])))
(S (.block 1 (S (R [o 28 (fa 54 1 2),o 29 (ld 51 28),o 30 (mv 7),o 31 (ia 51 29 30),o 32 (ld 62 31),o 33 (cl 91 #[(t 32)] #[62]),o 27 (mv 33),o 34 (xt 27 0),o 35 (xt 27 1),o 8 (al 38),w (st 38 8 34),o 9 (av 35)])
(S (S (R [o 36 (mv 9),o 37 (bo .neq (t 36) (n 0))])
(.cond (t 37)
(S (R [o 38 (.build 30 #[]),w (st 30 2 38),o 3 (an 1200)])
(.ret [2,3]))
.skip))
(R [o 39 (fa 30 6 3),o 40 (ld 27 39),o 41 (ld 38 8),o 42 (.buildSlice 27 1 #[(0,(.tmp 41))]),o 43 (.call { callee:=(.builtin .append),args:=#[(.tmp 40),(.tmp 42)],argTypes:=#[27,27] }),o 44 (fa 30 6 3),w (st 27 44 43)]))))
(R [o 25 (mv 7),o 26 (bo .add (t 25) (n 1)),o 7 (av 26)])))
def c49:IR:=(S (R [z 1 (bx 54 0),o 2 (al 30),o 3 (an 0)])
(S (R [o 11 (fa 54 1 0),o 12 (ld 50 11),o 13 (cl 90 #[(t 12)] #[50]),o 10 (mv 13),o 14 (xt 10 0),o 15 (xt 10 1),o 4 (al 25),w (st 25 4 14),o 5 (av 15)])
(S (R [o 16 (ld 25 4),o 17 (fa 54 1 1),o 18 (ld 3 17),o 19 (.build 30 #[(0,(.tmp 16)),(2,(.tmp 18))]),o 6 (al 30),w (st 30 6 19)])
(S (S (R [o 7 (an 0)])
(.block 0 (.loop [1,2,5,6,7] a0h)))
(S (S (R [o 45 (mv 5),o 46 (bo .neq (t 45) (n 0)),o 47 (mv 46),oF 48 (ld 30 6) 47,oF 49 (cl 58 #[(t 48)] #[30]) 47,oF 50 (.unOp .not 4 (.tmp 49)) 47,o 51 (.pick (.tmp 47) (.const (.bool true)) (.tmp 50))])
(.cond (t 51)
(S (R [o 52 (.build 30 #[]),w (st 30 2 52),o 3 (an 1200)])
(.ret [2,3]))
.skip))
(S (R [o 53 (ld 30 6),w (st 30 2 53),o 3 (an 0)])
(.ret [2,3])))))))
def g49:IFn:=⟨54,[.cell 2 30,.tmp 3],[30,3],c49,[],false,none⟩
def c50:IR:=(S (R [o 4 (ab false)])
(S (R [o 5 (mv 0),o 6 (nc 5),o 7 (ld 30 6),o 8 (cl 79 #[(t 7)] #[30]),o 9 (mv 8),oT 10 (mv 1) 9,oT 11 (bo .geq (t 10) (n 0)) 9,o 12 (.pick (.tmp 9) (.tmp 11) (.const (.bool false))),o 13 (mv 12),oT 14 (mv 1) 13,oT 15 (mv 0) 13,oT 16 (nc 15) 13,oT 17 (fa 30 16 3) 13,oT 18 (ld 27 17) 13,oT 19 (len 18 27) 13,oT 20 (bo .lss (t 14) (t 19)) 13,o 21 (.pick (.tmp 13) (.tmp 20) (.const (.bool false))),o 4 (av 21)])
(.ret [4])))
def g50:IFn:=⟨22,[.tmp 4],[4],c50,[],false,none⟩
def c51:IR:=(S (R [o 4 (ab false)])
(S (R [o 5 (mv 0),o 6 (mv 1),o 7 (cl 92 #[(t 5),(t 6)] #[22,3]),o 8 (bo .geq (t 7) (n 0)),o 4 (av 8)])
(.ret [4])))
def g51:IFn:=⟨9,[.tmp 4],[4],c51,[],false,none⟩
def c52:IR:=(S (R [o 2 (ab false)])
(S (R [o 3 (mv 0),o 4 (cl 89 #[(t 3),(n 255)] #[3,3]),o 2 (av 4)])
(.ret [2])))
def g52:IFn:=⟨5,[.tmp 2],[4],c52,[],false,none⟩
def c53:IR:=(S (R [o 4 (.assign (.const (.pointer none)))])
(S (R [o 6 (mv 0),o 7 (nc 6),o 8 (fa 30 7 3),o 9 (ld 27 8),o 10 (mv 1),o 11 (ia 27 9 10),o 5 (av 11)])
(S (R [o 12 (mv 0),o 13 (mv 5),o 14 (nc 13),o 15 (fa 38 14 0),o 16 (ld 3 15),o 17 (cl 93 #[(t 12),(t 16)] #[73,3])])
(S (R [o 18 (mv 5),o 19 (mv 5),o 20 (mv 5),o 21 (mv 5),o 22 (nc 18),o 23 (fa 38 22 7),w (.store 35 (.tmp 23) (.const (.slice none 0 0))),o 24 (nc 19),o 25 (fa 38 24 8),w (.store 36 (.tmp 25) (.const (.slice none 0 0))),o 26 (nc 20),o 27 (fa 38 26 9),w (.store 3 (.tmp 27) (.const (.int .i64 0))),o 28 (nc 21),o 29 (fa 38 28 10),w (.store 3 (.tmp 29) (.const (.int .i64 0)))])
(S (R [o 30 (mv 5),o 4 (av 30)])
(.ret [4]))))))
def g53:IFn:=⟨31,[.tmp 4],[74],c53,[],true,none⟩
def pI:IR:=(S (R [o 5 (bo .lss (t 4) (n 4))])
(S (.cond (t 5)
.skip
(.exit 0 [1,2]))
(S (.block 1 (S (R [o 6 (mv 4),o 3 (av 6)])
(R [o 7 (mv 3),o 8 (mv 3),o 9 (ia 25 1 8),o 10 (ld 24 9),o 11 (cl 94 #[(t 10)] #[24]),o 12 (ia 25 1 7),w (st 24 12 11)])))
(R [o 13 (bo .add (t 4) (n 1)),o 4 (mv 13)]))))
def c54:IR:=(S (R [o 1 (bx 25 0),o 2 (al 25)])
(S (S (R [o 4 (.move (.const (.int .i64 0)))])
(.block 0 (.loop [1,2,4] pI)))
(S (R [o 14 (ld 25 1),w (st 25 2 14)])
(.ret [2]))))
def g54:IFn:=⟨15,[.cell 2 25],[25],c54,[],false,none⟩
def c55:IR:=(S (R [o 2 (.assign (.const (.slice none 0 0)))])
(S (S (R [o 3 (mv 0),o 4 (.binOp .eql 27 (.tmp 3) (.const (.slice none 0 0)) 27)])
(.cond (t 4)
(S (R [o 2 (.assign (.const (.slice none 0 0)))])
(.ret [2]))
.skip))
(S (R [o 5 (.buildSlice 27 0 #[]),o 6 (mv 0),o 7 (.call { callee:=(.builtin .append),args:=#[(.tmp 5),(.tmp 6)],argTypes:=#[27,27] }),o 2 (av 7)])
(.ret [2]))))
def g55:IFn:=⟨8,[.tmp 2],[27],c55,[],false,some (17,184)⟩
def c56:IR:=(S (R [o 2 (.assign (.const (.slice none 0 0)))])
(S (S (R [o 3 (mv 0),o 4 (.binOp .eql 28 (.tmp 3) (.const (.slice none 0 0)) 28)])
(.cond (t 4)
(S (R [o 2 (.assign (.const (.slice none 0 0)))])
(.ret [2]))
.skip))
(S (R [o 5 (.buildSlice 28 0 #[]),o 6 (mv 0),o 7 (.call { callee:=(.builtin .append),args:=#[(.tmp 5),(.tmp 6)],argTypes:=#[28,28] }),o 2 (av 7)])
(.ret [2]))))
def g56:IFn:=⟨8,[.tmp 2],[28],c56,[],false,some (4,32)⟩
def Xc:IR:=D [o 3 (fa 38 1 3),o 4 (ld 34 3),o 5 (cl 95 #[(t 4)] #[34]),o 6 (fa 38 1 7),o 7 (ld 35 6),o 8 (cl 96 #[(t 7)] #[35]),o 9 (fa 38 1 8),o 10 (ld 36 9),o 11 (cl 97 #[(t 10)] #[36]),o 12 (fa 38 1 3),w (st 34 12 5),o 13 (fa 38 1 7),w (st 35 13 8),o 14 (fa 38 1 8),w (st 36 14 11)] [[],[0],[1],[],[3],[4,2],[],[6],[7,5],[0,1,2,3,4,6,7],[9,2,8,0,1,2,3,4,6,7],[0,1,2,3,4,5,6,7,9,10],[11,5,10,0,1,2,3,4,5,6,7,9,10],[0,1,2,3,4,5,6,7,8,9,10,11,12],[13,8,12,0,1,2,3,4,5,6,7,8,9,10,11,12]]
def c57:IR:=(S (R [o 1 (bx 38 0),o 2 (al 38)])
(S Xc
(S (R [o 15 (ld 38 1),w (st 38 2 15)])
(.ret [2]))))
def g57:IFn:=⟨16,[.cell 2 38],[38],c57,[],false,none⟩
def Xb:IR:=D [o 32 (mv 3),o 33 (fa 30 1 1),o 34 (ia 26 33 32),o 35 (ld 3 34),o 36 (fa 30 1 2),o 37 (ld 3 36),o 38 (cl 100 #[(t 35),(n 0),(t 37)] #[3,3,3]),o 39 (.unOp .not 4 (.tmp 38))] [[],[],[1,0],[2],[],[4],[3,5],[6]]
def Nz:IR:=(S (S (R [o 28 (mv 3),o 29 (bo .lss (t 28) (n 4))])
(.cond (t 29)
.skip
(.exit 0 [1])))
(S (.block 1 (S Xb
(.cond (t 39)
(S (R [o 2 (ab false)])
(.ret [2]))
.skip)))
(R [o 30 (mv 3),o 31 (bo .add (t 30) (n 1)),o 3 (av 31)])))
def Xa:IR:=D [o 47 (ld 30 1),o 48 (fa 30 1 3),o 49 (ld 27 48),o 50 (mv 4),o 51 (ia 27 49 50),o 52 (ld 38 51),o 53 (cl 101 #[(t 47),(t 52)] #[30,38]),o 54 (.unOp .not 4 (.tmp 53)),o 55 (mv 54),oF 56 (mv 4) 55,oF 57 (bo .gtr (t 56) (n 0)) 55,oF 58 (mv 57) 55,oT 59 (fa 30 1 3) 58,oT 60 (ld 27 59) 58,oT 61 (mv 4) 58,oT 62 (ia 27 60 61) 58,oT 63 (fa 38 62 0) 58,oT 64 (ld 3 63) 58,oT 65 (fa 30 1 3) 58,oT 66 (ld 27 65) 58,oT 67 (mv 4) 58,oT 68 (bo .sub (t 67) (n 1)) 58,oT 69 (ia 27 66 68) 58,oT 70 (fa 38 69 0) 58,oT 71 (ld 3 70) 58,oT 72 (bo .leq (t 64) (t 71)) 58,oF 73 (.pick (.tmp 58) (.tmp 72) (.const (.bool false))) 55,o 74 (.pick (.tmp 55) (.const (.bool true)) (.tmp 73))] [[],[],[1],[],[2,3],[4],[0,5],[6],[7,6],[8],[9,8],[10,8,8],[11],[12,11],[11],[13,14,11],[15,11],[16,11],[11],[18,11],[11],[20,11],[19,21,11],[22,11],[23,11],[17,24,11],[11,25,8],[8,26]]
def LK:IR:=(S (S (R [o 40 (mv 4),o 41 (fa 30 1 3),o 42 (ld 27 41),o 43 (len 42 27),o 44 (bo .lss (t 40) (t 43))])
(.cond (t 44)
.skip
(.exit 2 [1])))
(S (.block 3 (S Xa
(.cond (t 74)
(S (R [o 2 (ab false)])
(.ret [2]))
.skip)))
(R [o 45 (mv 4),o 46 (bo .add (t 45) (n 1)),o 4 (av 46)])))
def Pt:IR:=(S (S (R [o 75 (mv 5),o 76 (fa 30 1 4),o 77 (ld 28 76),o 78 (len 77 28),o 79 (bo .lss (t 75) (t 78))])
(.cond (t 79)
.skip
(.exit 4 [])))
(S (.block 5 (S (R [o 82 (fa 30 1 4),o 83 (ld 28 82),o 84 (mv 5),o 85 (ia 28 83 84),o 86 (fa 71 85 1),o 87 (ld 3 86),o 88 (cl 102 #[(t 87)] #[3]),o 89 (.unOp .not 4 (.tmp 88))])
(.cond (t 89)
(S (R [o 2 (ab false)])
(.ret [2]))
.skip)))
(R [o 80 (mv 5),o 81 (bo .add (t 80) (n 1)),o 5 (av 81)])))
def c58:IR:=(S (R [z 1 (bx 30 0),o 2 (ab false)])
(S (S (R [o 6 (fa 30 1 0),o 7 (ld 25 6),o 8 (cl 98 #[(t 7)] #[25]),o 9 (.unOp .not 4 (.tmp 8)),o 10 (mv 9),oF 11 (fa 30 1 2) 10,oF 12 (ld 3 11) 10,oF 13 (cl 99 #[(t 12)] #[3]) 10,oF 14 (.unOp .not 4 (.tmp 13)) 10,o 15 (.pick (.tmp 10) (.const (.bool true)) (.tmp 14)),o 16 (mv 15),oF 17 (fa 30 1 3) 16,oF 18 (ld 27 17) 16,oF 19 (len 18 27) 16,oF 20 (bo .gtr (t 19) (n 4)) 16,o 21 (.pick (.tmp 16) (.const (.bool true)) (.tmp 20)),o 22 (mv 21),oF 23 (fa 30 1 4) 22,oF 24 (ld 28 23) 22,oF 25 (len 24 28) 22,oF 26 (bo .gtr (t 25) (n 512)) 22,o 27 (.pick (.tmp 22) (.const (.bool true)) (.tmp 26))])
(.cond (t 27)
(S (R [o 2 (ab false)])
(.ret [2]))
.skip))
(S (S (R [o 3 (an 0)])
(.block 0 (.loop [1,3] Nz)))
(S (S (R [o 4 (an 0)])
(.block 2 (.loop [1,4] LK)))
(S (S (R [o 5 (an 0)])
(.block 4 (.loop [1,5] Pt)))
(S (R [o 2 (ab true)])
(.ret [2])))))))
def g58:IFn:=⟨90,[.tmp 2],[4],c58,[],false,none⟩
def pH:IR:=(S (S (R [o 5 (mv 4),o 6 (bo .lss (t 5) (n 4))])
(.cond (t 6)
.skip
(.exit 0 [2,3])))
(S (.block 1 (R [o 9 (mv 4),o 10 (.buildSlice 24 0 #[]),o 11 (mv 4),o 12 (ia 25 1 11),o 13 (ld 24 12),o 14 (.call { callee:=(.builtin .append),args:=#[(.tmp 10),(.tmp 13)],argTypes:=#[24,24] }),o 15 (ia 25 3 9),w (st 24 15 14)]))
(R [o 7 (mv 4),o 8 (bo .add (t 7) (n 1)),o 4 (av 8)])))
def c59:IR:=(S (R [z 1 (bx 25 0),o 2 (al 25)])
(S (R [o 3 (al 25)])
(S (S (R [o 4 (an 0)])
(.block 0 (.loop [1,2,3,4] pH)))
(S (R [o 16 (ld 25 3),w (st 25 2 16)])
(.ret [2])))))
def g59:IFn:=⟨17,[.cell 2 25],[25],c59,[],false,none⟩
def c60:IR:=(S (R [o 1 (bx 38 0),o 2 (al 38)])
(S (R [o 3 (.buildSlice 34 0 #[]),o 4 (fa 38 1 3),o 5 (ld 34 4),o 6 (.call { callee:=(.builtin .append),args:=#[(.tmp 3),(.tmp 5)],argTypes:=#[34,34] }),o 7 (fa 38 1 3),w (st 34 7 6)])
(S (R [o 8 (.buildSlice 35 0 #[]),o 9 (fa 38 1 7),o 10 (ld 35 9),o 11 (.call { callee:=(.builtin .append),args:=#[(.tmp 8),(.tmp 10)],argTypes:=#[35,35] }),o 12 (fa 38 1 7),w (st 35 12 11)])
(S (R [o 13 (.buildSlice 36 0 #[]),o 14 (fa 38 1 8),o 15 (ld 36 14),o 16 (.call { callee:=(.builtin .append),args:=#[(.tmp 13),(.tmp 15)],argTypes:=#[36,36] }),o 17 (fa 38 1 8),w (st 36 17 16)])
(S (R [o 18 (ld 38 1),w (st 38 2 18)])
(.ret [2]))))))
def g60:IFn:=⟨19,[.cell 2 38],[38],c60,[],false,none⟩
def c61:IR:=(S (R [z 2 (bx 30 0),o 4 (an 0)])
(S (R [o 6 (fa 30 2 3),o 7 (ld 27 6),o 8 (mv 1),o 9 (ia 27 7 8),o 10 (ld 38 9),o 5 (al 38),w (st 38 5 10)])
(S (S (R [o 11 (fa 38 5 4),o 12 (ld 3 11),o 13 (bo .neq (t 12) (n 0)),o 14 (mv 13),oF 15 (fa 38 5 5) 14,oF 16 (ld 3 15) 14,oF 17 (fa 38 5 3) 14,oF 18 (ld 34 17) 14,oF 19 (len 18 34) 14,oF 20 (bo .geq (t 16) (t 19)) 14,o 21 (.pick (.tmp 14) (.const (.bool true)) (.tmp 20))])
(.cond (t 21)
(S (R [o 4 (an (-1))])
(.ret [4]))
.skip))
(S (R [o 22 (fa 38 5 3),o 23 (ld 34 22),o 24 (fa 38 5 5),o 25 (ld 3 24),o 26 (ia 34 23 25),o 27 (fa 40 26 0),o 28 (ld 3 27),o 4 (av 28)])
(.ret [4])))))
def g61:IFn:=⟨29,[.tmp 4],[3],c61,[],false,none⟩
def WZ:IR:=D [o 22 (fa 38 6 3),o 23 (ld 34 22),o 24 (fa 38 6 5),o 25 (ld 3 24),o 26 (ia 34 23 25),o 27 (fa 40 26 2),o 28 (ld 3 27),o 29 (fa 38 6 1),o 30 (ld 3 29),o 31 (cl 103 #[(t 28),(t 30)] #[3,3]),o 32 (.unOp .not 4 (.tmp 31)),o 4 (av 32),o 5 (an 0)] [[],[0],[],[2],[1,3],[4],[5],[],[7],[6,8],[9],[10,9,0,1,2,3,4,5,6,7,8,9,10],[11,0,1,2,3,4,5,6,7,8,9,10,11]]
def c62:IR:=(S (R [z 2 (bx 30 0),o 4 (ab false),o 5 (an 0)])
(S (S (R [o 7 (ld 30 2),o 8 (mv 1),o 9 (cl 27 #[(t 7),(t 8)] #[30,3]),o 10 (.unOp .not 4 (.tmp 9)),o 11 (mv 10),oF 12 (ld 30 2) 11,oF 13 (mv 1) 11,oF 14 (cl 61 #[(t 12),(t 13)] #[30,3]) 11,oF 15 (bo .neq (t 14) (n 2)) 11,o 16 (.pick (.tmp 11) (.const (.bool true)) (.tmp 15))])
(.cond (t 16)
(S (R [o 4 (ab false),o 5 (an 1400)])
(.ret [4,5]))
.skip))
(S (R [o 17 (fa 30 2 3),o 18 (ld 27 17),o 19 (mv 1),o 20 (ia 27 18 19),o 21 (ld 38 20),o 6 (al 38),w (st 38 6 21)])
(S WZ
(.ret [4,5])))))
def g62:IFn:=⟨33,[.tmp 4,.tmp 5],[4,3],c62,[],false,none⟩
def WY:IR:=D [o 29 (fa 38 8 1),o 30 (ld 3 29),o 31 (fa 38 8 3),o 32 (ld 34 31),o 33 (fa 38 8 5),o 34 (ld 3 33),o 35 (ia 34 32 34),o 36 (fa 40 35 2),o 37 (ld 3 36),o 38 (bo .or (t 30) (t 37)),o 9 (av 38)] [[],[0],[],[2],[],[4],[3,5],[6],[7],[1,8],[9,0,1,2,3,4,5,6,7,8,9]]
def c63:IR:=(S (R [z 2 (bx 30 0),o 4 (al 30),o 5 (an 0)])
(S (R [o 12 (ld 30 2),o 13 (mv 1),o 14 (cl 62 #[(t 12),(t 13)] #[30,3]),o 11 (mv 14),o 15 (xt 11 0),o 16 (xt 11 1),o 6 (av 15),o 7 (av 16)])
(S (S (R [o 17 (mv 7),o 18 (bo .neq (t 17) (n 0)),o 19 (mv 18),oF 20 (mv 6) 19,oF 21 (.unOp .not 4 (.tmp 20)) 19,o 22 (.pick (.tmp 19) (.const (.bool true)) (.tmp 21))])
(.cond (t 22)
(S (R [o 23 (.build 30 #[]),w (st 30 4 23),o 5 (an 1400)])
(.ret [4,5]))
.skip))
(S (R [o 24 (fa 30 2 3),o 25 (ld 27 24),o 26 (mv 1),o 27 (ia 27 25 26),o 28 (ld 38 27),o 8 (al 38),w (st 38 8 28)])
(S WY
(S (S (R [o 39 (mv 9),o 40 (fa 38 8 2),o 41 (ld 3 40),o 42 (cl 103 #[(t 39),(t 41)] #[3,3]),o 43 (.unOp .not 4 (.tmp 42))])
(.cond (t 43)
(S (R [o 44 (ld 30 2),o 45 (mv 1),o 46 (cl 67 #[(t 44),(t 45),(n 4),(n 0)] #[30,3,3,3]),o 47 (xt 46 0),o 48 (xt 46 1),w (st 30 4 47),o 5 (av 48)])
(.ret [4,5]))
.skip))
(S (R [o 49 (ld 30 2),o 50 (cl 28 #[(t 49)] #[30]),o 51 (mv 1),o 52 (mv 9),o 53 (cl 75 #[(t 50),(t 51),(n 2),(t 52)] #[30,3,3,3]),o 10 (al 30),w (st 30 10 53)])
(S (R [o 54 (fa 30 10 3),o 55 (ld 27 54),o 56 (mv 1),o 57 (mv 9),o 58 (ia 27 55 56),o 59 (fa 38 58 1),w (st 3 59 57)])
(S (R [o 60 (ld 30 10),w (st 30 4 60),o 5 (an 0)])
(.ret [4,5]))))))))))
def g63:IFn:=⟨61,[.cell 4 30,.tmp 5],[30,3],c63,[],false,none⟩
def WX:IR:=D [o 55 (fa 40 9 2),o 56 (ld 3 55),o 57 (fa 30 2 0),o 58 (ia 25 57 56),o 59 (ld 24 58),o 60 (fa 40 9 3),o 61 (ld 3 60),o 62 (ia 24 59 61),o 63 (ld 33 62),o 13 (al 33),w (st 33 13 63)] [[],[0],[],[2,1],[3],[],[5],[4,6],[7],[],[9,8,0,1,2,3,4,5,6,7,8,9]]
def WW:IR:=D [o 110 (fa 30 12 3),o 111 (ld 27 110),o 112 (mv 1),o 113 (fa 40 9 1),o 114 (ld 3 113),o 115 (mv 10),o 116 (ia 27 111 112),o 117 (fa 38 116 6),o 118 (ia 26 117 114),w (st 3 118 115)] [[],[0],[],[],[3],[],[1,2],[6],[7,4,0,1,2,3,4,5],[8,5,0,1,2,3,4,5]]
def c64:IR:=(S (R [z 2 (bx 30 0),o 4 (al 30),o 5 (an 0)])
(S (R [o 19 (ld 30 2),o 20 (mv 1),o 21 (cl 62 #[(t 19),(t 20)] #[30,3]),o 18 (mv 21),o 22 (xt 18 0),o 23 (xt 18 1),o 6 (av 22),o 7 (av 23)])
(S (S (R [o 24 (mv 7),o 25 (bo .neq (t 24) (n 0)),o 26 (mv 25),oF 27 (mv 6) 26,o 28 (.pick (.tmp 26) (.const (.bool true)) (.tmp 27))])
(.cond (t 28)
(S (R [o 29 (.build 30 #[]),w (st 30 4 29),o 5 (an 1500)])
(.ret [4,5]))
.skip))
(S (R [o 30 (fa 30 2 3),o 31 (ld 27 30),o 32 (mv 1),o 33 (ia 27 31 32),o 34 (ld 38 33),o 8 (al 38),w (st 38 8 34)])
(S (R [o 35 (fa 38 8 3),o 36 (ld 34 35),o 37 (fa 38 8 5),o 38 (ld 3 37),o 39 (ia 34 36 38),o 40 (ld 40 39),o 9 (al 40),w (st 40 9 40)])
(S (R [o 42 (fa 38 8 8),o 43 (ld 36 42),o 44 (fa 40 9 2),o 45 (ld 3 44),o 46 (fa 40 9 3),o 47 (ld 3 46),o 48 (cl 104 #[(t 43),(t 45),(t 47)] #[36,3,3]),o 41 (mv 48),o 49 (xt 41 0),o 50 (xt 41 1),o 10 (av 49),o 11 (av 50)])
(S (R [o 51 (ld 30 2),o 52 (cl 28 #[(t 51)] #[30]),o 12 (al 30),w (st 30 12 52)])
(S (S (R [o 53 (mv 11),o 54 (.unOp .not 4 (.tmp 53))])
(.cond (t 54)
(S WX
(S (R [o 65 (fa 30 2 0),o 66 (ld 25 65),o 67 (fa 38 8 7),o 68 (ld 35 67),o 69 (fa 38 8 0),o 70 (ld 3 69),o 71 (cl 73 #[(t 66),(t 68),(t 70)] #[25,35,3]),o 64 (mv 71),o 72 (xt 64 0),o 73 (xt 64 1),o 14 (av 72),o 15 (av 73)])
(S (S (R [o 74 (fa 33 13 2),o 75 (ld 3 74),o 76 (bo .neq (t 75) (n 0)),o 77 (mv 76),oF 78 (mv 14) 77,oF 79 (.unOp .not 4 (.tmp 78)) 77,o 80 (.pick (.tmp 77) (.const (.bool true)) (.tmp 79))])
(.cond (t 80)
(S (R [o 81 (ld 30 2),o 82 (mv 1),o 83 (cl 71 #[(t 81),(t 82),(n 3)] #[30,3,3]),o 84 (xt 83 0),o 85 (xt 83 1),w (st 30 4 84),o 5 (av 85)])
(.ret [4,5]))
.skip))
(S (R [o 87 (fa 38 8 7),o 88 (ld 35 87),o 89 (fa 40 9 2),o 90 (ld 3 89),o 91 (fa 40 9 3),o 92 (ld 3 91),o 93 (fa 33 13 1),o 94 (ld 3 93),o 95 (.build 148 #[(0,(.tmp 90)),(1,(.tmp 92)),(2,(.tmp 94))]),o 96 (cl 105 #[(t 88),(t 95)] #[35,148]),o 86 (mv 96),o 97 (xt 86 0),o 98 (xt 86 1),o 16 (av 97),o 17 (av 98)])
(S (S (R [o 99 (mv 17),o 100 (bo .neq (t 99) (n 0))])
(.cond (t 100)
(S (R [o 101 (.build 30 #[]),w (st 30 4 101),o 5 (an 1500)])
(.ret [4,5]))
.skip))
(S (R [o 102 (fa 30 12 3),o 103 (ld 27 102),o 104 (mv 1),o 105 (mv 16),o 106 (ia 27 103 104),o 107 (fa 38 106 7),w (st 35 107 105)])
(R [o 108 (fa 33 13 0),o 109 (ld 3 108),o 10 (av 109)])))))))
.skip))
(S WW
(S (R [o 119 (fa 30 12 3),o 120 (ld 27 119),o 121 (mv 1),o 122 (ia 27 120 121),o 123 (fa 38 122 5),o 124 (ld 3 123),o 125 (bo .add (t 124) (n 1)),o 126 (ia 27 120 121),o 127 (fa 38 126 5),w (st 3 127 125)])
(S (R [o 128 (ld 30 12),o 129 (mv 1),o 130 (mv 10),o 131 (cl 75 #[(t 128),(t 129),(n 0),(t 130)] #[30,3,3,3]),w (st 30 4 131),o 5 (an 0)])
(.ret [4,5]))))))))))))
def g64:IFn:=⟨132,[.cell 4 30,.tmp 5],[30,3],c64,[],false,none⟩
def WV:IR:=D [o 34 (fa 38 6 8),o 35 (ld 36 34),o 36 (fa 40 7 2),o 37 (ld 3 36),o 38 (fa 40 7 3),o 39 (ld 3 38),o 40 (fa 40 7 1),o 41 (ld 3 40),o 42 (fa 38 6 6),o 43 (ia 26 42 41),o 44 (ld 3 43),o 45 (.build 114 #[(0,(.tmp 37)),(1,(.tmp 39)),(2,(.tmp 44))]),o 46 (cl 106 #[(t 35),(t 45)] #[36,114]),o 33 (mv 46),o 47 (xt 33 0),o 48 (xt 33 1),o 8 (av 47),o 9 (av 48)] [[],[0],[],[2],[],[4],[],[6],[],[8,7],[9],[3,5,10],[1,11],[12],[13],[13],[14,12,0,1,2,3,4,5,6,7,8,9,10,11,12,13,14],[15,16,0,1,2,3,4,5,6,7,8,9,10,11,12,13,14,15,16]]
def WU:IR:=D [o 69 (ld 30 10),o 70 (mv 1),o 71 (fa 40 7 1),o 72 (ld 3 71),o 73 (fa 38 6 6),o 74 (ia 26 73 72),o 75 (ld 3 74),o 76 (cl 75 #[(t 69),(t 70),(n 1),(t 75)] #[30,3,3,3]),w (st 30 4 76),o 5 (an 0)] [[],[],[],[2],[],[4,3],[5],[0,1,6],[7,7,0,1,2,3,4,5,6,7],[8,0,1,2,3,4,5,6,7,8]]
def c65:IR:=(S (R [z 2 (bx 30 0),o 4 (al 30),o 5 (an 0)])
(S (S (R [o 11 (ld 30 2),o 12 (mv 1),o 13 (cl 27 #[(t 11),(t 12)] #[30,3]),o 14 (.unOp .not 4 (.tmp 13)),o 15 (mv 14),oF 16 (ld 30 2) 15,oF 17 (mv 1) 15,oF 18 (cl 61 #[(t 16),(t 17)] #[30,3]) 15,oF 19 (bo .neq (t 18) (n 3)) 15,o 20 (.pick (.tmp 15) (.const (.bool true)) (.tmp 19))])
(.cond (t 20)
(S (R [o 21 (.build 30 #[]),w (st 30 4 21),o 5 (an 1600)])
(.ret [4,5]))
.skip))
(S (R [o 22 (fa 30 2 3),o 23 (ld 27 22),o 24 (mv 1),o 25 (ia 27 23 24),o 26 (ld 38 25),o 6 (al 38),w (st 38 6 26)])
(S (R [o 27 (fa 38 6 3),o 28 (ld 34 27),o 29 (fa 38 6 5),o 30 (ld 3 29),o 31 (ia 34 28 30),o 32 (ld 40 31),o 7 (al 40),w (st 40 7 32)])
(S WV
(S (S (R [o 49 (mv 9),o 50 (bo .neq (t 49) (n 0))])
(.cond (t 50)
(S (R [o 51 (.build 30 #[]),w (st 30 4 51),o 5 (an 1600)])
(.ret [4,5]))
.skip))
(S (R [o 52 (ld 30 2),o 53 (cl 28 #[(t 52)] #[30]),o 10 (al 30),w (st 30 10 53)])
(S (R [o 54 (fa 30 10 3),o 55 (ld 27 54),o 56 (mv 1),o 57 (mv 8),o 58 (ia 27 55 56),o 59 (fa 38 58 8),w (st 36 59 57)])
(S (R [o 60 (fa 30 10 3),o 61 (ld 27 60),o 62 (mv 1),o 63 (ia 27 61 62),o 64 (fa 38 63 5),o 65 (ld 3 64),o 66 (bo .add (t 65) (n 1)),o 67 (ia 27 61 62),o 68 (fa 38 67 5),w (st 3 68 66)])
(S WU
(.ret [4,5])))))))))))
def g65:IFn:=⟨77,[.cell 4 30,.tmp 5],[30,3],c65,[],false,none⟩
def WT:IR:=D [o 22 (fa 38 7 6),o 23 (ld 26 22),o 24 (fa 38 7 5),o 25 (ld 3 24),o 26 (bo .add (t 25) (n 1)),o 8 (al 26),w (st 26 8 23),o 9 (av 26)] [[],[0],[],[2],[3],[],[5,1,0,1,5],[4,6,0,1,2,3,4,5,6]]
def WS:IR:=D [o 34 (fa 38 7 6),o 35 (ld 26 34),o 36 (fa 38 7 3),o 37 (ld 34 36),o 38 (fa 38 7 5),o 39 (ld 3 38),o 40 (ia 34 37 39),o 41 (fa 40 40 1),o 42 (ld 3 41),o 43 (fa 38 7 3),o 44 (ld 34 43),o 45 (fa 38 7 5),o 46 (ld 3 45),o 47 (ia 34 44 46),o 48 (fa 40 47 2),o 49 (ld 3 48),o 50 (cl 107 #[(t 35),(t 42),(t 49)] #[26,3,3]),o 33 (mv 50),o 51 (xt 33 0),o 52 (xt 33 1),w (st 26 8 51)] [[],[0],[],[2],[],[4],[3,5],[6],[7],[],[9],[],[11],[10,12],[13],[14],[1,8,15],[16],[17],[17],[18,16,0,1,2,3,4,5,6,7,8,9,10,11,12,13,14,15,16,17,18]]
def WR:IR:=D [o 56 (fa 38 7 6),o 57 (ld 26 56),o 58 (fa 38 7 3),o 59 (ld 34 58),o 60 (fa 38 7 5),o 61 (ld 3 60),o 62 (ia 34 59 61),o 63 (fa 40 62 1),o 64 (ld 3 63),o 65 (fa 38 7 3),o 66 (ld 34 65),o 67 (fa 38 7 5),o 68 (ld 3 67),o 69 (ia 34 66 68),o 70 (fa 40 69 2),o 71 (ld 3 70),o 72 (cl 108 #[(t 57),(t 64),(t 71)] #[26,3,3]),o 55 (mv 72),o 73 (xt 55 0),o 74 (xt 55 1),w (st 26 8 73)] [[],[0],[],[2],[],[4],[3,5],[6],[7],[],[9],[],[11],[10,12],[13],[14],[1,8,15],[16],[17],[17],[18,16,0,1,2,3,4,5,6,7,8,9,10,11,12,13,14,15,16,17,18]]
def c66:IR:=(S (R [z 2 (bx 30 0),o 4 (al 30),o 5 (an 0)])
(S (S (R [o 10 (ld 30 2),o 11 (mv 1),o 12 (cl 27 #[(t 10),(t 11)] #[30,3]),o 13 (.unOp .not 4 (.tmp 12))])
(.cond (t 13)
(S (R [o 14 (.build 30 #[]),w (st 30 4 14),o 5 (an 1700)])
(.ret [4,5]))
.skip))
(S (R [o 15 (ld 30 2),o 16 (cl 28 #[(t 15)] #[30]),o 6 (al 30),w (st 30 6 16)])
(S (R [o 17 (fa 30 2 3),o 18 (ld 27 17),o 19 (mv 1),o 20 (ia 27 18 19),o 21 (ld 38 20),o 7 (al 38),w (st 38 7 21)])
(S WT
(S (S (R [o 27 (ld 30 2),o 28 (mv 1),o 29 (cl 61 #[(t 27),(t 28)] #[30,3])])
(.block 0 (S (R [o 32 (bo .eql (t 29) (n 0)),o 31 (av 32)])
(.cond (t 31)
WS
(S (R [o 54 (bo .eql (t 29) (n 1)),o 53 (av 54)])
(.cond (t 53)
WR
(S (R [o 76 (bo .eql (t 29) (n 4)),o 75 (av 76)])
(.cond (t 75)
(S (R [o 77 (fa 38 7 3),o 78 (ld 34 77),o 79 (fa 38 7 5),o 80 (ld 3 79),o 81 (ia 34 78 80),o 82 (fa 40 81 1),o 83 (ld 3 82),o 84 (fa 38 7 6),o 85 (ia 26 84 83),o 86 (ld 3 85),o 87 (bo .eql (t 86) (n 0))])
(.cond (t 87)
(R [o 88 (fa 38 7 3),o 89 (ld 34 88),o 90 (fa 38 7 5),o 91 (ld 3 90),o 92 (ia 34 89 91),o 93 (fa 40 92 2),o 94 (ld 3 93),o 9 (av 94)])
.skip))
(S (R [o 30 (.build 30 #[]),w (st 30 4 30),o 5 (an 1700)])
(.ret [4,5]))))))))))
(S (R [o 95 (fa 30 6 3),o 96 (ld 27 95),o 97 (mv 1),o 98 (ld 26 8),o 99 (ia 27 96 97),o 100 (fa 38 99 6),w (st 26 100 98)])
(S (R [o 101 (fa 30 6 3),o 102 (ld 27 101),o 103 (mv 1),o 104 (mv 9),o 105 (ia 27 102 103),o 106 (fa 38 105 5),w (st 3 106 104)])
(S (R [o 107 (ld 30 6),w (st 30 4 107),o 5 (an 0)])
(.ret [4,5]))))))))))
def g66:IFn:=⟨108,[.cell 4 30,.tmp 5],[30,3],c66,[],false,none⟩
def c67:IR:=(S (R [z 4 (bx 30 0),o 8 (al 30),o 9 (an 0)])
(S (S (R [o 11 (ld 30 4),o 12 (mv 1),o 13 (cl 27 #[(t 11),(t 12)] #[30,3]),o 14 (.unOp .not 4 (.tmp 13)),o 15 (mv 14),oF 16 (mv 2) 15,oF 17 (cl 100 #[(t 16),(n 0),(n 5)] #[3,3,3]) 15,oF 18 (.unOp .not 4 (.tmp 17)) 15,o 19 (.pick (.tmp 15) (.const (.bool true)) (.tmp 18)),o 20 (mv 19),oF 21 (mv 3) 20,oF 22 (cl 109 #[(t 21)] #[3]) 20,oF 23 (.unOp .not 4 (.tmp 22)) 20,o 24 (.pick (.tmp 20) (.const (.bool true)) (.tmp 23))])
(.cond (t 24)
(S (R [o 25 (.build 30 #[]),w (st 30 8 25),o 9 (an 1300)])
(.ret [8,9]))
.skip))
(S (R [o 26 (ld 30 4),o 27 (mv 1),o 28 (cl 110 #[(t 26),(t 27)] #[30,3]),o 10 (al 30),w (st 30 10 28)])
(S (R [o 29 (fa 30 10 3),o 30 (ld 27 29),o 31 (mv 1),o 32 (ia 27 30 31),o 33 (fa 38 32 4),w (.store 3 (.tmp 33) (.const (.int .i64 6)))])
(S (R [o 34 (fa 30 10 3),o 35 (ld 27 34),o 36 (mv 1),o 37 (mv 2),o 38 (ia 27 35 36),o 39 (fa 38 38 12),w (st 3 39 37)])
(S (R [o 40 (fa 30 10 3),o 41 (ld 27 40),o 42 (mv 1),o 43 (mv 3),o 44 (ia 27 41 42),o 45 (fa 38 44 13),w (st 3 45 43)])
(S (R [o 46 (ld 30 10),o 47 (mv 1),o 48 (mv 2),o 49 (cl 75 #[(t 46),(t 47),(n 6),(t 48)] #[30,3,3,3]),w (st 30 8 49),o 9 (an 0)])
(.ret [8,9]))))))))
def g67:IFn:=⟨50,[.cell 8 30,.tmp 9],[30,3],c67,[],false,none⟩
def Xw:IR:=(S (S (R [o 6 (mv 5),o 7 (mv 0),o 8 (len 7 36),o 9 (bo .lss (t 6) (t 8))])
(.cond (t 9)
.skip
(.exit 0 [0])))
(S (.block 1 (S (R [o 12 (mv 0),o 13 (mv 5),o 14 (ia 36 12 13),o 15 (fa 114 14 0),o 16 (ld 3 15),o 17 (mv 1),o 18 (bo .neq (t 16) (t 17))])
(.cond (t 18)
(S (R [o 4 (ab false)])
(.ret [4]))
.skip)))
(R [o 10 (mv 5),o 11 (bo .add (t 10) (n 1)),o 5 (av 11)])))
def c68:IR:=(S (R [o 4 (ab false)])
(S (S (R [o 5 (an 0)])
(.block 0 (.loop [0,1,5] Xw)))
(S (R [o 19 (mv 0),o 20 (cl 111 #[(t 19)] #[36]),o 4 (av 20)])
(.ret [4]))))
def g68:IFn:=⟨21,[.tmp 4],[4],c68,[],false,none⟩
def WQ:IR:=D [o 7 (ld 30 3),o 8 (mv 1),o 9 (cl 27 #[(t 7),(t 8)] #[30,3]),o 10 (mv 9),oT 11 (fa 30 3 3) 10,oT 12 (ld 27 11) 10,oT 13 (mv 1) 10,oT 14 (ia 27 12 13) 10,oT 15 (fa 38 14 4) 10,oT 16 (ld 3 15) 10,oT 17 (mv 2) 10,oT 18 (bo .eql (t 16) (t 17)) 10,o 19 (.pick (.tmp 10) (.tmp 18) (.const (.bool false))),o 20 (mv 19),oT 21 (fa 30 3 3) 20,oT 22 (ld 27 21) 20,oT 23 (mv 1) 20,oT 24 (ia 27 22 23) 20,oT 25 (fa 38 24 9) 20,oT 26 (ld 3 25) 20,oT 27 (fa 30 3 3) 20,oT 28 (ld 27 27) 20,oT 29 (mv 1) 20,oT 30 (ia 27 28 29) 20,oT 31 (fa 38 30 8) 20,oT 32 (ld 36 31) 20,oT 33 (len 32 36) 20,oT 34 (bo .lss (t 26) (t 33)) 20,o 35 (.pick (.tmp 20) (.tmp 34) (.const (.bool false))),o 6 (av 35)] [[],[],[0,1],[2,2],[3],[4,3],[3],[5,6,3],[7,3],[8,3],[3],[9,10,3],[3,11],[12,3],[13],[14,13],[13],[15,16,13],[17,13],[18,13],[13],[20,13],[13],[21,22,13],[23,13],[24,13],[25,13],[19,26,13],[13,27],[28,13,0,1,2,3,4,5,6,7,8,9,10,11,12,13,14,15,16,17,18,19,20,21,22,23,24,25,26,27,28]]
def c69:IR:=(S (R [z 3 (bx 30 0),o 6 (ab false)])
(S WQ
(.ret [6])))
def g69:IFn:=⟨36,[.tmp 6],[4],c69,[],false,none⟩
def c70:IR:=(S (R [o 2 (bx 33 0),o 4 (al 33),o 5 (an 0)])
(S (S (R [o 6 (ld 33 2),o 7 (cl 112 #[(t 6)] #[33]),o 8 (.unOp .not 4 (.tmp 7)),o 9 (mv 8),oF 10 (mv 1) 9,oF 11 (cl 113 #[(t 10)] #[3]) 9,oF 12 (.unOp .not 4 (.tmp 11)) 9,o 13 (.pick (.tmp 9) (.const (.bool true)) (.tmp 12))])
(.cond (t 13)
(S (R [o 14 (.build 33 #[]),w (st 33 4 14),o 5 (an 300)])
(.ret [4,5]))
.skip))
(S (S (R [o 15 (fa 33 2 2),o 16 (ld 3 15),o 17 (bo .neq (t 16) (n 0))])
(.cond (t 17)
(S (R [o 18 (.build 33 #[]),w (st 33 4 18),o 5 (an 301)])
(.ret [4,5]))
.skip))
(S (R [o 19 (mv 1),o 20 (bo .add (t 19) (n 1)),o 21 (fa 33 2 2),w (st 3 21 20)])
(S (R [o 22 (ld 33 2),w (st 33 4 22),o 5 (an 0)])
(.ret [4,5]))))))
def g70:IFn:=⟨23,[.cell 4 33,.tmp 5],[33,3],c70,[],false,none⟩
def WP:IR:=D [o 41 (fa 30 8 3),o 42 (ld 27 41),o 43 (mv 1),o 44 (fa 30 3 3),o 45 (ld 27 44),o 46 (mv 1),o 47 (ia 27 45 46),o 48 (fa 38 47 11),o 49 (ld 3 48),o 50 (bo .add (t 49) (n 1)),o 51 (.call { callee:=(.builtin .min),args:=#[(.tmp 50),(.const (.int .i64 65535))],argTypes:=#[3,3] }),o 52 (ia 27 42 43),o 53 (fa 38 52 11),w (st 3 53 51)] [[],[0],[],[],[3],[],[4,5],[6],[7],[8],[9],[1,2,0,1,2,3,4,5,6,7,8,9,10],[11,0,1,2,3,4,5,6,7,8,9,10],[12,10,0,1,2,3,4,5,6,7,8,9,10]]
def WO:IR:=D [o 54 (ld 30 8),o 55 (mv 1),o 56 (mv 2),o 57 (fa 30 8 3),o 58 (ld 27 57),o 59 (mv 1),o 60 (ia 27 58 59),o 61 (fa 38 60 11),o 62 (ld 3 61),o 63 (cl 75 #[(t 54),(t 55),(t 56),(t 62)] #[30,3,3,3]),w (st 30 6 63),o 7 (an 0)] [[],[],[],[],[3],[],[4,5],[6],[7],[0,1,2,8],[9,9,0,1,2,3,4,5,6,7,8,9],[10,0,1,2,3,4,5,6,7,8,9,10]]
def c71:IR:=(S (R [z 3 (bx 30 0),o 6 (al 30),o 7 (an 0)])
(S (S (R [o 9 (ld 30 3),o 10 (mv 1),o 11 (cl 27 #[(t 9),(t 10)] #[30,3]),o 12 (.unOp .not 4 (.tmp 11)),o 13 (mv 12),oF 14 (mv 2) 13,oF 15 (bo .neq (t 14) (n 3)) 13,oF 16 (mv 15) 13,oT 17 (mv 2) 16,oT 18 (bo .neq (t 17) (n 5)) 16,oF 19 (.pick (.tmp 16) (.tmp 18) (.const (.bool false))) 13,o 20 (.pick (.tmp 13) (.const (.bool true)) (.tmp 19))])
(.cond (t 20)
(S (R [o 21 (.build 30 #[]),w (st 30 6 21),o 7 (an 1300)])
(.ret [6,7]))
.skip))
(S (R [o 22 (ld 30 3),o 23 (mv 1),o 24 (cl 110 #[(t 22),(t 23)] #[30,3]),o 8 (al 30),w (st 30 8 24)])
(S (R [o 25 (fa 30 8 3),o 26 (ld 27 25),o 27 (mv 1),o 28 (ia 27 26 27),o 29 (fa 38 28 5),w (.store 3 (.tmp 29) (.const (.int .i64 0)))])
(S (R [o 30 (fa 30 8 3),o 31 (ld 27 30),o 32 (mv 1),o 33 (.build 26 #[]),o 34 (ia 27 31 32),o 35 (fa 38 34 6),w (st 26 35 33)])
(S (R [o 36 (fa 30 8 3),o 37 (ld 27 36),o 38 (mv 1),o 39 (ia 27 37 38),o 40 (fa 38 39 4),w (.store 3 (.tmp 40) (.const (.int .i64 0)))])
(S WP
(S WO
(.ret [6,7])))))))))
def g71:IFn:=⟨64,[.cell 6 30,.tmp 7],[30,3],c71,[],false,none⟩
def Jy:IR:=(S (S (R [o 17 (mv 10),o 18 (bo .lss (t 17) (n 4))])
(.cond (t 18)
.skip
(.exit 0 [1,2,3,6,9])))
(S (.block 1 (R [o 21 (mv 9),o 22 (mv 21),oT 23 (mv 10) 22,oT 24 (ia 26 3 23) 22,oT 25 (ld 3 24) 22,oT 26 (cl 99 #[(t 25)] #[3]) 22,o 27 (.pick (.tmp 22) (.tmp 26) (.const (.bool false))),o 9 (av 27)]))
(R [o 19 (mv 10),o 20 (bo .add (t 19) (n 1)),o 10 (av 20)])))
def WN:IR:=D [o 42 (ld 26 3),o 43 (mv 1),o 44 (ia 26 3 43),o 45 (ld 3 44),w (st 26 6 42),o 7 (av 45),o 8 (an 0)] [[],[],[1],[2],[0,0],[3,4,0,1,2,3,4],[5,0,1,2,3,4,5]]
def c72:IR:=(S (R [o 3 (bx 26 0),o 6 (al 26),o 7 (an 0),o 8 (an 0)])
(S (R [o 11 (mv 1),o 12 (cl 102 #[(t 11)] #[3]),o 13 (mv 12),oT 14 (mv 2) 13,oT 15 (cl 99 #[(t 14)] #[3]) 13,o 16 (.pick (.tmp 13) (.tmp 15) (.const (.bool false))),o 9 (av 16)])
(S (S (R [o 10 (an 0)])
(.block 0 (.loop [1,2,3,6,9,10] Jy)))
(S (S (R [o 28 (mv 9),o 29 (.unOp .not 4 (.tmp 28))])
(.cond (t 29)
(S (R [o 30 (.build 26 #[]),w (st 26 6 30),o 7 (an 0),o 8 (an 500)])
(.ret [6,7,8]))
.skip))
(S (S (R [o 31 (mv 1),o 32 (ia 26 3 31),o 33 (ld 3 32),o 34 (mv 2),o 35 (bo .geq (t 33) (t 34))])
(.cond (t 35)
(S (R [o 36 (.build 26 #[]),w (st 26 6 36),o 7 (an 0),o 8 (an 501)])
(.ret [6,7,8]))
.skip))
(S (R [o 37 (mv 1),o 38 (ia 26 3 37),o 39 (ld 3 38),o 40 (bo .add (t 39) (n 1)),o 41 (ia 26 3 37),w (st 3 41 40)])
(S WN
(.ret [6,7,8]))))))))
def g72:IFn:=⟨46,[.cell 6 26,.tmp 7,.tmp 8],[26,3,3],c72,[],false,none⟩
def WM:IR:=D [o 35 (mv 1),o 36 (mv 8),o 37 (ia 35 35 36),o 38 (fa 148 37 0),o 39 (ld 3 38),o 40 (ia 25 3 39),o 41 (ld 24 40),o 42 (mv 1),o 43 (mv 8),o 44 (ia 35 42 43),o 45 (fa 148 44 1),o 46 (ld 3 45),o 47 (ia 24 41 46),o 48 (ld 33 47),o 9 (al 33),w (st 33 9 48)] [[],[],[0,1],[2],[3],[4],[5],[],[],[7,8],[9],[10],[6,11],[12],[],[14,13,0,1,2,3,4,5,6,7,8,9,10,11,12,13,14]]
def WL:IR:=D [o 49 (fa 33 9 1),o 50 (ld 3 49),o 51 (mv 1),o 52 (mv 8),o 53 (ia 35 51 52),o 54 (fa 148 53 2),o 55 (ld 3 54),o 56 (bo .neq (t 50) (t 55)),o 57 (mv 56),oF 58 (fa 33 9 2) 57,oF 59 (ld 3 58) 57,oF 60 (bo .neq (t 59) (n 0)) 57,oF 61 (mv 60) 57,oT 62 (fa 33 9 2) 61,oT 63 (ld 3 62) 61,oT 64 (mv 2) 61,oT 65 (bo .add (t 64) (n 1)) 61,oT 66 (bo .neq (t 63) (t 65)) 61,oF 67 (.pick (.tmp 61) (.tmp 66) (.const (.bool false))) 57,o 68 (.pick (.tmp 57) (.const (.bool true)) (.tmp 67))] [[],[0],[],[],[2,3],[4],[5],[1,6],[7],[8],[9,8],[10,8],[11,8,8],[12],[13,12],[12],[15,12],[14,16,12],[12,17,8],[8,18]]
def Fi:IR:=(S (S (R [o 29 (mv 8),o 30 (mv 1),o 31 (len 30 35),o 32 (bo .lss (t 29) (t 31))])
(.cond (t 32)
.skip
(.exit 0 [])))
(S (.block 1 (S WM
(S WL
(.cond (t 68)
(S (R [o 6 (ab false),o 7 (an 0)])
(.ret [6,7]))
.skip))))
(R [o 33 (mv 8),o 34 (bo .add (t 33) (n 1)),o 8 (av 34)])))
def c73:IR:=(S (R [z 3 (bx 25 0),o 6 (ab false),o 7 (an 0)])
(S (S (R [o 10 (ld 25 3),o 11 (cl 98 #[(t 10)] #[25]),o 12 (.unOp .not 4 (.tmp 11)),o 13 (mv 12),oF 14 (mv 1) 13,oF 15 (cl 114 #[(t 14)] #[35]) 13,oF 16 (.unOp .not 4 (.tmp 15)) 13,o 17 (.pick (.tmp 13) (.const (.bool true)) (.tmp 16)),o 18 (mv 17),oF 19 (mv 2) 18,oF 20 (cl 113 #[(t 19)] #[3]) 18,oF 21 (.unOp .not 4 (.tmp 20)) 18,o 22 (.pick (.tmp 18) (.const (.bool true)) (.tmp 21)),o 23 (mv 22),oF 24 (ld 25 3) 23,oF 25 (mv 1) 23,oF 26 (cl 115 #[(t 24),(t 25)] #[25,35]) 23,oF 27 (.unOp .not 4 (.tmp 26)) 23,o 28 (.pick (.tmp 23) (.const (.bool true)) (.tmp 27))])
(.cond (t 28)
(S (R [o 6 (ab false),o 7 (an 900)])
(.ret [6,7]))
.skip))
(S (S (R [o 8 (an 0)])
(.block 0 (.loop [1,2,3,8] Fi)))
(S (R [o 6 (ab true),o 7 (an 0)])
(.ret [6,7])))))
def g73:IFn:=⟨69,[.tmp 6,.tmp 7],[4,3],c73,[],false,none⟩
def c74:IR:=(S (R [z 3 (bx 33 0),o 6 (al 33),o 7 (an 0)])
(S (R [o 9 (mv 1),o 10 (mv 2),o 11 (.build 33 #[(0,(.tmp 9)),(1,(.tmp 10))]),o 8 (al 33),w (st 33 8 11)])
(S (S (R [o 12 (ld 33 3),o 13 (cl 112 #[(t 12)] #[33]),o 14 (.unOp .not 4 (.tmp 13)),o 15 (mv 14),oF 16 (ld 33 8) 15,oF 17 (cl 112 #[(t 16)] #[33]) 15,oF 18 (.unOp .not 4 (.tmp 17)) 15,o 19 (.pick (.tmp 15) (.const (.bool true)) (.tmp 18))])
(.cond (t 19)
(S (R [o 20 (.build 33 #[]),w (st 33 6 20),o 7 (an 300)])
(.ret [6,7]))
.skip))
(S (R [o 21 (ld 33 8),w (st 33 6 21),o 7 (an 0)])
(.ret [6,7])))))
def g74:IFn:=⟨22,[.cell 6 33,.tmp 7],[33,3],c74,[],false,none⟩
def WK:IR:=D [o 13 (fa 30 4 4),o 14 (ld 28 13),o 15 (fa 30 4 3),o 16 (ld 27 15),o 17 (mv 1),o 18 (ia 27 16 17),o 19 (fa 38 18 0),o 20 (ld 3 19),o 21 (fa 30 4 3),o 22 (ld 27 21),o 23 (mv 1),o 24 (ia 27 22 23),o 25 (fa 38 24 1),o 26 (ld 3 25),o 27 (mv 2),o 28 (mv 3),o 29 (.build 71 #[(0,(.tmp 20)),(1,(.tmp 26)),(2,(.tmp 27)),(3,(.tmp 28))]),o 30 (.buildSlice 28 1 #[(0,(.tmp 29))]),o 31 (.call { callee:=(.builtin .append),args:=#[(.tmp 14),(.tmp 30)],argTypes:=#[28,28] }),o 32 (fa 30 4 4),w (st 28 32 31)] [[],[0],[],[2],[],[3,4],[5],[6],[],[8],[],[9,10],[11],[12],[],[],[7,13,14,15],[16],[1,17],[0,1,2,3,4,5,6,7,8,9,10,11,12,13,14,15,16,17,18],[19,18,18,0,1,2,3,4,5,6,7,8,9,10,11,12,13,14,15,16,17,18]]
def c75:IR:=(S (R [o 4 (bx 30 0),o 8 (al 30)])
(S (S (R [o 9 (fa 30 4 4),o 10 (ld 28 9),o 11 (len 10 28),o 12 (bo .lss (t 11) (n 512))])
(.cond (t 12)
WK
.skip))
(S (R [o 33 (ld 30 4),w (st 30 8 33)])
(.ret [8]))))
def g75:IFn:=⟨34,[.cell 8 30],[30],c75,[true],false,none⟩
def WJ:IR:=D [o 27 (mv 1),o 28 (mv 6),o 29 (ia 35 27 28),o 30 (fa 148 29 0),o 31 (ld 3 30),o 32 (ia 25 2 31),o 33 (ld 24 32),o 34 (mv 1),o 35 (mv 6),o 36 (ia 35 34 35),o 37 (fa 148 36 1),o 38 (ld 3 37),o 39 (ia 24 33 38),o 40 (fa 33 39 1),o 41 (ld 3 40),o 42 (mv 1),o 43 (mv 6),o 44 (ia 35 42 43),o 45 (fa 148 44 2),o 46 (ld 3 45),o 47 (bo .neq (t 41) (t 46))] [[],[],[0,1],[2],[3],[4],[5],[],[],[7,8],[9],[10],[6,11],[12],[13],[],[],[15,16],[17],[18],[14,19]]
def Jx:IR:=(S (S (R [o 21 (mv 6),o 22 (mv 1),o 23 (len 22 35),o 24 (bo .lss (t 21) (t 23))])
(.cond (t 24)
.skip
(.exit 0 [])))
(S (.block 1 (S WJ
(.cond (t 47)
(S (R [o 4 (ab true),o 5 (an 0)])
(.ret [4,5]))
.skip)))
(R [o 25 (mv 6),o 26 (bo .add (t 25) (n 1)),o 6 (av 26)])))
def c76:IR:=(S (R [z 2 (bx 25 0),o 4 (ab false),o 5 (an 0)])
(S (S (R [o 7 (ld 25 2),o 8 (cl 98 #[(t 7)] #[25]),o 9 (.unOp .not 4 (.tmp 8)),o 10 (mv 9),oF 11 (mv 1) 10,oF 12 (cl 114 #[(t 11)] #[35]) 10,oF 13 (.unOp .not 4 (.tmp 12)) 10,o 14 (.pick (.tmp 10) (.const (.bool true)) (.tmp 13)),o 15 (mv 14),oF 16 (ld 25 2) 15,oF 17 (mv 1) 15,oF 18 (cl 115 #[(t 16),(t 17)] #[25,35]) 15,oF 19 (.unOp .not 4 (.tmp 18)) 15,o 20 (.pick (.tmp 15) (.const (.bool true)) (.tmp 19))])
(.cond (t 20)
(S (R [o 4 (ab false),o 5 (an 900)])
(.ret [4,5]))
.skip))
(S (S (R [o 6 (an 0)])
(.block 0 (.loop [1,2,6] Jx)))
(S (R [o 4 (ab false),o 5 (an 0)])
(.ret [4,5])))))
def g76:IFn:=⟨48,[.tmp 4,.tmp 5],[4,3],c76,[],false,none⟩
def TD:IR:=(S (R [o 17 (bo .lss (t 16) (t 15))])
(S (.cond (t 17)
.skip
(.exit 2 [2,4,9,10]))
(S (.block 3 (S (R [o 18 (ia 22 14 16),o 19 (ld 3 18),o 8 (av 19)])
(R [o 20 (mv 5),o 21 (mv 5),o 22 (ia 25 4 21),o 23 (ld 24 22),o 24 (mv 8),o 25 (.build 33 #[(0,(.tmp 24))]),o 26 (.buildSlice 24 1 #[(0,(.tmp 25))]),o 27 (.call { callee:=(.builtin .append),args:=#[(.tmp 23),(.tmp 26)],argTypes:=#[24,24] }),o 28 (ia 25 4 20),w (st 24 28 27)])))
(R [o 29 (bo .add (t 16) (n 1)),o 16 (mv 29)]))))
def Ps:IR:=(S (R [o 11 (bo .lss (t 10) (n 4))])
(S (.cond (t 11)
.skip
(.exit 0 [2,4]))
(S (.block 1 (S (R [o 12 (mv 10),o 13 (.index 50 (.tmp 9) (.tmp 10)),o 5 (av 12),o 6 (av 13)])
(S (R [o 14 (mv 6),o 15 (len 14 22),o 16 (.move (.const (.int .i64 0)))])
(.block 2 (.loop [2,4,5,9,10,14,15,16] TD)))))
(R [o 30 (bo .add (t 10) (n 1)),o 10 (mv 30)]))))
def c77:IR:=(S (R [z 1 (bx 50 0),o 2 (al 25),o 3 (an 0)])
(S (R [o 4 (al 25)])
(S (S (R [o 9 (ld 50 1),o 10 (.move (.const (.int .i64 0)))])
(.block 0 (.loop [2,4,9,10] Ps)))
(S (S (R [o 31 (ld 25 4),o 32 (cl 116 #[(t 31)] #[25]),o 33 (.unOp .not 4 (.tmp 32))])
(.cond (t 33)
(S (R [o 34 (.build 25 #[]),w (st 25 2 34),o 3 (an 400)])
(.ret [2,3]))
.skip))
(S (R [o 35 (ld 25 4),w (st 25 2 35),o 3 (an 0)])
(.ret [2,3]))))))
def g77:IFn:=⟨36,[.cell 2 25,.tmp 3],[25,41],c77,[],false,none⟩
def WI:IR:=D [o 8 (fa 62 1 0),o 9 (ld 3 8),o 10 (fa 62 1 1),o 11 (ld 3 10),o 12 (fa 62 1 2),o 13 (ld 3 12),o 14 (fa 62 1 3),o 15 (ld 34 14),o 16 (cl 95 #[(t 15)] #[34]),o 17 (.build 38 #[(0,(.tmp 9)),(1,(.tmp 11)),(2,(.tmp 13)),(3,(.tmp 16))]),w (st 38 2 17),o 3 (an 0)] [[],[0],[],[2],[],[4],[],[6],[7],[1,3,5,8],[9,8,0,1,2,3,4,5,6,7,8,9],[10,0,1,2,3,4,5,6,7,8,9,10]]
def c78:IR:=(S (R [z 1 (bx 62 0),o 2 (al 38),o 3 (an 0)])
(S (S (R [o 4 (ld 62 1),o 5 (cl 17 #[(t 4)] #[62]),o 6 (.unOp .not 4 (.tmp 5))])
(.cond (t 6)
(S (R [o 7 (.build 38 #[]),w (st 38 2 7),o 3 (an 1100)])
(.ret [2,3]))
.skip))
(S WI
(.ret [2,3]))))
def g78:IFn:=⟨18,[.cell 2 38,.tmp 3],[38,41],c78,[],false,none⟩
def WH:IR:=D [o 5 (fa 30 1 0),o 6 (ld 25 5),o 7 (cl 116 #[(t 6)] #[25]),o 8 (.unOp .not 4 (.tmp 7)),o 9 (mv 8),oF 10 (fa 30 1 1) 9,oF 11 (fa 30 1 2) 9,oF 12 (ld 3 11) 9,oF 13 (cl 117 #[(t 10),(t 12)] #[167,3]) 9,oF 14 (.unOp .not 4 (.tmp 13)) 9,o 15 (.pick (.tmp 9) (.const (.bool true)) (.tmp 14)),o 16 (mv 15),oF 17 (fa 30 1 1) 16,oF 18 (.slice 26 (.tmp 17) none none none) 16,oF 19 (cl 118 #[(t 18)] #[22]) 16,oF 20 (fa 30 1 2) 16,oF 21 (ld 3 20) 16,oF 22 (bo .gtr (t 19) (t 21)) 16,o 23 (.pick (.tmp 16) (.const (.bool true)) (.tmp 22)),o 24 (mv 23),oF 25 (fa 30 1 3) 24,oF 26 (ld 27 25) 24,oF 27 (len 26 27) 24,oF 28 (bo .gtr (t 27) (n 4)) 24,o 29 (.pick (.tmp 24) (.const (.bool true)) (.tmp 28)),o 30 (mv 29),oF 31 (fa 30 1 4) 30,oF 32 (ld 28 31) 30,oF 33 (len 32 28) 30,oF 34 (bo .gtr (t 33) (n 512)) 30,o 35 (.pick (.tmp 30) (.const (.bool true)) (.tmp 34))] [[],[0],[1],[2],[3,2],[4],[4],[6,4],[5,7,4,4],[8,4],[4,9],[10,8],[11],[12,11],[13,11,11],[11],[15,11],[14,16,11],[11,17],[18,14],[19],[20,19],[21,19],[22,19],[19,23],[24,19],[25],[26,25],[27,25],[28,25],[25,29]]
def WG:IR:=D [o 42 (mv 3),o 43 (bo .gtr (t 42) (n 0)),o 44 (mv 43),oT 45 (fa 30 1 3) 44,oT 46 (ld 27 45) 44,oT 47 (mv 3) 44,oT 48 (bo .sub (t 47) (n 1)) 44,oT 49 (ia 27 46 48) 44,oT 50 (fa 38 49 0) 44,oT 51 (ld 3 50) 44,oT 52 (fa 30 1 3) 44,oT 53 (ld 27 52) 44,oT 54 (mv 3) 44,oT 55 (ia 27 53 54) 44,oT 56 (fa 38 55 0) 44,oT 57 (ld 3 56) 44,oT 58 (bo .geq (t 51) (t 57)) 44,o 59 (.pick (.tmp 44) (.tmp 58) (.const (.bool false)))] [[],[0],[1],[2],[3,2],[2],[5,2],[4,6,2],[7,2],[8,2],[2],[10,2],[2],[11,12,2],[13,2],[14,2],[9,15,2],[2,16]]
def Ny:IR:=(S (R [o 40 (bo .lss (t 39) (t 38))])
(S (.cond (t 40)
.skip
(.exit 0 [1]))
(S (.block 1 (S (R [o 41 (mv 39),o 3 (av 41)])
(S WG
(.cond (t 59)
(S (R [o 2 (ab false)])
(.ret [2]))
.skip))))
(R [o 60 (bo .add (t 39) (n 1)),o 39 (mv 60)]))))
def c79:IR:=(S (R [z 1 (bx 30 0),o 2 (ab false)])
(S (S WH
(.cond (t 35)
(S (R [o 2 (ab false)])
(.ret [2]))
.skip))
(S (S (R [o 36 (fa 30 1 3),o 37 (ld 27 36),o 38 (len 37 27),o 39 (.move (.const (.int .i64 0)))])
(.block 0 (.loop [1,38,39] Ny)))
(S (R [o 4 (.assign (.func 119))])
(S (R [o 61 (fa 30 1 3),o 62 (ld 27 61),o 63 (fa 30 1 0),o 64 (.build 174 #[(0,(.tmp 63))]),o 65 (.makeFunc (Go.Fn.func 121) #[(.tmp 64)] #[]),o 66 (cl 120 #[(t 62),(t 65)] #[27,171]),o 67 (mv 66),oT 68 (fa 30 1 4) 67,oT 69 (ld 28 68) 67,oT 70 (mv 4) 67,oT 71 (cl 122 #[(t 69),(t 70)] #[28,169]) 67,o 72 (.pick (.tmp 67) (.tmp 71) (.const (.bool false))),o 2 (av 72)])
(.ret [2]))))))
def g79:IFn:=⟨73,[.tmp 2],[4],c79,[],false,none⟩
def c80:IR:=(S (R [z 1 (bx 129 0),o 2 (al 30),o 3 (an 0)])
(S (S (R [o 4 (ld 129 1),o 5 (cl 123 #[(t 4)] #[129]),o 6 (nc 5),o 7 (fa 38 6 4),o 8 (ld 3 7)])
(.block 0 (S (R [o 10 (bo .eql (t 8) (n 0)),o 9 (av 10)])
(.cond (t 9)
(S (R [o 11 (ld 129 1),o 12 (cl 124 #[(t 11)] #[129]),o 13 (xt 12 0),o 14 (xt 12 1),w (st 30 2 13),o 3 (av 14)])
(.ret [2,3]))
(S (R [o 16 (bo .eql (t 8) (n 1)),o 15 (av 16)])
(.cond (t 15)
(S (R [o 17 (fa 129 1 0),o 18 (ld 30 17),o 19 (fa 129 1 1),o 20 (ld 3 19),o 21 (cl 125 #[(t 18),(t 20)] #[30,3]),o 22 (xt 21 0),o 23 (xt 21 1),w (st 30 2 22),o 3 (av 23)])
(.ret [2,3]))
(S (R [o 25 (bo .eql (t 8) (n 2)),o 24 (av 25)])
(.cond (t 24)
(S (R [o 26 (fa 129 1 0),o 27 (ld 30 26),o 28 (fa 129 1 1),o 29 (ld 3 28),o 30 (cl 126 #[(t 27),(t 29)] #[30,3]),o 31 (xt 30 0),o 32 (xt 30 1),w (st 30 2 31),o 3 (av 32)])
(.ret [2,3]))
(S (R [o 34 (bo .eql (t 8) (n 3)),o 33 (av 34)])
(.cond (t 33)
(S (R [o 35 (fa 129 1 0),o 36 (ld 30 35),o 37 (fa 129 1 1),o 38 (ld 3 37),o 39 (cl 127 #[(t 36),(t 38)] #[30,3]),o 40 (xt 39 0),o 41 (xt 39 1),w (st 30 2 40),o 3 (av 41)])
(.ret [2,3]))
(S (R [o 43 (bo .eql (t 8) (n 4)),o 42 (av 43)])
(.cond (t 42)
(S (R [o 44 (fa 129 1 0),o 45 (ld 30 44),o 46 (fa 129 1 1),o 47 (ld 3 46),o 48 (cl 128 #[(t 45),(t 47)] #[30,3]),o 49 (xt 48 0),o 50 (xt 48 1),w (st 30 2 49),o 3 (av 50)])
(.ret [2,3]))
(S (R [o 52 (bo .eql (t 8) (n 5)),o 51 (av 52)])
(.cond (t 51)
(S (R [o 53 (fa 129 1 0),o 54 (ld 30 53),o 55 (fa 129 1 1),o 56 (ld 3 55),o 57 (cl 129 #[(t 54),(t 56)] #[30,3]),o 58 (xt 57 0),o 59 (xt 57 1),w (st 30 2 58),o 3 (av 59)])
(.ret [2,3]))
.skip))))))))))))))
(S (R [o 60 (fa 129 1 0),o 61 (ld 30 60),o 62 (cl 25 #[(t 61)] #[30]),w (st 30 2 62),o 3 (an 0)])
(.ret [2,3]))))
def g80:IFn:=⟨63,[.cell 2 30,.tmp 3],[30,41],c80,[],false,none⟩
def c81:IR:=(S (R [z 1 (bx 86 0),o 2 (ab false)])
(S (R [o 3 (fa 86 1 0),o 4 (ld 3 3),o 5 (cl 48 #[(t 4)] #[3]),o 6 (mv 5),oT 7 (fa 86 1 1) 6,oT 8 (ld 3 7) 6,oT 9 (bo .geq (t 8) (n 0)) 6,o 10 (.pick (.tmp 6) (.tmp 9) (.const (.bool false))),o 11 (mv 10),oT 12 (fa 86 1 1) 11,oT 13 (ld 3 12) 11,oT 14 (bo .leq (t 13) (n 255)) 11,o 15 (.pick (.tmp 11) (.tmp 14) (.const (.bool false))),o 2 (av 15)])
(.ret [2])))
def g81:IFn:=⟨16,[.tmp 2],[4],c81,[],false,none⟩
def c82:IR:=(S (R [z 1 (bx 86 0),o 2 (ab false)])
(S (R [o 3 (ld 86 1),o 4 (cl 81 #[(t 3)] #[86]),o 5 (.unOp .not 4 (.tmp 4)),o 2 (av 5)])
(.ret [2])))
def g82:IFn:=⟨6,[.tmp 2],[4],c82,[],false,none⟩
def c83:IR:=(S (R [o 4 (ab false)])
(S (R [o 5 (mv 0),o 6 (mv 1),o 7 (cl 130 #[(t 5),(t 6)] #[52,131]),o 8 (bo .geq (t 7) (n 0)),o 4 (av 8)])
(.ret [4])))
def g83:IFn:=⟨9,[.tmp 4],[4],c83,[],false,none⟩
def WE:IR:=D [o 17 (mv 0),o 18 (mv 5),o 19 (ia 24 17 18),o 20 (ld 33 19),o 21 (mv 1),o 22 (mv 5),o 23 (ia 24 21 22),o 24 (ld 33 23),o 25 (.binOp .neq 33 (.tmp 20) (.tmp 24) 33)] [[],[],[0,1],[2],[],[],[4,5],[6],[3,7]]
def Pq:IR:=(S (S (R [o 11 (mv 5),o 12 (mv 0),o 13 (len 12 24),o 14 (bo .lss (t 11) (t 13))])
(.cond (t 14)
.skip
(.exit 0 [])))
(S (.block 1 (S WE
(.cond (t 25)
(S (R [o 4 (ab false)])
(.ret [4]))
.skip)))
(R [o 15 (mv 5),o 16 (bo .add (t 15) (n 1)),o 5 (av 16)])))
def c84:IR:=(S (R [o 4 (ab false)])
(S (S (R [o 6 (mv 0),o 7 (len 6 24),o 8 (mv 1),o 9 (len 8 24),o 10 (bo .neq (t 7) (t 9))])
(.cond (t 10)
(S (R [o 4 (ab false)])
(.ret [4]))
.skip))
(S (S (R [o 5 (an 0)])
(.block 0 (.loop [0,1,5] Pq)))
(S (R [o 4 (ab true)])
(.ret [4])))))
def g84:IFn:=⟨26,[.tmp 4],[4],c84,[],false,none⟩
def WD:IR:=D [o 17 (mv 0),o 18 (mv 5),o 19 (ia 34 17 18),o 20 (ld 40 19),o 21 (mv 1),o 22 (mv 5),o 23 (ia 34 21 22),o 24 (ld 40 23),o 25 (.binOp .neq 40 (.tmp 20) (.tmp 24) 40)] [[],[],[0,1],[2],[],[],[4,5],[6],[3,7]]
def Pp:IR:=(S (S (R [o 11 (mv 5),o 12 (mv 0),o 13 (len 12 34),o 14 (bo .lss (t 11) (t 13))])
(.cond (t 14)
.skip
(.exit 0 [])))
(S (.block 1 (S WD
(.cond (t 25)
(S (R [o 4 (ab false)])
(.ret [4]))
.skip)))
(R [o 15 (mv 5),o 16 (bo .add (t 15) (n 1)),o 5 (av 16)])))
def c85:IR:=(S (R [o 4 (ab false)])
(S (S (R [o 6 (mv 0),o 7 (len 6 34),o 8 (mv 1),o 9 (len 8 34),o 10 (bo .neq (t 7) (t 9))])
(.cond (t 10)
(S (R [o 4 (ab false)])
(.ret [4]))
.skip))
(S (S (R [o 5 (an 0)])
(.block 0 (.loop [0,1,5] Pp)))
(S (R [o 4 (ab true)])
(.ret [4])))))
def g85:IFn:=⟨26,[.tmp 4],[4],c85,[],false,none⟩
def WC:IR:=D [o 17 (mv 0),o 18 (mv 5),o 19 (ia 35 17 18),o 20 (ld 148 19),o 21 (mv 1),o 22 (mv 5),o 23 (ia 35 21 22),o 24 (ld 148 23),o 25 (.binOp .neq 148 (.tmp 20) (.tmp 24) 148)] [[],[],[0,1],[2],[],[],[4,5],[6],[3,7]]
def Po:IR:=(S (S (R [o 11 (mv 5),o 12 (mv 0),o 13 (len 12 35),o 14 (bo .lss (t 11) (t 13))])
(.cond (t 14)
.skip
(.exit 0 [])))
(S (.block 1 (S WC
(.cond (t 25)
(S (R [o 4 (ab false)])
(.ret [4]))
.skip)))
(R [o 15 (mv 5),o 16 (bo .add (t 15) (n 1)),o 5 (av 16)])))
def c86:IR:=(S (R [o 4 (ab false)])
(S (S (R [o 6 (mv 0),o 7 (len 6 35),o 8 (mv 1),o 9 (len 8 35),o 10 (bo .neq (t 7) (t 9))])
(.cond (t 10)
(S (R [o 4 (ab false)])
(.ret [4]))
.skip))
(S (S (R [o 5 (an 0)])
(.block 0 (.loop [0,1,5] Po)))
(S (R [o 4 (ab true)])
(.ret [4])))))
def g86:IFn:=⟨26,[.tmp 4],[4],c86,[],false,none⟩
def WB:IR:=D [o 17 (mv 0),o 18 (mv 5),o 19 (ia 36 17 18),o 20 (ld 114 19),o 21 (mv 1),o 22 (mv 5),o 23 (ia 36 21 22),o 24 (ld 114 23),o 25 (.binOp .neq 114 (.tmp 20) (.tmp 24) 114)] [[],[],[0,1],[2],[],[],[4,5],[6],[3,7]]
def Pn:IR:=(S (S (R [o 11 (mv 5),o 12 (mv 0),o 13 (len 12 36),o 14 (bo .lss (t 11) (t 13))])
(.cond (t 14)
.skip
(.exit 0 [])))
(S (.block 1 (S WB
(.cond (t 25)
(S (R [o 4 (ab false)])
(.ret [4]))
.skip)))
(R [o 15 (mv 5),o 16 (bo .add (t 15) (n 1)),o 5 (av 16)])))
def c87:IR:=(S (R [o 4 (ab false)])
(S (S (R [o 6 (mv 0),o 7 (len 6 36),o 8 (mv 1),o 9 (len 8 36),o 10 (bo .neq (t 7) (t 9))])
(.cond (t 10)
(S (R [o 4 (ab false)])
(.ret [4]))
.skip))
(S (S (R [o 5 (an 0)])
(.block 0 (.loop [0,1,5] Pn)))
(S (R [o 4 (ab true)])
(.ret [4])))))
def g87:IFn:=⟨26,[.tmp 4],[4],c87,[],false,none⟩
def WA:IR:=D [o 3 (ld 40 1),o 4 (cl 131 #[(t 3)] #[40]),o 5 (ld 40 1),o 6 (.binOp .neq 40 (.tmp 4) (.tmp 5) 40)] [[],[0],[],[1,2]]
def c88:IR:=(S (R [z 1 (bx 40 0),o 2 (ab false)])
(S (S WA
(.cond (t 6)
(S (R [o 2 (ab false)])
(.ret [2]))
.skip))
(S (S (R [o 7 (fa 40 1 0),o 8 (ld 3 7)])
(.block 0 (S (R [o 10 (bo .eql (t 8) (n 0)),o 9 (av 10)])
(.cond (t 9)
(S (R [o 11 (fa 40 1 1),o 12 (ld 3 11),o 13 (cl 132 #[(t 12)] #[3]),o 14 (mv 13),oT 15 (fa 40 1 2) 14,oT 16 (ld 3 15) 14,oT 17 (cl 52 #[(t 16)] #[3]) 14,o 18 (.pick (.tmp 14) (.tmp 17) (.const (.bool false))),o 2 (av 18)])
(.ret [2]))
(S (R [o 20 (bo .eql (t 8) (n 1)),o 19 (av 20)])
(.cond (t 19)
(S (R [o 21 (fa 40 1 1),o 22 (ld 3 21),o 23 (cl 132 #[(t 22)] #[3]),o 24 (mv 23),oT 25 (fa 40 1 2) 24,oT 26 (ld 3 25) 24,oT 27 (cl 132 #[(t 26)] #[3]) 24,o 28 (.pick (.tmp 24) (.tmp 27) (.const (.bool false))),o 2 (av 28)])
(.ret [2]))
(S (S (R [o 30 (bo .eql (t 8) (n 2)),o 29 (av 30)])
(.cond (t 29)
.skip
(R [o 31 (bo .eql (t 8) (n 3)),o 29 (av 31)])))
(.cond (t 29)
(S (R [o 32 (fa 40 1 1),o 33 (ld 3 32),o 34 (cl 132 #[(t 33)] #[3]),o 35 (mv 34),oT 36 (fa 40 1 2) 35,oT 37 (ld 3 36) 35,oT 38 (cl 48 #[(t 37)] #[3]) 35,o 39 (.pick (.tmp 35) (.tmp 38) (.const (.bool false))),o 40 (mv 39),oT 41 (fa 40 1 3) 40,oT 42 (ld 3 41) 40,oT 43 (bo .geq (t 42) (n 0)) 40,o 44 (.pick (.tmp 40) (.tmp 43) (.const (.bool false))),o 45 (mv 44),oT 46 (fa 40 1 3) 45,oT 47 (ld 3 46) 45,oT 48 (bo .lss (t 47) (n 4)) 45,o 49 (.pick (.tmp 45) (.tmp 48) (.const (.bool false))),o 2 (av 49)])
(.ret [2]))
(S (R [o 51 (bo .eql (t 8) (n 4)),o 50 (av 51)])
(.cond (t 50)
(S (R [o 52 (fa 40 1 1),o 53 (ld 3 52),o 54 (cl 132 #[(t 53)] #[3]),o 55 (mv 54),oT 56 (fa 40 1 2) 55,oT 57 (ld 3 56) 55,oT 58 (bo .geq (t 57) (n 0)) 55,o 59 (.pick (.tmp 55) (.tmp 58) (.const (.bool false))),o 60 (mv 59),oT 61 (fa 40 1 2) 60,oT 62 (ld 3 61) 60,oT 63 (bo .leq (t 62) (n 16)) 60,o 64 (.pick (.tmp 60) (.tmp 63) (.const (.bool false))),o 2 (av 64)])
(.ret [2]))
(S (R [o 66 (bo .eql (t 8) (n 5)),o 65 (av 66)])
(.cond (t 65)
(S (R [o 2 (ab true)])
(.ret [2]))
.skip))))))))))))
(S (R [o 67 (fa 40 1 0),o 68 (ld 3 67),o 69 (bo .eql (t 68) (n 6)),o 70 (mv 69),oT 71 (fa 40 1 1) 70,oT 72 (ld 3 71) 70,oT 73 (cl 52 #[(t 72)] #[3]) 70,o 74 (.pick (.tmp 70) (.tmp 73) (.const (.bool false))),o 2 (av 74)])
(.ret [2])))))
def g88:IFn:=⟨75,[.tmp 2],[4],c88,[],false,none⟩
def c89:IR:=(S (R [o 4 (ab false)])
(S (R [o 5 (mv 0),o 6 (bo .geq (t 5) (n 0)),o 7 (mv 6),oT 8 (mv 0) 7,oT 9 (mv 1) 7,oT 10 (bo .leq (t 8) (t 9)) 7,o 11 (.pick (.tmp 7) (.tmp 10) (.const (.bool false))),o 4 (av 11)])
(.ret [4])))
def g89:IFn:=⟨12,[.tmp 4],[4],c89,[],false,none⟩
def Wz:IR:=D [o 32 (mv 5),o 33 (mv 5),o 34 (ia 25 4 33),o 35 (ld 24 34),o 36 (mv 5),o 37 (ia 50 1 36),o 38 (ld 22 37),o 39 (mv 6),o 40 (ia 22 38 39),o 41 (ld 3 40),o 42 (.build 33 #[(0,(.tmp 41))]),o 43 (.buildSlice 24 1 #[(0,(.tmp 42))]),o 44 (.call { callee:=(.builtin .append),args:=#[(.tmp 35),(.tmp 43)],argTypes:=#[24,24] }),o 45 (ia 25 4 32),w (st 24 45 44)] [[],[],[1],[2],[],[4],[5],[],[6,7],[8],[9],[10],[3,11],[0,0,1,2,3,4,5,6,7,8,9,10,11,12],[13,12,12,0,1,2,3,4,5,6,7,8,9,10,11,12]]
def a0g:IR:=(S (S (R [o 11 (mv 6),o 12 (mv 5),o 13 (ia 50 1 12),o 14 (ld 22 13),o 15 (len 14 22),o 16 (bo .lss (t 11) (t 15))])
(.cond (t 16)
.skip
(.exit 2 [1,2,4,5])))
(S (.block 3 (S (S (R [o 19 (mv 6),o 20 (bo .geq (t 19) (n 4)),o 21 (mv 20),oF 22 (mv 5) 21,oF 23 (ia 50 1 22) 21,oF 24 (ld 22 23) 21,oF 25 (mv 6) 21,oF 26 (ia 22 24 25) 21,oF 27 (ld 3 26) 21,oF 28 (cl 109 #[(t 27)] #[3]) 21,oF 29 (.unOp .not 4 (.tmp 28)) 21,o 30 (.pick (.tmp 21) (.const (.bool true)) (.tmp 29))])
(.cond (t 30)
(S (R [o 31 (.build 25 #[]),w (st 25 2 31),o 3 (an 400)])
(.ret [2,3]))
.skip))
Wz))
(R [o 17 (mv 6),o 18 (bo .add (t 17) (n 1)),o 6 (av 18)])))
def a0f:IR:=(S (S (R [o 7 (mv 5),o 8 (bo .lss (t 7) (n 4))])
(.cond (t 8)
.skip
(.exit 0 [2,4])))
(S (.block 1 (S (R [o 6 (an 0)])
(.block 2 (.loop [1,2,4,5,6] a0g))))
(R [o 9 (mv 5),o 10 (bo .add (t 9) (n 1)),o 5 (av 10)])))
def c90:IR:=(S (R [z 1 (bx 50 0),o 2 (al 25),o 3 (an 0)])
(S (R [o 4 (al 25)])
(S (S (R [o 5 (an 0)])
(.block 0 (.loop [1,2,4,5] a0f)))
(S (R [o 46 (ld 25 4),w (st 25 2 46),o 3 (an 0)])
(.ret [2,3])))))
def g90:IFn:=⟨47,[.cell 2 25,.tmp 3],[25,3],c90,[],false,none⟩
def Wy:IR:=D [o 8 (fa 62 1 0),o 9 (ld 3 8),o 10 (fa 62 1 1),o 11 (ld 3 10),o 12 (fa 62 1 2),o 13 (ld 3 12),o 14 (.buildSlice 34 0 #[]),o 15 (fa 62 1 3),o 16 (ld 34 15),o 17 (.call { callee:=(.builtin .append),args:=#[(.tmp 14),(.tmp 16)],argTypes:=#[34,34] }),o 18 (.build 38 #[(0,(.tmp 9)),(1,(.tmp 11)),(2,(.tmp 13)),(3,(.tmp 17))]),w (st 38 2 18),o 3 (an 0)] [[],[0],[],[2],[],[4],[],[],[7],[6,8],[1,3,5,9],[10,9,0,1,2,3,4,5,6,7,8,9,10],[11,0,1,2,3,4,5,6,7,8,9,10,11]]
def c91:IR:=(S (R [z 1 (bx 62 0),o 2 (al 38),o 3 (an 0)])
(S (S (R [o 4 (ld 62 1),o 5 (cl 133 #[(t 4)] #[62]),o 6 (.unOp .not 4 (.tmp 5))])
(.cond (t 6)
(S (R [o 7 (.build 38 #[]),w (st 38 2 7),o 3 (an 1100)])
(.ret [2,3]))
.skip))
(S Wy
(.ret [2,3]))))
def g91:IFn:=⟨19,[.cell 2 38,.tmp 3],[38,3],c91,[],false,none⟩
def Pm:IR:=(S (R [o 9 (bo .lss (t 8) (t 7))])
(S (.cond (t 9)
.skip
(.exit 0 []))
(S (.block 1 (S (R [o 10 (mv 8),o 5 (av 10)])
(S (R [o 11 (mv 1),o 12 (mv 0),o 13 (mv 5),o 14 (ia 22 12 13),o 15 (ld 3 14),o 16 (bo .eql (t 11) (t 15))])
(.cond (t 16)
(S (R [o 17 (mv 5),o 4 (av 17)])
(.ret [4]))
.skip))))
(R [o 18 (bo .add (t 8) (n 1)),o 8 (mv 18)]))))
def c92:IR:=(S (R [o 4 (an 0)])
(S (S (R [o 6 (mv 0),o 7 (len 6 22),o 8 (.move (.const (.int .i64 0)))])
(.block 0 (.loop [0,1,7,8] Pm)))
(S (R [o 4 (an (-1))])
(.ret [4]))))
def g92:IFn:=⟨19,[.tmp 4],[3],c92,[],false,none⟩
def Es:IR:=(S (S (R [o 7 (mv 5),o 8 (mv 0),o 9 (mv 4),o 10 (nc 8),o 11 (fa 30 10 0),o 12 (ia 25 11 9),o 13 (ld 24 12),o 14 (len 13 24),o 15 (bo .lss (t 7) (t 14))])
(.cond (t 15)
.skip
(.exit 0 [0,1,4])))
(.block 1 (S (S (R [o 16 (mv 0),o 17 (mv 4),o 18 (nc 16),o 19 (fa 30 18 0),o 20 (ia 25 19 17),o 21 (ld 24 20),o 22 (mv 5),o 23 (ia 24 21 22),o 6 (av 23)])
(S (R [o 24 (mv 6),o 25 (nc 24),o 26 (fa 33 25 2),o 27 (ld 3 26),o 28 (mv 1),o 29 (bo .add (t 28) (n 1)),o 30 (bo .eql (t 27) (t 29))])
(.cond (t 30)
(R [o 31 (mv 6),o 32 (nc 31),o 33 (fa 33 32 2),w (.store 3 (.tmp 33) (.const (.int .i64 0)))])
.skip)))
(R [o 34 (mv 5),o 35 (bo .add (t 34) (n 1)),o 5 (av 35)]))))
def Nw:IR:=(S (R [o 4 (an 0),o 5 (an 0)])
(S (.label 0)
(S (.block 0 (.loop [0,1,4,5] Es))
(S (R [o 36 (mv 4),o 37 (bo .add (t 36) (n 1)),o 4 (av 37)])
(S (R [o 38 (mv 4),o 39 (bo .lss (t 38) (n 4))])
(.cond (t 39)
(S (R [o 5 (an 0)])
(.goto 0))
.skip))))))
def c93:IR:=(.scope [0,1,4,5] Nw)
def g93:IFn:=⟨40,[],[],c93,[],true,none⟩
def c94:IR:=(S (R [o 2 (.assign (.const (.slice none 0 0)))])
(S (S (R [o 3 (mv 0),o 4 (.binOp .eql 24 (.tmp 3) (.const (.slice none 0 0)) 24)])
(.cond (t 4)
(S (R [o 2 (.assign (.const (.slice none 0 0)))])
(.ret [2]))
.skip))
(S (R [o 5 (.buildSlice 24 0 #[]),o 6 (mv 0),o 7 (.call { callee:=(.builtin .append),args:=#[(.tmp 5),(.tmp 6)],argTypes:=#[24,24] }),o 2 (av 7)])
(.ret [2]))))
def g94:IFn:=⟨8,[.tmp 2],[24],c94,[],false,some (3,24)⟩
def c95:IR:=(S (R [o 2 (.assign (.const (.slice none 0 0)))])
(S (S (R [o 3 (mv 0),o 4 (.binOp .eql 34 (.tmp 3) (.const (.slice none 0 0)) 34)])
(.cond (t 4)
(S (R [o 2 (.assign (.const (.slice none 0 0)))])
(.ret [2]))
.skip))
(S (R [o 5 (.buildSlice 34 0 #[]),o 6 (mv 0),o 7 (.call { callee:=(.builtin .append),args:=#[(.tmp 5),(.tmp 6)],argTypes:=#[34,34] }),o 2 (av 7)])
(.ret [2]))))
def g95:IFn:=⟨8,[.tmp 2],[34],c95,[],false,some (4,32)⟩
def c96:IR:=(S (R [o 2 (.assign (.const (.slice none 0 0)))])
(S (S (R [o 3 (mv 0),o 4 (.binOp .eql 35 (.tmp 3) (.const (.slice none 0 0)) 35)])
(.cond (t 4)
(S (R [o 2 (.assign (.const (.slice none 0 0)))])
(.ret [2]))
.skip))
(S (R [o 5 (.buildSlice 35 0 #[]),o 6 (mv 0),o 7 (.call { callee:=(.builtin .append),args:=#[(.tmp 5),(.tmp 6)],argTypes:=#[35,35] }),o 2 (av 7)])
(.ret [2]))))
def g96:IFn:=⟨8,[.tmp 2],[35],c96,[],false,some (3,24)⟩
def c97:IR:=(S (R [o 2 (.assign (.const (.slice none 0 0)))])
(S (S (R [o 3 (mv 0),o 4 (.binOp .eql 36 (.tmp 3) (.const (.slice none 0 0)) 36)])
(.cond (t 4)
(S (R [o 2 (.assign (.const (.slice none 0 0)))])
(.ret [2]))
.skip))
(S (R [o 5 (.buildSlice 36 0 #[]),o 6 (mv 0),o 7 (.call { callee:=(.builtin .append),args:=#[(.tmp 5),(.tmp 6)],argTypes:=#[36,36] }),o 2 (av 7)])
(.ret [2]))))
def g97:IFn:=⟨8,[.tmp 2],[36],c97,[],false,some (3,24)⟩
def Dw:IR:=(S (S (R [o 9 (mv 4),o 10 (mv 3),o 11 (ia 25 1 10),o 12 (ld 24 11),o 13 (len 12 24),o 14 (bo .lss (t 9) (t 13))])
(.cond (t 14)
.skip
(.exit 2 [1,3])))
(S (.block 3 (S (R [o 17 (mv 4),o 18 (bo .geq (t 17) (n 4)),o 19 (mv 18),oF 20 (mv 3) 19,oF 21 (ia 25 1 20) 19,oF 22 (ld 24 21) 19,oF 23 (mv 4) 19,oF 24 (ia 24 22 23) 19,oF 25 (ld 33 24) 19,oF 26 (cl 112 #[(t 25)] #[33]) 19,oF 27 (.unOp .not 4 (.tmp 26)) 19,o 28 (.pick (.tmp 19) (.const (.bool true)) (.tmp 27))])
(.cond (t 28)
(S (R [o 2 (ab false)])
(.ret [2]))
.skip)))
(R [o 15 (mv 4),o 16 (bo .add (t 15) (n 1)),o 4 (av 16)])))
def Nv:IR:=(S (S (R [o 5 (mv 3),o 6 (bo .lss (t 5) (n 4))])
(.cond (t 6)
.skip
(.exit 0 [])))
(S (.block 1 (S (R [o 4 (an 0)])
(.block 2 (.loop [1,3,4] Dw))))
(R [o 7 (mv 3),o 8 (bo .add (t 7) (n 1)),o 3 (av 8)])))
def c98:IR:=(S (R [z 1 (bx 25 0),o 2 (ab false)])
(S (S (R [o 3 (an 0)])
(.block 0 (.loop [1,3] Nv)))
(S (R [o 2 (ab true)])
(.ret [2]))))
def g98:IFn:=⟨29,[.tmp 2],[4],c98,[],false,none⟩
def c99:IR:=(S (R [o 2 (ab false)])
(S (R [o 3 (mv 0),o 4 (cl 134 #[(t 3),(n 0),(n 65535)] #[3,3,3]),o 2 (av 4)])
(.ret [2])))
def g99:IFn:=⟨5,[.tmp 2],[4],c99,[],false,none⟩
def c100:IR:=(S (R [o 6 (ab false)])
(S (R [o 7 (mv 0),o 8 (mv 1),o 9 (bo .geq (t 7) (t 8)),o 10 (mv 9),oT 11 (mv 0) 10,oT 12 (mv 2) 10,oT 13 (bo .leq (t 11) (t 12)) 10,o 14 (.pick (.tmp 10) (.tmp 13) (.const (.bool false))),o 6 (av 14)])
(.ret [6])))
def g100:IFn:=⟨15,[.tmp 6],[4],c100,[],false,none⟩
def c101:IR:=(S (R [z 2 (bx 30 0),z 3 (bx 38 1),o 4 (ab false)])
(S (S (R [o 5 (fa 38 3 0),o 6 (ld 3 5),o 7 (fa 38 3 1),o 8 (ld 3 7),o 9 (fa 38 3 2),o 10 (ld 3 9),o 11 (fa 38 3 3),o 12 (ld 34 11),o 13 (.build 62 #[(0,(.tmp 6)),(1,(.tmp 8)),(2,(.tmp 10)),(3,(.tmp 12))]),o 14 (cl 133 #[(t 13)] #[62]),o 15 (.unOp .not 4 (.tmp 14)),o 16 (mv 15),oF 17 (fa 30 2 0) 16,oF 18 (ld 25 17) 16,oF 19 (ld 38 3) 16,oF 20 (cl 135 #[(t 18),(t 19)] #[25,38]) 16,oF 21 (.unOp .not 4 (.tmp 20)) 16,o 22 (.pick (.tmp 16) (.const (.bool true)) (.tmp 21))])
(.cond (t 22)
(S (R [o 4 (ab false)])
(.ret [4]))
.skip))
(S (S (R [o 23 (fa 38 3 4),o 24 (ld 3 23),o 25 (cl 100 #[(t 24),(n 0),(n 6)] #[3,3,3]),o 26 (.unOp .not 4 (.tmp 25)),o 27 (mv 26),oF 28 (fa 38 3 5) 27,oF 29 (ld 3 28) 27,oF 30 (fa 38 3 3) 27,oF 31 (ld 34 30) 27,oF 32 (len 31 34) 27,oF 33 (cl 100 #[(t 29),(n 0),(t 32)] #[3,3,3]) 27,oF 34 (.unOp .not 4 (.tmp 33)) 27,o 35 (.pick (.tmp 27) (.const (.bool true)) (.tmp 34)),o 36 (mv 35),oF 37 (fa 38 3 6) 36,oF 38 (ld 26 37) 36,oF 39 (cl 136 #[(t 38)] #[26]) 36,oF 40 (.unOp .not 4 (.tmp 39)) 36,o 41 (.pick (.tmp 36) (.const (.bool true)) (.tmp 40)),o 42 (mv 41),oF 43 (fa 38 3 7) 42,oF 44 (ld 35 43) 42,oF 45 (cl 114 #[(t 44)] #[35]) 42,oF 46 (.unOp .not 4 (.tmp 45)) 42,o 47 (.pick (.tmp 42) (.const (.bool true)) (.tmp 46)),o 48 (mv 47),oF 49 (fa 38 3 8) 48,oF 50 (ld 36 49) 48,oF 51 (cl 111 #[(t 50)] #[36]) 48,oF 52 (.unOp .not 4 (.tmp 51)) 48,o 53 (.pick (.tmp 48) (.const (.bool true)) (.tmp 52))])
(.cond (t 53)
(S (R [o 4 (ab false)])
(.ret [4]))
.skip))
(S (R [o 54 (fa 38 3 9),o 55 (ld 3 54),o 56 (fa 38 3 8),o 57 (ld 36 56),o 58 (len 57 36),o 59 (cl 100 #[(t 55),(n 0),(t 58)] #[3,3,3]),o 60 (mv 59),oT 61 (fa 38 3 10) 60,oT 62 (ld 3 61) 60,oT 63 (cl 99 #[(t 62)] #[3]) 60,o 64 (.pick (.tmp 60) (.tmp 63) (.const (.bool false))),o 65 (mv 64),oT 66 (fa 38 3 11) 65,oT 67 (ld 3 66) 65,oT 68 (cl 99 #[(t 67)] #[3]) 65,o 69 (.pick (.tmp 65) (.tmp 68) (.const (.bool false))),o 70 (mv 69),oT 71 (fa 38 3 12) 70,oT 72 (ld 3 71) 70,oT 73 (cl 100 #[(t 72),(n 0),(n 5)] #[3,3,3]) 70,o 74 (.pick (.tmp 70) (.tmp 73) (.const (.bool false))),o 75 (mv 74),oT 76 (fa 38 3 13) 75,oT 77 (ld 3 76) 75,oT 78 (cl 109 #[(t 77)] #[3]) 75,o 79 (.pick (.tmp 75) (.tmp 78) (.const (.bool false))),o 4 (av 79)])
(.ret [4])))))
def g101:IFn:=⟨80,[.tmp 4],[4],c101,[],false,none⟩
def c102:IR:=(S (R [o 2 (ab false)])
(S (R [o 3 (mv 0),o 4 (cl 134 #[(t 3),(n 0),(n 3)] #[3,3,3]),o 2 (av 4)])
(.ret [2])))
def g102:IFn:=⟨5,[.tmp 2],[4],c102,[],false,none⟩
def c103:IR:=(S (R [o 4 (ab false)])
(S (R [o 5 (mv 0),o 6 (mv 1),o 7 (bo .or (t 5) (t 6)),o 8 (mv 1),o 9 (bo .eql (t 7) (t 8)),o 4 (av 9)])
(.ret [4])))
def g103:IFn:=⟨10,[.tmp 4],[4],c103,[],false,none⟩
def NJ:IR:=(S (S (R [o 9 (mv 8),o 10 (mv 0),o 11 (len 10 36),o 12 (bo .lss (t 9) (t 11)),o 13 (mv 12),oT 14 (mv 0) 13,oT 15 (cl 111 #[(t 14)] #[36]) 13,o 16 (.pick (.tmp 13) (.tmp 15) (.const (.bool false)))])
(.cond (t 16)
.skip
(.exit 0 [])))
(S (.block 1 (S (R [o 19 (mv 0),o 20 (mv 8),o 21 (ia 36 19 20),o 22 (fa 114 21 0),o 23 (ld 3 22),o 24 (mv 1),o 25 (bo .eql (t 23) (t 24)),o 26 (mv 25),oT 27 (mv 0) 26,oT 28 (mv 8) 26,oT 29 (ia 36 27 28) 26,oT 30 (fa 114 29 1) 26,oT 31 (ld 3 30) 26,oT 32 (mv 2) 26,oT 33 (bo .eql (t 31) (t 32)) 26,o 34 (.pick (.tmp 26) (.tmp 33) (.const (.bool false)))])
(.cond (t 34)
(S (R [o 35 (mv 0),o 36 (mv 8),o 37 (ia 36 35 36),o 38 (fa 114 37 2),o 39 (ld 3 38),o 6 (av 39),o 7 (ab true)])
(.ret [6,7]))
.skip)))
(R [o 17 (mv 8),o 18 (bo .add (t 17) (n 1)),o 8 (av 18)])))
def vL:IR:=(S (R [o 6 (an 0),o 7 (ab false)])
(S (S (R [o 8 (an 0)])
(.block 0 (.loop [0,1,2,8] NJ)))
(S (R [o 6 (an 0),o 7 (ab false)])
(.ret [6,7]))))
def g104:IFn:=⟨40,[.tmp 6,.tmp 7],[3,4],vL,[],false,none⟩
def Rx:IR:=D [o 26 (mv 0),o 27 (mv 7),o 28 (ia 35 26 27),o 29 (fa 148 28 0),o 30 (ld 3 29),o 31 (fa 148 3 0),o 32 (ld 3 31),o 33 (bo .eql (t 30) (t 32)),o 34 (mv 33),oT 35 (mv 0) 34,oT 36 (mv 7) 34,oT 37 (ia 35 35 36) 34,oT 38 (fa 148 37 1) 34,oT 39 (ld 3 38) 34,oT 40 (fa 148 3 1) 34,oT 41 (ld 3 40) 34,oT 42 (bo .eql (t 39) (t 41)) 34,o 43 (.pick (.tmp 34) (.tmp 42) (.const (.bool false)))] [[],[],[0,1],[2],[3],[],[5],[4,6],[7],[8],[8],[9,10,8],[11,8],[12,8],[8],[14,8],[13,15,8],[8,16]]
def Ll:IR:=(S (S (R [o 20 (mv 7),o 21 (mv 0),o 22 (len 21 35),o 23 (bo .lss (t 20) (t 22))])
(.cond (t 23)
.skip
(.exit 0 [3,6])))
(S (.block 1 (S Rx
(.cond (t 43)
(S (R [o 44 (mv 6),o 4 (av 44),o 5 (an 0)])
(.ret [4,5]))
.skip)))
(R [o 24 (mv 7),o 25 (bo .add (t 24) (n 1)),o 7 (av 25)])))
def nR:IR:=(S (R [z 3 (bx 148 1),o 4 (.assign (.const (.slice none 0 0))),o 5 (an 0)])
(S (S (R [o 8 (mv 0),o 9 (cl 114 #[(t 8)] #[35]),o 10 (.unOp .not 4 (.tmp 9)),o 11 (mv 10),oF 12 (ld 148 3) 11,oF 13 (.buildSlice 35 1 #[(0,(.tmp 12))]) 11,oF 14 (cl 114 #[(t 13)] #[35]) 11,oF 15 (.unOp .not 4 (.tmp 14)) 11,o 16 (.pick (.tmp 11) (.const (.bool true)) (.tmp 15))])
(.cond (t 16)
(S (R [o 4 (.assign (.const (.slice none 0 0))),o 5 (an 900)])
(.ret [4,5]))
.skip))
(S (R [o 17 (.buildSlice 35 0 #[]),o 18 (mv 0),o 19 (.call { callee:=(.builtin .append),args:=#[(.tmp 17),(.tmp 18)],argTypes:=#[35,35] }),o 6 (av 19)])
(S (S (R [o 7 (an 0)])
(.block 0 (.loop [0,3,6,7] Ll)))
(S (R [o 45 (mv 6),o 46 (ld 148 3),o 47 (.buildSlice 35 1 #[(0,(.tmp 46))]),o 48 (.call { callee:=(.builtin .append),args:=#[(.tmp 45),(.tmp 47)],argTypes:=#[35,35] }),o 6 (av 48)])
(S (S (R [o 49 (mv 6),o 50 (len 49 35),o 51 (bo .gtr (t 50) (n 16))])
(.cond (t 51)
(S (R [o 4 (.assign (.const (.slice none 0 0))),o 5 (an 900)])
(.ret [4,5]))
.skip))
(S (R [o 52 (mv 6),o 4 (av 52),o 5 (an 0)])
(.ret [4,5]))))))))
def g105:IFn:=⟨53,[.tmp 4,.tmp 5],[35,3],nR,[],false,none⟩
def Rw:IR:=D [o 26 (mv 0),o 27 (mv 8),o 28 (ia 36 26 27),o 29 (fa 114 28 0),o 30 (ld 3 29),o 31 (mv 0),o 32 (mv 8),o 33 (ia 36 31 32),o 34 (fa 114 33 1),o 35 (ld 3 34),o 36 (cl 137 #[(t 30),(t 35)] #[3,3]),o 37 (fa 114 3 0),o 38 (ld 3 37),o 39 (fa 114 3 1),o 40 (ld 3 39),o 41 (cl 137 #[(t 38),(t 40)] #[3,3]),o 9 (av 36),o 10 (av 41)] [[],[],[0,1],[2],[3],[],[],[5,6],[7],[8],[4,9],[],[11],[],[13],[12,14,10],[10,15,0,1,2,3,4,5,6,7,8,9,10],[15,16,0,1,2,3,4,5,6,7,8,9,10,11,12,13,14,15,16]]
def Gg:IR:=(S (S (R [o 20 (mv 8),o 21 (mv 0),o 22 (len 21 36),o 23 (bo .lss (t 20) (t 22))])
(.cond (t 23)
.skip
(.exit 0 [3,6,7])))
(S (.block 1 (S Rw
(S (S (R [o 42 (mv 7),o 43 (.unOp .not 4 (.tmp 42)),o 44 (mv 43),oT 45 (mv 9) 44,oT 46 (mv 10) 44,oT 47 (bo .geq (t 45) (t 46)) 44,o 48 (.pick (.tmp 44) (.tmp 47) (.const (.bool false)))])
(.cond (t 48)
(S (R [o 49 (mv 6),o 50 (ld 114 3),o 51 (.buildSlice 36 1 #[(0,(.tmp 50))]),o 52 (.call { callee:=(.builtin .append),args:=#[(.tmp 49),(.tmp 51)],argTypes:=#[36,36] }),o 6 (av 52)])
(R [o 7 (ab true)]))
.skip))
(S (R [o 53 (mv 9),o 54 (mv 10),o 55 (bo .neq (t 53) (t 54))])
(.cond (t 55)
(R [o 56 (mv 6),o 57 (mv 0),o 58 (mv 8),o 59 (ia 36 57 58),o 60 (ld 114 59),o 61 (.buildSlice 36 1 #[(0,(.tmp 60))]),o 62 (.call { callee:=(.builtin .append),args:=#[(.tmp 56),(.tmp 61)],argTypes:=#[36,36] }),o 6 (av 62)])
.skip)))))
(R [o 24 (mv 8),o 25 (bo .add (t 24) (n 1)),o 8 (av 25)])))
def fL:IR:=(S (R [z 3 (bx 114 1),o 4 (.assign (.const (.slice none 0 0))),o 5 (an 0)])
(S (S (R [o 11 (mv 0),o 12 (cl 111 #[(t 11)] #[36]),o 13 (.unOp .not 4 (.tmp 12)),o 14 (mv 13),oF 15 (ld 114 3) 14,oF 16 (.buildSlice 36 1 #[(0,(.tmp 15))]) 14,oF 17 (cl 111 #[(t 16)] #[36]) 14,oF 18 (.unOp .not 4 (.tmp 17)) 14,o 19 (.pick (.tmp 14) (.const (.bool true)) (.tmp 18))])
(.cond (t 19)
(S (R [o 4 (.assign (.const (.slice none 0 0))),o 5 (an 1000)])
(.ret [4,5]))
.skip))
(S (R [o 6 (.assign (.const (.slice none 0 0)))])
(S (R [o 7 (ab false)])
(S (S (R [o 8 (an 0)])
(.block 0 (.loop [0,3,6,7,8] Gg)))
(S (S (R [o 63 (mv 7),o 64 (.unOp .not 4 (.tmp 63))])
(.cond (t 64)
(R [o 65 (mv 6),o 66 (ld 114 3),o 67 (.buildSlice 36 1 #[(0,(.tmp 66))]),o 68 (.call { callee:=(.builtin .append),args:=#[(.tmp 65),(.tmp 67)],argTypes:=#[36,36] }),o 6 (av 68)])
.skip))
(S (R [o 69 (mv 6),o 4 (av 69),o 5 (an 0)])
(.ret [4,5]))))))))
def g106:IFn:=⟨70,[.tmp 4,.tmp 5],[36,3],fL,[],false,none⟩
def vK:IR:=(S (R [o 3 (bx 26 0),o 6 (al 26),o 7 (an 0)])
(S (S (R [o 8 (ld 26 3),o 9 (cl 136 #[(t 8)] #[26]),o 10 (.unOp .not 4 (.tmp 9)),o 11 (mv 10),oF 12 (mv 1) 11,oF 13 (cl 138 #[(t 12)] #[3]) 11,oF 14 (.unOp .not 4 (.tmp 13)) 11,o 15 (.pick (.tmp 11) (.const (.bool true)) (.tmp 14)),o 16 (mv 15),oF 17 (mv 2) 16,oF 18 (cl 109 #[(t 17)] #[3]) 16,oF 19 (.unOp .not 4 (.tmp 18)) 16,o 20 (.pick (.tmp 16) (.const (.bool true)) (.tmp 19))])
(.cond (t 20)
(S (R [o 21 (.build 26 #[]),w (st 26 6 21),o 7 (an 600)])
(.ret [6,7]))
.skip))
(S (R [o 22 (mv 1),o 23 (mv 2),o 24 (ia 26 3 22),w (st 3 24 23)])
(S (R [o 25 (ld 26 3),w (st 26 6 25),o 7 (an 0)])
(.ret [6,7])))))
def g107:IFn:=⟨26,[.cell 6 26,.tmp 7],[26,3],vK,[],false,none⟩
def Rv:IR:=D [o 22 (mv 1),o 23 (mv 1),o 24 (ia 26 3 23),o 25 (ld 3 24),o 26 (mv 2),o 27 (ia 26 3 26),o 28 (ld 3 27),o 29 (bo .add (t 25) (t 28)),o 30 (bo .rem (t 29) (n 256)),o 31 (ia 26 3 22),w (st 3 31 30)] [[],[],[1],[2],[],[4],[5],[3,6],[7],[0,0,1,2,3,4,5,6,7,8],[9,8,0,1,2,3,4,5,6,7,8]]
def vJ:IR:=(S (R [o 3 (bx 26 0),o 6 (al 26),o 7 (an 0)])
(S (S (R [o 8 (ld 26 3),o 9 (cl 136 #[(t 8)] #[26]),o 10 (.unOp .not 4 (.tmp 9)),o 11 (mv 10),oF 12 (mv 1) 11,oF 13 (cl 138 #[(t 12)] #[3]) 11,oF 14 (.unOp .not 4 (.tmp 13)) 11,o 15 (.pick (.tmp 11) (.const (.bool true)) (.tmp 14)),o 16 (mv 15),oF 17 (mv 2) 16,oF 18 (cl 138 #[(t 17)] #[3]) 16,oF 19 (.unOp .not 4 (.tmp 18)) 16,o 20 (.pick (.tmp 16) (.const (.bool true)) (.tmp 19))])
(.cond (t 20)
(S (R [o 21 (.build 26 #[]),w (st 26 6 21),o 7 (an 600)])
(.ret [6,7]))
.skip))
(S Rv
(S (R [o 32 (ld 26 3),w (st 26 6 32),o 7 (an 0)])
(.ret [6,7])))))
def g108:IFn:=⟨33,[.cell 6 26,.tmp 7],[26,3],vJ,[],false,none⟩
def c109:IR:=(S (R [o 2 (ab false)])
(S (R [o 3 (mv 0),o 4 (cl 134 #[(t 3),(n 0),(n 255)] #[3,3,3]),o 2 (av 4)])
(.ret [2])))
def g109:IFn:=⟨5,[.tmp 2],[4],c109,[],false,none⟩
def CR:IR:=(S (S (R [o 21 (mv 8),o 22 (mv 7),o 23 (fa 30 5 0),o 24 (ia 25 23 22),o 25 (ld 24 24),o 26 (len 25 24),o 27 (bo .lss (t 21) (t 26))])
(.cond (t 27)
.skip
(.exit 2 [1,4,5,6,7])))
(S (.block 3 (S (R [o 30 (mv 7),o 31 (fa 30 5 0),o 32 (ia 25 31 30),o 33 (ld 24 32),o 34 (mv 8),o 35 (ia 24 33 34),o 36 (fa 33 35 2),o 37 (ld 3 36),o 38 (mv 6),o 39 (bo .add (t 38) (n 1)),o 40 (bo .eql (t 37) (t 39))])
(.cond (t 40)
(R [o 41 (mv 7),o 42 (fa 30 5 0),o 43 (ia 25 42 41),o 44 (ld 24 43),o 45 (mv 8),o 46 (ia 24 44 45),o 47 (fa 33 46 2),w (.store 3 (.tmp 47) (.const (.int .i64 0)))])
.skip)))
(R [o 28 (mv 8),o 29 (bo .add (t 28) (n 1)),o 8 (av 29)])))
def fK:IR:=(S (S (R [o 17 (mv 7),o 18 (bo .lss (t 17) (n 4))])
(.cond (t 18)
.skip
(.exit 0 [1,4,5])))
(S (.block 1 (S (R [o 8 (an 0)])
(.block 2 (.loop [1,4,5,6,7,8] CR))))
(R [o 19 (mv 7),o 20 (bo .add (t 19) (n 1)),o 7 (av 20)])))
def c110:IR:=(S (R [z 2 (bx 30 0),o 4 (al 30)])
(S (R [o 9 (ld 30 2),o 10 (cl 28 #[(t 9)] #[30]),o 5 (al 30),w (st 30 5 10)])
(S (R [o 11 (fa 30 2 3),o 12 (ld 27 11),o 13 (mv 1),o 14 (ia 27 12 13),o 15 (fa 38 14 0),o 16 (ld 3 15),o 6 (av 16)])
(S (S (R [o 7 (an 0)])
(.block 0 (.loop [1,4,5,6,7] fK)))
(S (R [o 48 (fa 30 5 3),o 49 (ld 27 48),o 50 (mv 1),o 51 (ia 27 49 50),o 52 (fa 38 51 7),w (.store 35 (.tmp 52) (.const (.slice none 0 0)))])
(S (R [o 53 (fa 30 5 3),o 54 (ld 27 53),o 55 (mv 1),o 56 (ia 27 54 55),o 57 (fa 38 56 8),w (.store 36 (.tmp 57) (.const (.slice none 0 0)))])
(S (R [o 58 (fa 30 5 3),o 59 (ld 27 58),o 60 (mv 1),o 61 (ia 27 59 60),o 62 (fa 38 61 9),w (.store 3 (.tmp 62) (.const (.int .i64 0)))])
(S (R [o 63 (fa 30 5 3),o 64 (ld 27 63),o 65 (mv 1),o 66 (ia 27 64 65),o 67 (fa 38 66 10),w (.store 3 (.tmp 67) (.const (.int .i64 0)))])
(S (R [o 68 (ld 30 5),w (st 30 4 68)])
(.ret [4]))))))))))
def g110:IFn:=⟨69,[.cell 4 30],[30],c110,[],false,none⟩
def Ru:IR:=D [o 10 (mv 0),o 11 (mv 3),o 12 (ia 36 10 11),o 13 (fa 114 12 0),o 14 (ld 3 13),o 15 (mv 0),o 16 (mv 3),o 17 (ia 36 15 16),o 18 (fa 114 17 1),o 19 (ld 3 18),o 20 (cl 139 #[(t 14),(t 19)] #[3,3]),o 21 (.unOp .not 4 (.tmp 20)),o 22 (mv 21),oF 23 (mv 0) 22,oF 24 (mv 3) 22,oF 25 (ia 36 23 24) 22,oF 26 (fa 114 25 2) 22,oF 27 (ld 3 26) 22,oF 28 (cl 109 #[(t 27)] #[3]) 22,oF 29 (.unOp .not 4 (.tmp 28)) 22,o 30 (.pick (.tmp 22) (.const (.bool true)) (.tmp 29)),o 31 (mv 30),oF 32 (mv 3) 31,oF 33 (bo .gtr (t 32) (n 0)) 31,oF 34 (mv 33) 31,oT 35 (mv 0) 34,oT 36 (mv 3) 34,oT 37 (ia 36 35 36) 34,oT 38 (fa 114 37 0) 34,oT 39 (ld 3 38) 34,oT 40 (mv 0) 34,oT 41 (mv 3) 34,oT 42 (ia 36 40 41) 34,oT 43 (fa 114 42 1) 34,oT 44 (ld 3 43) 34,oT 45 (cl 137 #[(t 39),(t 44)] #[3,3]) 34,oT 46 (mv 0) 34,oT 47 (mv 3) 34,oT 48 (bo .sub (t 47) (n 1)) 34,oT 49 (ia 36 46 48) 34,oT 50 (fa 114 49 0) 34,oT 51 (ld 3 50) 34,oT 52 (mv 0) 34,oT 53 (mv 3) 34,oT 54 (bo .sub (t 53) (n 1)) 34,oT 55 (ia 36 52 54) 34,oT 56 (fa 114 55 1) 34,oT 57 (ld 3 56) 34,oT 58 (cl 137 #[(t 51),(t 57)] #[3,3]) 34,oT 59 (bo .leq (t 45) (t 58)) 34,oF 60 (.pick (.tmp 34) (.tmp 59) (.const (.bool false))) 31,o 61 (.pick (.tmp 31) (.const (.bool true)) (.tmp 60))] [[],[],[0,1],[2],[3],[],[],[5,6],[7],[8],[4,9],[10],[11,10],[12],[12],[13,14,12],[15,12],[16,12],[17,12,12],[18,12],[12,19],[20,18],[21],[22,21],[23,21,21],[24],[24],[25,26,24],[27,24],[28,24],[24],[24],[30,31,24],[32,24],[33,24],[29,34,24,24],[24],[24],[37,24],[36,38,24],[39,24],[40,24],[24],[24],[43,24],[42,44,24],[45,24],[46,24],[41,47,35,24],[35,48,24],[24,49,21],[21,50]]
def Gf:IR:=(S (S (R [o 4 (mv 3),o 5 (mv 0),o 6 (len 5 36),o 7 (bo .lss (t 4) (t 6))])
(.cond (t 7)
.skip
(.exit 0 [0])))
(S (.block 1 (S Ru
(.cond (t 61)
(S (R [o 2 (ab false)])
(.ret [2]))
.skip)))
(R [o 8 (mv 3),o 9 (bo .add (t 8) (n 1)),o 3 (av 9)])))
def c111:IR:=(S (R [o 2 (ab false)])
(S (S (R [o 3 (an 0)])
(.block 0 (.loop [0,3] Gf)))
(S (R [o 62 (mv 0),o 63 (len 62 36),o 64 (bo .leq (t 63) (n 16)),o 2 (av 64)])
(.ret [2]))))
def g111:IFn:=⟨65,[.tmp 2],[4],c111,[],false,none⟩
def c112:IR:=(S (R [z 1 (bx 33 0),o 2 (ab false)])
(S (R [o 3 (fa 33 1 0),o 4 (ld 3 3),o 5 (cl 109 #[(t 4)] #[3]),o 6 (mv 5),oT 7 (fa 33 1 1) 6,oT 8 (ld 3 7) 6,oT 9 (cl 99 #[(t 8)] #[3]) 6,o 10 (.pick (.tmp 6) (.tmp 9) (.const (.bool false))),o 11 (mv 10),oT 12 (fa 33 1 2) 11,oT 13 (ld 3 12) 11,oT 14 (cl 134 #[(t 13),(n 0),(n 255)] #[3,3,3]) 11,o 15 (.pick (.tmp 11) (.tmp 14) (.const (.bool false))),o 2 (av 15)])
(.ret [2])))
def g112:IFn:=⟨16,[.tmp 2],[4],c112,[],false,none⟩
def c113:IR:=(S (R [o 2 (ab false)])
(S (R [o 3 (mv 0),o 4 (cl 134 #[(t 3),(n 0),(n 254)] #[3,3,3]),o 2 (av 4)])
(.ret [2])))
def g113:IFn:=⟨5,[.tmp 2],[4],c113,[],false,none⟩
def Rt:IR:=D [o 11 (mv 0),o 12 (mv 3),o 13 (ia 35 11 12),o 14 (fa 148 13 0),o 15 (ld 3 14),o 16 (mv 0),o 17 (mv 3),o 18 (ia 35 16 17),o 19 (fa 148 18 1),o 20 (ld 3 19),o 21 (cl 139 #[(t 15),(t 20)] #[3,3]),o 22 (.unOp .not 4 (.tmp 21)),o 23 (mv 22),oF 24 (mv 0) 23,oF 25 (mv 3) 23,oF 26 (ia 35 24 25) 23,oF 27 (fa 148 26 2) 23,oF 28 (ld 3 27) 23,oF 29 (cl 99 #[(t 28)] #[3]) 23,oF 30 (.unOp .not 4 (.tmp 29)) 23,o 31 (.pick (.tmp 23) (.const (.bool true)) (.tmp 30))] [[],[],[0,1],[2],[3],[],[],[5,6],[7],[8],[4,9],[10],[11,10],[12],[12],[13,14,12],[15,12],[16,12],[17,12,12],[18,12],[12,19]]
def Rr:IR:=D [o 37 (mv 0),o 38 (mv 4),o 39 (ia 35 37 38),o 40 (fa 148 39 0),o 41 (ld 3 40),o 42 (mv 0),o 43 (mv 3),o 44 (ia 35 42 43),o 45 (fa 148 44 0),o 46 (ld 3 45),o 47 (bo .eql (t 41) (t 46)),o 48 (mv 47),oT 49 (mv 0) 48,oT 50 (mv 4) 48,oT 51 (ia 35 49 50) 48,oT 52 (fa 148 51 1) 48,oT 53 (ld 3 52) 48,oT 54 (mv 0) 48,oT 55 (mv 3) 48,oT 56 (ia 35 54 55) 48,oT 57 (fa 148 56 1) 48,oT 58 (ld 3 57) 48,oT 59 (bo .eql (t 53) (t 58)) 48,o 60 (.pick (.tmp 48) (.tmp 59) (.const (.bool false)))] [[],[],[0,1],[2],[3],[],[],[5,6],[7],[8],[4,9],[10],[11],[11],[12,13,11],[14,11],[15,11],[11],[11],[17,18,11],[19,11],[20,11],[16,21,11],[11,22]]
def JR:IR:=(S (S (R [o 32 (mv 4),o 33 (mv 3),o 34 (bo .lss (t 32) (t 33))])
(.cond (t 34)
.skip
(.exit 2 [0,3])))
(S (.block 3 (S Rr
(.cond (t 60)
(S (R [o 2 (ab false)])
(.ret [2]))
.skip)))
(R [o 35 (mv 4),o 36 (bo .add (t 35) (n 1)),o 4 (av 36)])))
def IU:IR:=(S (S (R [o 5 (mv 3),o 6 (mv 0),o 7 (len 6 35),o 8 (bo .lss (t 5) (t 7))])
(.cond (t 8)
.skip
(.exit 0 [0])))
(S (.block 1 (S (S Rt
(.cond (t 31)
(S (R [o 2 (ab false)])
(.ret [2]))
.skip))
(S (R [o 4 (an 0)])
(.block 2 (.loop [0,3,4] JR)))))
(R [o 9 (mv 3),o 10 (bo .add (t 9) (n 1)),o 3 (av 10)])))
def c114:IR:=(S (R [o 2 (ab false)])
(S (S (R [o 3 (an 0)])
(.block 0 (.loop [0,3] IU)))
(S (R [o 61 (mv 0),o 62 (len 61 35),o 63 (bo .leq (t 62) (n 16)),o 2 (av 63)])
(.ret [2]))))
def g114:IFn:=⟨64,[.tmp 2],[4],c114,[],false,none⟩
def Rq:IR:=D [o 12 (ld 25 2),o 13 (mv 1),o 14 (mv 5),o 15 (ia 35 13 14),o 16 (fa 148 15 0),o 17 (ld 3 16),o 18 (mv 1),o 19 (mv 5),o 20 (ia 35 18 19),o 21 (fa 148 20 1),o 22 (ld 3 21),o 23 (cl 140 #[(t 12),(t 17),(t 22)] #[25,3,3]),o 24 (.unOp .not 4 (.tmp 23))] [[],[],[],[1,2],[3],[4],[],[],[6,7],[8],[9],[0,5,10],[11]]
def Lk:IR:=(S (S (R [o 6 (mv 5),o 7 (mv 1),o 8 (len 7 35),o 9 (bo .lss (t 6) (t 8))])
(.cond (t 9)
.skip
(.exit 0 [])))
(S (.block 1 (S Rq
(.cond (t 24)
(S (R [o 4 (ab false)])
(.ret [4]))
.skip)))
(R [o 10 (mv 5),o 11 (bo .add (t 10) (n 1)),o 5 (av 11)])))
def c115:IR:=(S (R [z 2 (bx 25 0),o 4 (ab false)])
(S (S (R [o 5 (an 0)])
(.block 0 (.loop [1,2,5] Lk)))
(S (R [o 4 (ab true)])
(.ret [4]))))
def g115:IFn:=⟨25,[.tmp 4],[4],c115,[],false,none⟩
def fJ:IR:=(S (R [o 8 (bo .lss (t 7) (n 4))])
(S (.cond (t 8)
.skip
(.exit 0 []))
(S (.block 1 (S (R [o 9 (.index 25 (.tmp 6) (.tmp 7)),o 5 (av 9)])
(S (R [o 10 (mv 5),o 11 (len 10 24),o 12 (bo .gtr (t 11) (n 4)),o 13 (mv 12),oF 14 (mv 5) 13,oF 15 (mv 3) 13,oF 16 (cl 143 #[(t 14),(t 15)] #[24,163]) 13,o 17 (.pick (.tmp 13) (.const (.bool true)) (.tmp 16))])
(.cond (t 17)
(S (R [o 2 (ab false)])
(.ret [2]))
.skip))))
(R [o 18 (bo .add (t 7) (n 1)),o 7 (mv 18)]))))
def c116:IR:=(S (R [z 1 (bx 25 0),o 2 (ab false)])
(S (R [o 3 (.assign (.func 141))])
(S (S (R [o 6 (ld 25 1),o 7 (.move (.const (.int .i64 0)))])
(.block 0 (.loop [3,6,7] fJ)))
(S (R [o 2 (ab true)])
(.ret [2])))))
def g116:IFn:=⟨19,[.tmp 2],[4],c116,[],false,none⟩
def Vm:IR:=(S (R [o 9 (bo .lss (t 8) (n 4))])
(S (.cond (t 9)
.skip
(.exit 0 [1]))
(S (.block 1 (S (R [o 10 (nc 7),o 11 (ia 26 10 8),o 12 (ld 3 11),o 6 (av 12)])
(S (R [o 13 (mv 6),o 14 (cl 144 #[(t 13)] #[3]),o 15 (.unOp .not 4 (.tmp 14))])
(.cond (t 15)
(S (R [o 4 (ab false)])
(.ret [4]))
.skip))))
(R [o 16 (bo .add (t 8) (n 1)),o 8 (mv 16)]))))
def vI:IR:=(S (R [o 4 (ab false)])
(S (S (R [o 7 (mv 0),o 8 (.move (.const (.int .i64 0)))])
(.block 0 (.loop [1,7,8] Vm)))
(S (R [o 17 (mv 1),o 18 (cl 144 #[(t 17)] #[3]),o 4 (av 18)])
(.ret [4]))))
def g117:IFn:=⟨19,[.tmp 4],[4],vI,[],false,none⟩
def fI:IR:=(S (S (R [o 12 (mv 4),o 13 (mv 0),o 14 (len 13 22),o 15 (bo .lss (t 12) (t 14))])
(.cond (t 15)
.skip
(.exit 0 [3])))
(S (.block 1 (R [o 18 (mv 3),o 19 (mv 0),o 20 (mv 4),o 21 (ia 22 19 20),o 22 (ld 3 21),o 23 (.call { callee:=(.builtin .max),args:=#[(.tmp 18),(.tmp 22)],argTypes:=#[3,3] }),o 3 (av 23)]))
(R [o 16 (mv 4),o 17 (bo .add (t 16) (n 1)),o 4 (av 17)])))
def c118:IR:=(S (R [o 2 (an 0)])
(S (S (R [o 5 (mv 0),o 6 (len 5 22),o 7 (bo .lss (t 6) (n 1))])
(.cond (t 7)
(R [o 8 (.makeInterface 9 (.const (.string { data:=#[115,108,105,99,101,115,46,77,97,120,58,32,101,109,112,116,121,32,108,105,115,116] }))),w (.panic (.tmp 8))])
.skip))
(S (R [o 9 (mv 0),o 10 (.indexAddr 22 (.tmp 9) (.const (.int .i64 0))),o 11 (ld 3 10),o 3 (av 11)])
(S (S (R [o 4 (an 1)])
(.block 0 (.loop [0,3,4] fI)))
(S (R [o 24 (mv 3),o 2 (av 24)])
(.ret [2]))))))
def g118:IFn:=⟨25,[.tmp 2],[3],c118,[],false,none⟩
def c119:IR:=(S (R [z 1 (bx 71 0),o 2 (ab false)])
(S (R [o 3 (fa 71 1 1),o 4 (ld 3 3),o 5 (cl 48 #[(t 4)] #[3]),o 2 (av 5)])
(.ret [2])))
def g119:IFn:=⟨6,[.tmp 2],[4],c119,[],false,none⟩
def c120:IR:=(S (R [z 3 (bx 171 1),o 4 (ab false)])
(S (R [o 5 (mv 0),o 6 (.makeFunc (Go.Fn.func 146) #[] #[(.tmp 3)]),o 7 (cl 145 #[(t 5),(t 6)] #[27,171]),o 8 (.unOp .not 4 (.tmp 7)),o 4 (av 8)])
(.ret [4])))
def g120:IFn:=⟨9,[.tmp 4],[4],c120,[],false,none⟩
def c121:IR:=(S (R [z 2 (bx 174 0),z 3 (bx 38 1),o 4 (ab false)])
(S (R [o 8 (fa 38 3 0),o 9 (ld 3 8),o 10 (fa 38 3 1),o 11 (ld 3 10),o 12 (fa 38 3 2),o 13 (ld 3 12),o 14 (fa 38 3 3),o 15 (ld 34 14),o 16 (.build 62 #[(0,(.tmp 9)),(1,(.tmp 11)),(2,(.tmp 13)),(3,(.tmp 15))]),o 17 (cl 17 #[(t 16)] #[62]),o 5 (av 17)])
(S (R [o 18 (fa 38 3 7),o 19 (ld 35 18),o 20 (cl 147 #[(t 19)] #[35]),o 21 (mv 20),oT 22 (fa 38 3 8) 21,oT 23 (ld 36 22) 21,oT 24 (cl 148 #[(t 23)] #[36]) 21,o 25 (.pick (.tmp 21) (.tmp 24) (.const (.bool false))),o 26 (mv 25),oT 27 (fa 38 3 7) 26,oT 28 (ld 35 27) 26,oT 29 (ld 174 2) 26,oT 30 (.makeFunc (Go.Fn.func 150) #[(.tmp 29)] #[]) 26,oT 31 (cl 149 #[(t 28),(t 30)] #[35,186]) 26,o 32 (.pick (.tmp 26) (.tmp 31) (.const (.bool false))),o 33 (mv 32),oT 34 (fa 38 3 8) 33,oT 35 (ld 36 34) 33,oT 36 (ld 174 2) 33,oT 37 (.makeFunc (Go.Fn.func 152) #[(.tmp 36)] #[]) 33,oT 38 (cl 151 #[(t 35),(t 37)] #[36,188]) 33,o 39 (.pick (.tmp 33) (.tmp 38) (.const (.bool false))),o 40 (mv 39),oT 41 (fa 38 3 3) 40,oT 42 (ld 34 41) 40,oT 43 (ld 174 2) 40,oT 44 (.makeFunc (Go.Fn.func 154) #[(.tmp 43)] #[]) 40,oT 45 (cl 153 #[(t 42),(t 44)] #[34,137]) 40,o 46 (.pick (.tmp 40) (.tmp 45) (.const (.bool false))),o 6 (av 46)])
(S (R [o 47 (fa 38 3 5),o 48 (ld 3 47),o 49 (fa 38 3 3),o 50 (ld 34 49),o 51 (len 50 34),o 52 (cl 155 #[(t 48),(t 51)] #[3,3]),o 53 (mv 52),oT 54 (fa 38 3 9) 53,oT 55 (ld 3 54) 53,oT 56 (fa 38 3 8) 53,oT 57 (ld 36 56) 53,oT 58 (len 57 36) 53,oT 59 (cl 155 #[(t 55),(t 58)] #[3,3]) 53,o 60 (.pick (.tmp 53) (.tmp 59) (.const (.bool false))),o 61 (mv 60),oT 62 (fa 38 3 4) 61,oT 63 (ld 3 62) 61,oT 64 (cl 155 #[(t 63),(n 6)] #[3,3]) 61,o 65 (.pick (.tmp 61) (.tmp 64) (.const (.bool false))),o 66 (mv 65),oT 67 (fa 38 3 12) 66,oT 68 (ld 3 67) 66,oT 69 (cl 155 #[(t 68),(n 5)] #[3,3]) 66,o 70 (.pick (.tmp 66) (.tmp 69) (.const (.bool false))),o 7 (av 70)])
(S (R [o 71 (mv 5),o 72 (mv 71),oT 73 (mv 6) 72,o 74 (.pick (.tmp 72) (.tmp 73) (.const (.bool false))),o 75 (mv 74),oT 76 (mv 7) 75,o 77 (.pick (.tmp 75) (.tmp 76) (.const (.bool false))),o 78 (mv 77),oT 79 (fa 38 3 6) 78,oT 80 (cl 156 #[(t 79)] #[167]) 78,o 81 (.pick (.tmp 78) (.tmp 80) (.const (.bool false))),o 82 (mv 81),oT 83 (fa 38 3 10) 82,oT 84 (ld 3 83) 82,oT 85 (cl 144 #[(t 84)] #[3]) 82,o 86 (.pick (.tmp 82) (.tmp 85) (.const (.bool false))),o 87 (mv 86),oT 88 (fa 38 3 11) 87,oT 89 (ld 3 88) 87,oT 90 (cl 144 #[(t 89)] #[3]) 87,o 91 (.pick (.tmp 87) (.tmp 90) (.const (.bool false))),o 92 (mv 91),oT 93 (fa 38 3 13) 92,oT 94 (ld 3 93) 92,oT 95 (cl 52 #[(t 94)] #[3]) 92,o 96 (.pick (.tmp 92) (.tmp 95) (.const (.bool false))),o 4 (av 96)])
(.ret [4]))))))
def g121:IFn:=⟨97,[.tmp 4],[4],c121,[],false,none⟩
def c122:IR:=(S (R [z 3 (bx 169 1),o 4 (ab false)])
(S (R [o 5 (mv 0),o 6 (.makeFunc (Go.Fn.func 158) #[] #[(.tmp 3)]),o 7 (cl 157 #[(t 5),(t 6)] #[28,169]),o 8 (.unOp .not 4 (.tmp 7)),o 4 (av 8)])
(.ret [4])))
def g122:IFn:=⟨9,[.tmp 4],[4],c122,[],false,none⟩
def IT:IR:=(S (R [o 1 (bx 129 0),o 2 (.assign (.const (.pointer none)))])
(S (R [o 3 (fa 129 1 0),o 4 (fa 30 3 3),o 5 (ld 27 4),o 6 (fa 129 1 1),o 7 (ld 3 6),o 8 (ia 27 5 7),o 2 (av 8)])
(.ret [2])))
def g123:IFn:=⟨9,[.tmp 2],[74],IT,[],true,none⟩
def Rp:IR:=D [o 8 (mv 4),o 9 (nc 8),o 10 (fa 38 9 5),o 11 (ld 3 10),o 12 (mv 4),o 13 (nc 12),o 14 (fa 38 13 3),o 15 (ld 34 14),o 16 (len 15 34),o 17 (bo .eql (t 11) (t 16))] [[],[0],[1],[2],[],[4],[5],[6],[7],[3,8]]
def Ro:IR:=D [o 22 (mv 4),o 23 (nc 22),o 24 (fa 38 23 3),o 25 (ld 34 24),o 26 (mv 4),o 27 (nc 26),o 28 (fa 38 27 5),o 29 (ld 3 28),o 30 (ia 34 25 29),o 31 (ld 40 30),o 5 (al 40),w (st 40 5 31)] [[],[0],[1],[2],[],[4],[5],[6],[3,7],[8],[],[10,9,0,1,2,3,4,5,6,7,8,9,10]]
def Vl:IR:=(S (R [z 1 (bx 129 0),o 2 (al 30),o 3 (an 0)])
(S (R [o 6 (ld 129 1),o 7 (cl 123 #[(t 6)] #[129]),o 4 (av 7)])
(S (S Rp
(.cond (t 17)
(S (R [o 18 (ld 129 1),o 19 (cl 159 #[(t 18)] #[129]),o 20 (xt 19 0),o 21 (xt 19 1),w (st 30 2 20),o 3 (av 21)])
(.ret [2,3]))
.skip))
(S (S Ro
(S (R [o 32 (fa 40 5 0),o 33 (ld 3 32)])
(.block 0 (S (R [o 35 (bo .eql (t 33) (n 2)),o 34 (av 35)])
(.cond (t 34)
(S (R [o 36 (ld 129 1),o 37 (cl 160 #[(t 36)] #[129]),o 38 (xt 37 0),o 39 (xt 37 1),w (st 30 2 38),o 3 (av 39)])
(.ret [2,3]))
(S (R [o 41 (bo .eql (t 33) (n 3)),o 40 (av 41)])
(.cond (t 40)
(S (R [o 42 (fa 129 1 0),o 43 (ld 30 42),o 44 (fa 129 1 1),o 45 (ld 3 44),o 46 (cl 161 #[(t 43),(t 45)] #[30,3]),o 47 (xt 46 0),o 48 (xt 46 1),w (st 30 2 47),o 3 (av 48)])
(.ret [2,3]))
(S (R [o 50 (bo .eql (t 33) (n 5)),o 49 (av 50)])
(.cond (t 49)
(S (R [o 51 (fa 129 1 0),o 52 (ld 30 51),o 53 (fa 129 1 1),o 54 (ld 3 53),o 55 (cl 129 #[(t 52),(t 54)] #[30,3]),o 56 (xt 55 0),o 57 (xt 55 1),w (st 30 2 56),o 3 (av 57)])
(.ret [2,3]))
(S (R [o 59 (bo .eql (t 33) (n 6)),o 58 (av 59)])
(.cond (t 58)
(S (R [o 60 (ld 129 1),o 61 (fa 40 5 1),o 62 (ld 3 61),o 63 (cl 162 #[(t 60),(n 2),(t 62)] #[129,3,3]),o 64 (xt 63 0),o 65 (xt 63 1),w (st 30 2 64),o 3 (av 65)])
(.ret [2,3]))
.skip)))))))))))
(S (R [o 66 (fa 129 1 0),o 67 (ld 30 66),o 68 (fa 129 1 1),o 69 (ld 3 68),o 70 (cl 163 #[(t 67),(t 69)] #[30,3]),o 71 (xt 70 0),o 72 (xt 70 1),w (st 30 2 71),o 3 (av 72)])
(.ret [2,3]))))))
def g124:IFn:=⟨73,[.cell 2 30,.tmp 3],[30,41],Vl,[],false,none⟩
def Rn:IR:=D [o 11 (mv 1),o 12 (cl 164 #[(t 2),(t 11),(n 1)] #[73,3,3]),o 13 (.unOp .not 4 (.tmp 12)),o 14 (mv 13),oF 15 (fa 30 2 3) 14,oF 16 (ld 27 15) 14,oF 17 (mv 1) 14,oF 18 (ia 27 16 17) 14,oF 19 (fa 38 18 9) 14,oF 20 (ld 3 19) 14,oF 21 (fa 30 2 3) 14,oF 22 (ld 27 21) 14,oF 23 (mv 1) 14,oF 24 (ia 27 22 23) 14,oF 25 (fa 38 24 8) 14,oF 26 (ld 36 25) 14,oF 27 (len 26 36) 14,oF 28 (bo .eql (t 20) (t 27)) 14,o 29 (.pick (.tmp 14) (.const (.bool true)) (.tmp 28))] [[],[0],[1],[2,1],[3],[4,3],[3],[5,6,3],[7,3],[8,3],[3],[10,3],[3],[11,12,3],[13,3],[14,3],[15,3],[9,16,3],[3,17]]
def Rm:IR:=D [o 37 (mv 7),o 38 (nc 37),o 39 (fa 38 38 8),o 40 (ld 36 39),o 41 (mv 7),o 42 (nc 41),o 43 (fa 38 42 9),o 44 (ld 3 43),o 45 (ia 36 40 44),o 46 (ld 114 45),o 8 (al 114),w (st 114 8 46)] [[],[0],[1],[2],[],[4],[5],[6],[3,7],[8],[],[10,9,0,1,2,3,4,5,6,7,8,9,10]]
def Rl:IR:=D [o 48 (fa 114 8 0),o 49 (ld 3 48),o 50 (fa 30 6 0),o 51 (ia 25 50 49),o 52 (ld 24 51),o 53 (fa 114 8 1),o 54 (ld 3 53),o 55 (ia 24 52 54),o 56 (ld 33 55),o 57 (mv 7),o 58 (nc 57),o 59 (fa 38 58 0),o 60 (ld 3 59),o 61 (cl 165 #[(t 56),(t 60)] #[33,3]),o 47 (mv 61),o 62 (xt 47 0),o 63 (xt 47 1),o 9 (al 33),w (st 33 9 62),o 10 (av 63)] [[],[0],[],[2,1],[3],[],[5],[4,6],[7],[],[9],[10],[11],[8,12],[13],[14],[14],[],[17,15,13,0,1,2,3,4,5,6,7,8,9,10,11,12,13,14,15,17],[16,18,0,1,2,3,4,5,6,7,8,9,10,11,12,13,14,15,16,17,18]]
def Rk:IR:=D [o 71 (fa 114 8 0),o 72 (ld 3 71),o 73 (fa 30 6 0),o 74 (ia 25 73 72),o 75 (ld 24 74),o 76 (fa 114 8 1),o 77 (ld 3 76),o 78 (ld 33 9),o 79 (ia 24 75 77),w (st 33 79 78)] [[],[0],[],[2,1],[3],[],[5],[],[4,6,0,1,2,3,4,5,6,7],[8,7,0,1,2,3,4,5,6,7]]
def Rj:IR:=D [o 87 (mv 7),o 88 (nc 87),o 89 (fa 38 88 9),o 90 (ld 3 89),o 91 (mv 7),o 92 (nc 91),o 93 (fa 38 92 8),o 94 (ld 36 93),o 95 (len 94 36),o 96 (bo .eql (t 90) (t 95))] [[],[0],[1],[2],[],[4],[5],[6],[7],[3,8]]
def Vk:IR:=(S (R [z 2 (bx 30 0),o 4 (al 30),o 5 (an 0)])
(S (S Rn
(.cond (t 29)
(S (R [o 30 (.build 30 #[]),w (st 30 4 30),o 5 (an 1800)])
(.ret [4,5]))
.skip))
(S (R [o 31 (ld 30 2),o 32 (cl 25 #[(t 31)] #[30]),o 6 (al 30),w (st 30 6 32)])
(S (R [o 33 (fa 30 6 3),o 34 (ld 27 33),o 35 (mv 1),z 36 (ia 27 34 35),o 7 (av 36)])
(S Rm
(S Rl
(S (S (R [o 64 (mv 10),o 65 (.binOp .neq 41 (.tmp 64) (.const (.int .i64 0)) 41)])
(.cond (t 65)
(S (R [o 66 (ld 30 2),o 67 (mv 1),o 68 (cl 166 #[(t 66),(t 67),(n 3)] #[30,3,3]),o 69 (xt 68 0),o 70 (xt 68 1),w (st 30 4 69),o 5 (av 70)])
(.ret [4,5]))
.skip))
(S Rk
(S (S (R [o 80 (mv 7),o 81 (nc 80),o 82 (fa 38 81 9),o 83 (ld 3 82),o 84 (bo .add (t 83) (n 1)),o 85 (nc 80),o 86 (fa 38 85 9),w (st 3 86 84)])
(S Rj
(.cond (t 96)
(R [o 97 (mv 7),o 98 (nc 97),o 99 (fa 38 98 4),w (.store 3 (.tmp 99) (.const (.int .i64 2)))])
.skip)))
(S (R [o 100 (ld 30 6),w (st 30 4 100),o 5 (an 0)])
(.ret [4,5])))))))))))
def g125:IFn:=⟨101,[.cell 4 30,.tmp 5],[30,41],Vk,[],false,none⟩
def Ri:IR:=D [o 16 (fa 30 2 1),o 17 (ld 26 16),o 18 (fa 30 2 3),o 19 (ld 27 18),o 20 (mv 1),o 21 (ia 27 19 20),o 22 (fa 38 21 1),o 23 (ld 3 22),o 24 (fa 30 2 2),o 25 (ld 3 24),o 26 (cl 167 #[(t 17),(t 23),(t 25)] #[26,3,3]),o 15 (mv 26),o 27 (xt 15 0),o 28 (xt 15 1),o 29 (xt 15 2),o 6 (al 26),w (st 26 6 27),o 7 (av 28),o 8 (av 29)] [[],[0],[],[2],[],[3,4],[5],[6],[],[8],[1,7,9],[10],[11],[11],[11],[],[15,12,10,0,1,2,3,4,5,6,7,8,9,10,11,12,15],[13,16,0,1,2,3,4,5,6,7,8,9,10,11,12,13,15,16],[14,17,0,1,2,3,4,5,6,7,8,9,10,11,12,13,14,15,16,17]]
def nQ:IR:=(S (R [z 2 (bx 30 0),o 4 (al 30),o 5 (an 0)])
(S (S (R [o 11 (mv 1),o 12 (cl 164 #[(t 2),(t 11),(n 2)] #[73,3,3]),o 13 (.unOp .not 4 (.tmp 12))])
(.cond (t 13)
(S (R [o 14 (.build 30 #[]),w (st 30 4 14),o 5 (an 1900)])
(.ret [4,5]))
.skip))
(S Ri
(S (S (R [o 30 (mv 8),o 31 (.binOp .neq 41 (.tmp 30) (.const (.int .i64 0)) 41)])
(.cond (t 31)
(S (R [o 32 (ld 30 2),o 33 (mv 1),o 34 (cl 24 #[(t 32),(t 33),(n 5),(n 0)] #[30,3,3,3]),o 35 (xt 34 0),o 36 (xt 34 1),w (st 30 4 35),o 5 (av 36)])
(.ret [4,5]))
.skip))
(S (R [o 37 (ld 30 2),o 38 (cl 25 #[(t 37)] #[30]),o 9 (al 30),w (st 30 9 38)])
(S (R [o 39 (fa 30 9 3),o 40 (ld 27 39),o 41 (mv 1),o 42 (ia 27 40 41),o 10 (av 42)])
(S (R [o 43 (mv 10),o 44 (mv 10),o 45 (ld 26 6),o 46 (mv 7),o 47 (fa 30 9 1),w (st 26 47 45),o 48 (nc 43),o 49 (fa 38 48 10),w (st 3 49 46),o 50 (nc 44),o 51 (fa 38 50 4),w (.store 3 (.tmp 51) (.const (.int .i64 3)))])
(S (R [o 52 (ld 30 9),w (st 30 4 52),o 5 (an 0)])
(.ret [4,5])))))))))
def g126:IFn:=⟨53,[.cell 4 30,.tmp 5],[30,41],nQ,[],false,none⟩
def Rh:IR:=D [o 20 (fa 30 2 0),o 21 (ld 25 20),o 22 (mv 6),o 23 (nc 22),o 24 (fa 38 23 7),o 25 (ld 35 24),o 26 (mv 6),o 27 (nc 26),o 28 (fa 38 27 0),o 29 (ld 3 28),o 30 (cl 168 #[(t 21),(t 25),(t 29)] #[25,35,3]),o 19 (mv 30),o 31 (xt 19 0),o 32 (xt 19 1),o 7 (av 31),o 8 (av 32)] [[],[0],[],[2],[3],[4],[],[6],[7],[8],[1,5,9],[10],[11],[11],[12,10,0,1,2,3,4,5,6,7,8,9,10,11,12],[13,14,0,1,2,3,4,5,6,7,8,9,10,11,12,13,14]]
def fH:IR:=(S (R [z 2 (bx 30 0),o 4 (al 30),o 5 (an 0)])
(S (S (R [o 11 (mv 1),o 12 (cl 164 #[(t 2),(t 11),(n 3)] #[73,3,3]),o 13 (.unOp .not 4 (.tmp 12))])
(.cond (t 13)
(S (R [o 14 (.build 30 #[]),w (st 30 4 14),o 5 (an 2000)])
(.ret [4,5]))
.skip))
(S (R [o 15 (fa 30 2 3),o 16 (ld 27 15),o 17 (mv 1),o 18 (ia 27 16 17),o 6 (av 18)])
(S Rh
(S (.block 0 (S (R [o 34 (mv 7),o 35 (.unOp .not 4 (.tmp 34)),o 33 (av 35)])
(.cond (t 33)
(S (R [o 36 (ld 30 2),o 37 (mv 1),o 38 (cl 166 #[(t 36),(t 37),(n 3)] #[30,3,3]),o 39 (xt 38 0),o 40 (xt 38 1),w (st 30 4 39),o 5 (av 40)])
(.ret [4,5]))
(S (R [o 42 (mv 6),o 43 (nc 42),o 44 (fa 38 43 8),o 45 (ld 36 44),o 46 (len 45 36),o 47 (bo .eql (t 46) (n 0)),o 41 (av 47)])
(.cond (t 41)
(S (R [o 48 (ld 30 2),o 49 (mv 1),o 50 (cl 24 #[(t 48),(t 49),(n 1),(n 0)] #[30,3,3,3]),o 51 (xt 50 0),o 52 (xt 50 1),w (st 30 4 51),o 5 (av 52)])
(.ret [4,5]))
.skip)))))
(S (R [o 53 (ld 30 2),o 54 (cl 25 #[(t 53)] #[30]),o 9 (al 30),w (st 30 9 54)])
(S (R [o 55 (fa 30 9 3),o 56 (ld 27 55),o 57 (mv 1),o 58 (ia 27 56 57),o 10 (av 58)])
(S (R [o 59 (mv 10),o 60 (mv 10),o 61 (nc 59),o 62 (fa 38 61 9),w (.store 3 (.tmp 62) (.const (.int .i64 0))),o 63 (nc 60),o 64 (fa 38 63 4),w (.store 3 (.tmp 64) (.const (.int .i64 4)))])
(S (R [o 65 (ld 30 9),w (st 30 4 65),o 5 (an 0)])
(.ret [4,5]))))))))))
def g127:IFn:=⟨66,[.cell 4 30,.tmp 5],[30,41],fH,[],false,none⟩
def Rg:IR:=D [o 10 (mv 1),o 11 (cl 164 #[(t 2),(t 10),(n 4)] #[73,3,3]),o 12 (.unOp .not 4 (.tmp 11)),o 13 (mv 12),oF 14 (fa 30 2 3) 13,oF 15 (ld 27 14) 13,oF 16 (mv 1) 13,oF 17 (ia 27 15 16) 13,oF 18 (fa 38 17 9) 13,oF 19 (ld 3 18) 13,oF 20 (fa 30 2 3) 13,oF 21 (ld 27 20) 13,oF 22 (mv 1) 13,oF 23 (ia 27 21 22) 13,oF 24 (fa 38 23 8) 13,oF 25 (ld 36 24) 13,oF 26 (len 25 36) 13,oF 27 (bo .eql (t 19) (t 26)) 13,o 28 (.pick (.tmp 13) (.const (.bool true)) (.tmp 27))] [[],[0],[1],[2,1],[3],[4,3],[3],[5,6,3],[7,3],[8,3],[3],[10,3],[3],[11,12,3],[13,3],[14,3],[15,3],[9,16,3],[3,17]]
def Rf:IR:=D [o 36 (mv 7),o 37 (nc 36),o 38 (fa 38 37 8),o 39 (ld 36 38),o 40 (mv 7),o 41 (nc 40),o 42 (fa 38 41 9),o 43 (ld 3 42),o 44 (ia 36 39 43),o 45 (ld 114 44),o 8 (al 114),w (st 114 8 45)] [[],[0],[1],[2],[],[4],[5],[6],[3,7],[8],[],[10,9,0,1,2,3,4,5,6,7,8,9,10]]
def Re:IR:=D [o 46 (fa 114 8 0),o 47 (ld 3 46),o 48 (fa 30 6 0),o 49 (ia 25 48 47),o 50 (ld 24 49),o 51 (fa 114 8 1),o 52 (ld 3 51),o 53 (ia 24 50 52),o 9 (av 53)] [[],[0],[],[2,1],[3],[],[5],[4,6],[7,0,1,2,3,4,5,6,7]]
def Rc:IR:=D [o 55 (mv 9),o 56 (mv 9),o 57 (nc 56),o 58 (ld 33 57),o 59 (fa 114 8 2),o 60 (ld 3 59),o 61 (mv 7),o 62 (nc 61),o 63 (fa 38 62 10),o 64 (ld 3 63),o 65 (cl 169 #[(t 58),(t 60),(t 64)] #[33,3,3]),o 54 (mv 65),o 66 (xt 54 0),o 67 (xt 54 1),o 68 (nc 55),w (st 33 68 66)] [[],[],[1],[2],[],[4],[],[6],[7],[8],[3,5,9],[10],[11],[11],[0,0,1,2,3,4,5,6,7,8,9,10,11,12],[14,12,10,0,1,2,3,4,5,6,7,8,9,10,11,12]]
def Rb:IR:=D [o 76 (mv 7),o 77 (nc 76),o 78 (fa 38 77 9),o 79 (ld 3 78),o 80 (mv 7),o 81 (nc 80),o 82 (fa 38 81 8),o 83 (ld 36 82),o 84 (len 83 36),o 85 (bo .lss (t 79) (t 84))] [[],[0],[1],[2],[],[4],[5],[6],[7],[3,8]]
def Ze:IR:=(S (R [z 2 (bx 30 0),o 4 (al 30),o 5 (an 0)])
(S (S Rg
(.cond (t 28)
(S (R [o 29 (.build 30 #[]),w (st 30 4 29),o 5 (an 2100)])
(.ret [4,5]))
.skip))
(S (R [o 30 (ld 30 2),o 31 (cl 25 #[(t 30)] #[30]),o 6 (al 30),w (st 30 6 31)])
(S (R [o 32 (fa 30 6 3),o 33 (ld 27 32),o 34 (mv 1),z 35 (ia 27 33 34),o 7 (av 35)])
(S Rf
(S Re
(S Rc
(S (S (R [o 69 (mv 7),o 70 (nc 69),o 71 (fa 38 70 9),o 72 (ld 3 71),o 73 (bo .add (t 72) (n 1)),o 74 (nc 69),o 75 (fa 38 74 9),w (st 3 75 73)])
(S Rb
(.cond (t 85)
(S (R [o 86 (ld 30 6),w (st 30 4 86),o 5 (an 0)])
(.ret [4,5]))
.skip)))
(S (R [o 87 (ld 30 6),o 88 (mv 1),o 89 (cl 24 #[(t 87),(t 88),(n 1),(n 0)] #[30,3,3,3]),o 90 (xt 89 0),o 91 (xt 89 1),w (st 30 4 90),o 5 (av 91)])
(.ret [4,5]))))))))))
def g128:IFn:=⟨92,[.cell 4 30,.tmp 5],[30,41],Ze,[],false,none⟩
def Ra:IR:=D [o 41 (fa 30 2 0),o 42 (ld 25 41),o 43 (fa 30 2 3),o 44 (ld 27 43),o 45 (mv 1),o 46 (ia 27 44 45),o 47 (fa 38 46 7),o 48 (ld 35 47),o 49 (cl 170 #[(t 42),(t 48)] #[25,35]),o 40 (mv 49),o 50 (xt 40 0),o 51 (xt 40 1),o 8 (av 50),o 9 (av 51)] [[],[0],[],[2],[],[3,4],[5],[6],[1,7],[8],[9],[9],[10,8,0,1,2,3,4,5,6,7,8,9,10],[11,12,0,1,2,3,4,5,6,7,8,9,10,11,12]]
def RB:IR:=(S (R [z 2 (bx 30 0),o 4 (al 30),o 5 (an 0)])
(S (S (R [o 10 (mv 1),o 11 (.buildSlice 22 1 #[(0,(.const (.int .i64 5)))]),o 12 (cl 21 #[(t 2),(t 10),(t 11)] #[73,3,22])])
(.cond (t 12)
(S (R [o 13 (ld 30 2),o 14 (cl 25 #[(t 13)] #[30]),o 6 (al 30),w (st 30 6 14)])
(S (R [o 15 (fa 30 6 3),o 16 (ld 27 15),o 17 (mv 1),o 18 (ia 27 16 17),o 7 (av 18)])
(S (R [o 19 (mv 7),o 20 (mv 7),o 21 (mv 7),o 22 (nc 19),o 23 (fa 38 22 8),w (.store 36 (.tmp 23) (.const (.slice none 0 0))),o 24 (nc 20),o 25 (fa 38 24 9),w (.store 3 (.tmp 25) (.const (.int .i64 0))),o 26 (nc 21),o 27 (fa 38 26 4),w (.store 3 (.tmp 27) (.const (.int .i64 5)))])
(S (R [o 28 (mv 1),o 29 (mv 7),o 30 (nc 29),o 31 (fa 38 30 7),o 32 (ld 35 31),o 33 (len 32 35),o 34 (cl 26 #[(t 6),(t 28),(n 4),(t 33)] #[73,3,3,3])])
(S (R [o 35 (ld 30 6),w (st 30 4 35),o 5 (an 0)])
(.ret [4,5]))))))
.skip))
(S (S (R [o 36 (mv 1),o 37 (cl 164 #[(t 2),(t 36),(n 5)] #[73,3,3]),o 38 (.unOp .not 4 (.tmp 37))])
(.cond (t 38)
(S (R [o 39 (.build 30 #[]),w (st 30 4 39),o 5 (an 2200)])
(.ret [4,5]))
.skip))
(S (S Ra
(S (R [o 52 (mv 8)])
(.cond (t 52)
(S (R [o 53 (ld 30 2),o 54 (mv 1),o 55 (cl 166 #[(t 53),(t 54),(n 5)] #[30,3,3]),o 56 (xt 55 0),o 57 (xt 55 1),w (st 30 4 56),o 5 (av 57)])
(.ret [4,5]))
.skip)))
(S (R [o 58 (ld 30 2),o 59 (cl 25 #[(t 58)] #[30]),w (st 30 4 59),o 5 (an 0)])
(.ret [4,5]))))))
def g129:IFn:=⟨60,[.cell 4 30,.tmp 5],[30,41],RB,[],false,none⟩
def NI:IR:=(S (R [o 9 (bo .lss (t 8) (t 7))])
(S (.cond (t 9)
.skip
(.exit 0 []))
(S (.block 1 (S (R [o 10 (mv 8),o 5 (av 10)])
(S (R [o 11 (mv 1),o 12 (mv 0),o 13 (mv 5),o 14 (ia 52 12 13),o 15 (ld 86 14),o 16 (.call { callee:=(.value (.tmp 11)),args:=#[(.tmp 15)],argTypes:=#[86] })])
(.cond (t 16)
(S (R [o 17 (mv 5),o 4 (av 17)])
(.ret [4]))
.skip))))
(R [o 18 (bo .add (t 8) (n 1)),o 8 (mv 18)]))))
def c130:IR:=(S (R [o 4 (an 0)])
(S (S (R [o 6 (mv 0),o 7 (len 6 52),o 8 (.move (.const (.int .i64 0)))])
(.block 0 (.loop [0,1,7,8] NI)))
(S (R [o 4 (an (-1))])
(.ret [4]))))
def g130:IFn:=⟨19,[.tmp 4],[3],c130,[],false,none⟩
def QZ:IR:=D [o 13 (fa 40 1 1),o 14 (ld 3 13),o 15 (fa 40 1 2),o 16 (ld 3 15),o 17 (fa 40 3 1),w (st 3 17 14),o 18 (fa 40 3 2),w (st 3 18 16)] [[],[0],[],[2],[0,1],[4,1,0,1],[0,1,2,3,4,5],[6,3,5,0,1,2,3,4,5]]
def c131:IR:=(S (R [z 1 (bx 40 0),o 2 (al 40)])
(S (R [o 4 (fa 40 1 0),o 5 (ld 3 4),o 6 (.build 40 #[(0,(.tmp 5))]),o 3 (al 40),w (st 40 3 6)])
(S (S (R [o 7 (fa 40 1 0),o 8 (ld 3 7)])
(.block 0 (S (S (R [o 10 (bo .eql (t 8) (n 0)),o 9 (av 10)])
(.cond (t 9)
.skip
(S (R [o 11 (bo .eql (t 8) (n 1)),o 9 (av 11)])
(.cond (t 9)
.skip
(R [o 12 (bo .eql (t 8) (n 4)),o 9 (av 12)])))))
(.cond (t 9)
QZ
(S (S (R [o 20 (bo .eql (t 8) (n 2)),o 19 (av 20)])
(.cond (t 19)
.skip
(R [o 21 (bo .eql (t 8) (n 3)),o 19 (av 21)])))
(.cond (t 19)
(R [o 22 (ld 40 1),w (st 40 3 22)])
(S (R [o 24 (bo .eql (t 8) (n 6)),o 23 (av 24)])
(.cond (t 23)
(R [o 25 (fa 40 1 1),o 26 (ld 3 25),o 27 (fa 40 3 1),w (st 3 27 26)])
.skip))))))))
(S (R [o 28 (ld 40 3),w (st 40 2 28)])
(.ret [2])))))
def g131:IFn:=⟨29,[.cell 2 40],[40],c131,[],false,none⟩
def c132:IR:=(S (R [o 2 (ab false)])
(S (R [o 3 (mv 0),o 4 (bo .geq (t 3) (n 0)),o 5 (mv 4),oT 6 (mv 0) 5,oT 7 (bo .lss (t 6) (n 4)) 5,o 8 (.pick (.tmp 5) (.tmp 7) (.const (.bool false))),o 2 (av 8)])
(.ret [2])))
def g132:IFn:=⟨9,[.tmp 2],[4],c132,[],false,none⟩
def c133:IR:=(S (R [z 1 (bx 62 0),o 2 (ab false)])
(S (R [o 3 (fa 62 1 0),o 4 (ld 3 3),o 5 (cl 113 #[(t 4)] #[3]),o 6 (mv 5),oT 7 (fa 62 1 1) 6,oT 8 (ld 3 7) 6,oT 9 (cl 102 #[(t 8)] #[3]) 6,o 10 (.pick (.tmp 6) (.tmp 9) (.const (.bool false))),o 11 (mv 10),oT 12 (fa 62 1 2) 11,oT 13 (ld 3 12) 11,oT 14 (cl 102 #[(t 13)] #[3]) 11,o 15 (.pick (.tmp 11) (.tmp 14) (.const (.bool false))),o 16 (mv 15),oT 17 (fa 62 1 1) 16,oT 18 (ld 3 17) 16,oT 19 (fa 62 1 2) 16,oT 20 (ld 3 19) 16,oT 21 (cl 103 #[(t 18),(t 20)] #[3,3]) 16,o 22 (.pick (.tmp 16) (.tmp 21) (.const (.bool false))),o 23 (mv 22),oT 24 (fa 62 1 3) 23,oT 25 (ld 34 24) 23,oT 26 (cl 171 #[(t 25)] #[34]) 23,o 27 (.pick (.tmp 23) (.tmp 26) (.const (.bool false))),o 2 (av 27)])
(.ret [2])))
def g133:IFn:=⟨28,[.tmp 2],[4],c133,[],false,none⟩
def c134:IR:=(S (R [o 6 (ab false)])
(S (R [o 7 (mv 0),o 8 (mv 1),o 9 (bo .geq (t 7) (t 8)),o 10 (mv 9),oT 11 (mv 0) 10,oT 12 (mv 2) 10,oT 13 (bo .leq (t 11) (t 12)) 10,o 14 (.pick (.tmp 10) (.tmp 13) (.const (.bool false))),o 6 (av 14)])
(.ret [6])))
def g134:IFn:=⟨15,[.tmp 6],[4],c134,[],false,none⟩
def QY:IR:=D [o 21 (mv 6),o 22 (bo .eql (t 21) (n 2)),o 23 (mv 22),oF 24 (mv 6) 23,oF 25 (bo .eql (t 24) (n 3)) 23,o 26 (.pick (.tmp 23) (.const (.bool true)) (.tmp 25)),o 27 (mv 26),oT 28 (ld 25 2) 27,oT 29 (fa 38 3 3) 27,oT 30 (ld 34 29) 27,oT 31 (mv 5) 27,oT 32 (ia 34 30 31) 27,oT 33 (fa 40 32 2) 27,oT 34 (ld 3 33) 27,oT 35 (fa 38 3 3) 27,oT 36 (ld 34 35) 27,oT 37 (mv 5) 27,oT 38 (ia 34 36 37) 27,oT 39 (fa 40 38 3) 27,oT 40 (ld 3 39) 27,oT 41 (cl 140 #[(t 28),(t 34),(t 40)] #[25,3,3]) 27,oT 42 (.unOp .not 4 (.tmp 41)) 27,o 43 (.pick (.tmp 27) (.tmp 42) (.const (.bool false)))] [[],[0],[1],[2],[3,2],[2,4],[5,2],[6],[6],[8,6],[6],[9,10,6],[11,6],[12,6],[6],[14,6],[6],[15,16,6],[17,6],[18,6],[7,13,19,6,6],[20,6],[6,21]]
def JQ:IR:=(S (S (R [o 8 (mv 5),o 9 (fa 38 3 3),o 10 (ld 34 9),o 11 (len 10 34),o 12 (bo .lss (t 8) (t 11))])
(.cond (t 12)
.skip
(.exit 0 [2,3])))
(S (.block 1 (S (R [o 15 (fa 38 3 3),o 16 (ld 34 15),o 17 (mv 5),o 18 (ia 34 16 17),o 19 (fa 40 18 0),o 20 (ld 3 19),o 6 (av 20)])
(S QY
(.cond (t 43)
(S (R [o 4 (ab false)])
(.ret [4]))
.skip))))
(R [o 13 (mv 5),o 14 (bo .add (t 13) (n 1)),o 5 (av 14)])))
def QX:IR:=D [o 51 (ld 25 2),o 52 (fa 38 3 8),o 53 (ld 36 52),o 54 (mv 7),o 55 (ia 36 53 54),o 56 (fa 114 55 0),o 57 (ld 3 56),o 58 (fa 38 3 8),o 59 (ld 36 58),o 60 (mv 7),o 61 (ia 36 59 60),o 62 (fa 114 61 1),o 63 (ld 3 62),o 64 (cl 140 #[(t 51),(t 57),(t 63)] #[25,3,3]),o 65 (.unOp .not 4 (.tmp 64))] [[],[],[1],[],[2,3],[4],[5],[],[7],[],[8,9],[10],[11],[0,6,12],[13]]
def Lj:IR:=(S (S (R [o 44 (mv 7),o 45 (fa 38 3 8),o 46 (ld 36 45),o 47 (len 46 36),o 48 (bo .lss (t 44) (t 47))])
(.cond (t 48)
.skip
(.exit 2 [2,3])))
(S (.block 3 (S QX
(.cond (t 65)
(S (R [o 4 (ab false)])
(.ret [4]))
.skip)))
(R [o 49 (mv 7),o 50 (bo .add (t 49) (n 1)),o 7 (av 50)])))
def c135:IR:=(S (R [z 2 (bx 25 0),z 3 (bx 38 1),o 4 (ab false)])
(S (S (R [o 5 (an 0)])
(.block 0 (.loop [2,3,5] JQ)))
(S (S (R [o 7 (an 0)])
(.block 2 (.loop [2,3,7] Lj)))
(S (R [o 66 (ld 25 2),o 67 (fa 38 3 7),o 68 (ld 35 67),o 69 (cl 115 #[(t 66),(t 68)] #[25,35]),o 4 (av 69)])
(.ret [4])))))
def g135:IFn:=⟨70,[.tmp 4],[4],c135,[],false,none⟩
def fG:IR:=(S (S (R [o 4 (mv 3),o 5 (bo .lss (t 4) (n 4))])
(.cond (t 5)
.skip
(.exit 0 [])))
(S (.block 1 (S (R [o 8 (mv 3),o 9 (ia 26 1 8),o 10 (ld 3 9),o 11 (cl 109 #[(t 10)] #[3]),o 12 (.unOp .not 4 (.tmp 11))])
(.cond (t 12)
(S (R [o 2 (ab false)])
(.ret [2]))
.skip)))
(R [o 6 (mv 3),o 7 (bo .add (t 6) (n 1)),o 3 (av 7)])))
def c136:IR:=(S (R [z 1 (bx 26 0),o 2 (ab false)])
(S (S (R [o 3 (an 0)])
(.block 0 (.loop [1,3] fG)))
(S (R [o 2 (ab true)])
(.ret [2]))))
def g136:IFn:=⟨13,[.tmp 2],[4],c136,[],false,none⟩
def c137:IR:=(S (R [o 4 (an 0)])
(S (R [o 5 (mv 0),o 6 (bo .mul (n 4) (t 5)),o 7 (mv 1),o 8 (bo .add (t 6) (t 7)),o 4 (av 8)])
(.ret [4])))
def g137:IFn:=⟨9,[.tmp 4],[3],c137,[],false,none⟩
def c138:IR:=(S (R [o 2 (ab false)])
(S (R [o 3 (mv 0),o 4 (cl 134 #[(t 3),(n 0),(n 3)] #[3,3,3]),o 2 (av 4)])
(.ret [2])))
def g138:IFn:=⟨5,[.tmp 2],[4],c138,[],false,none⟩
def c139:IR:=(S (R [o 4 (ab false)])
(S (R [o 5 (mv 0),o 6 (cl 102 #[(t 5)] #[3]),o 7 (mv 6),oT 8 (mv 1) 7,oT 9 (cl 134 #[(t 8),(n 0),(n 3)] #[3,3,3]) 7,o 10 (.pick (.tmp 7) (.tmp 9) (.const (.bool false))),o 4 (av 10)])
(.ret [4])))
def g139:IFn:=⟨11,[.tmp 4],[4],c139,[],false,none⟩
def c140:IR:=(S (R [z 3 (bx 25 0),o 6 (ab false)])
(S (R [o 7 (mv 1),o 8 (cl 102 #[(t 7)] #[3]),o 9 (mv 8),oT 10 (mv 2) 9,oT 11 (bo .geq (t 10) (n 0)) 9,o 12 (.pick (.tmp 9) (.tmp 11) (.const (.bool false))),o 13 (mv 12),oT 14 (mv 2) 13,oT 15 (mv 1) 13,oT 16 (ia 25 3 15) 13,oT 17 (ld 24 16) 13,oT 18 (len 17 24) 13,oT 19 (bo .lss (t 14) (t 18)) 13,o 20 (.pick (.tmp 13) (.tmp 19) (.const (.bool false))),o 6 (av 20)])
(.ret [6])))
def g140:IFn:=⟨21,[.tmp 6],[4],c140,[],false,none⟩
def c141:IR:=(S (R [z 1 (bx 33 0),o 2 (ab false)])
(S (R [o 3 (ld 33 1),o 4 (cl 142 #[(t 3)] #[33]),o 5 (.unOp .not 4 (.tmp 4)),o 2 (av 5)])
(.ret [2])))
def g141:IFn:=⟨6,[.tmp 2],[4],c141,[],false,none⟩
def c142:IR:=(S (R [z 1 (bx 33 0),o 2 (ab false)])
(S (R [o 3 (fa 33 1 0),o 4 (ld 3 3),o 5 (cl 52 #[(t 4)] #[3]),o 6 (mv 5),oT 7 (fa 33 1 1) 6,oT 8 (ld 3 7) 6,oT 9 (cl 144 #[(t 8)] #[3]) 6,o 10 (.pick (.tmp 6) (.tmp 9) (.const (.bool false))),o 11 (mv 10),oT 12 (fa 33 1 2) 11,oT 13 (ld 3 12) 11,oT 14 (cl 89 #[(t 13),(n 255)] #[3,3]) 11,o 15 (.pick (.tmp 11) (.tmp 14) (.const (.bool false))),o 2 (av 15)])
(.ret [2])))
def g142:IFn:=⟨16,[.tmp 2],[4],c142,[],false,none⟩
def c143:IR:=(S (R [o 4 (ab false)])
(S (R [o 5 (mv 0),o 6 (mv 1),o 7 (cl 172 #[(t 5),(t 6)] #[24,163]),o 8 (bo .geq (t 7) (n 0)),o 4 (av 8)])
(.ret [4])))
def g143:IFn:=⟨9,[.tmp 4],[4],c143,[],false,none⟩
def c144:IR:=(S (R [o 2 (ab false)])
(S (R [o 3 (mv 0),o 4 (cl 89 #[(t 3),(n 65535)] #[3,3]),o 2 (av 4)])
(.ret [2])))
def g144:IFn:=⟨5,[.tmp 2],[4],c144,[],false,none⟩
def c145:IR:=(S (R [o 4 (ab false)])
(S (R [o 5 (mv 0),o 6 (mv 1),o 7 (cl 173 #[(t 5),(t 6)] #[27,171]),o 8 (bo .geq (t 7) (n 0)),o 4 (av 8)])
(.ret [4])))
def g145:IFn:=⟨9,[.tmp 4],[4],c145,[],false,none⟩
def c146:IR:=(S (R [z 2 (bx 38 0),o 3 (ab false)])
(S (R [o 4 (ld 171 1),o 5 (ld 38 2),o 6 (.call { callee:=(.value (.tmp 4)),args:=#[(.tmp 5)],argTypes:=#[38] }),o 7 (.unOp .not 4 (.tmp 6)),o 3 (av 7)])
(.ret [3])))
def g146:IFn:=⟨8,[.tmp 3],[4],c146,[],false,none⟩
def QW:IR:=D [o 15 (fa 148 4 0),o 16 (ld 3 15),o 17 (cl 48 #[(t 16)] #[3]),o 18 (.unOp .not 4 (.tmp 17)),o 19 (mv 18),oF 20 (fa 148 4 1) 19,oF 21 (ld 3 20) 19,oF 22 (cl 174 #[(t 21)] #[3]) 19,oF 23 (.unOp .not 4 (.tmp 22)) 19,o 24 (.pick (.tmp 19) (.const (.bool true)) (.tmp 23)),o 25 (mv 24),oF 26 (fa 148 4 2) 25,oF 27 (ld 3 26) 25,oF 28 (cl 144 #[(t 27)] #[3]) 25,oF 29 (.unOp .not 4 (.tmp 28)) 25,o 30 (.pick (.tmp 25) (.const (.bool true)) (.tmp 29)),o 31 (mv 30),oF 32 (mv 0) 31,oF 33 (mv 3) 31,oF 34 (.slice 35 (.tmp 32) none (some (.tmp 33)) none) 31,oF 35 (ld 148 4) 31,oF 36 (cl 176 #[(t 35)] #[148]) 31,oF 37 (cl 175 #[(t 34),(t 36)] #[35,186]) 31,o 38 (.pick (.tmp 31) (.const (.bool true)) (.tmp 37))] [[],[0],[1],[2],[3,2],[4],[5,4],[6,4,4],[7,4],[4,8],[9,7],[10],[11,10],[12,10,10],[13,10],[10,14],[15,13],[16],[16],[17,18,16],[16],[20,16,16],[19,21,21,16],[16,22]]
def IQ:IR:=(S (R [o 11 (bo .lss (t 10) (t 9))])
(S (.cond (t 11)
.skip
(.exit 0 []))
(S (.block 1 (S (R [o 12 (mv 10),o 13 (ia 35 8 10),o 14 (ld 148 13),o 4 (al 148),o 3 (av 12),w (st 148 4 14)])
(S QW
(.cond (t 38)
(S (R [o 2 (ab false)])
(.ret [2]))
.skip))))
(R [o 39 (bo .add (t 10) (n 1)),o 10 (mv 39)]))))
def c147:IR:=(S (R [o 2 (ab false)])
(S (S (R [o 5 (mv 0),o 6 (len 5 35),o 7 (bo .gtr (t 6) (n 16))])
(.cond (t 7)
(S (R [o 2 (ab false)])
(.ret [2]))
.skip))
(S (S (R [o 8 (mv 0),o 9 (len 8 35),o 10 (.move (.const (.int .i64 0)))])
(.block 0 (.loop [0,8,9,10] IQ)))
(S (R [o 2 (ab true)])
(.ret [2])))))
def g147:IFn:=⟨40,[.tmp 2],[4],c147,[],false,none⟩
def QV:IR:=D [o 12 (fa 114 4 0),o 13 (ld 3 12),o 14 (cl 48 #[(t 13)] #[3]),o 15 (.unOp .not 4 (.tmp 14)),o 16 (mv 15),oF 17 (fa 114 4 1) 16,oF 18 (ld 3 17) 16,oF 19 (cl 174 #[(t 18)] #[3]) 16,oF 20 (.unOp .not 4 (.tmp 19)) 16,o 21 (.pick (.tmp 16) (.const (.bool true)) (.tmp 20)),o 22 (mv 21),oF 23 (fa 114 4 2) 22,oF 24 (ld 3 23) 22,oF 25 (cl 52 #[(t 24)] #[3]) 22,oF 26 (.unOp .not 4 (.tmp 25)) 22,o 27 (.pick (.tmp 22) (.const (.bool true)) (.tmp 26)),o 28 (mv 27),oF 29 (mv 3) 28,oF 30 (bo .gtr (t 29) (n 0)) 28,oF 31 (mv 30) 28,oT 32 (mv 0) 31,oT 33 (mv 3) 31,oT 34 (bo .sub (t 33) (n 1)) 31,oT 35 (ia 36 32 34) 31,oT 36 (ld 114 35) 31,oT 37 (ld 114 4) 31,oT 38 (cl 177 #[(t 36),(t 37)] #[114,114]) 31,oT 39 (bo .geq (t 38) (n 0)) 31,oF 40 (.pick (.tmp 31) (.tmp 39) (.const (.bool false))) 28,o 41 (.pick (.tmp 28) (.const (.bool true)) (.tmp 40))] [[],[0],[1],[2],[3,2],[4],[5,4],[6,4,4],[7,4],[4,8],[9,7],[10],[11,10],[12,10,10],[13,10],[10,14],[15,13],[16],[17,16],[18,16,16],[19],[19],[21,19],[20,22,19],[23,19],[19],[24,25,19,19],[26,19],[19,27,16],[16,28]]
def Ge:IR:=(S (R [o 8 (bo .lss (t 7) (t 6))])
(S (.cond (t 8)
.skip
(.exit 0 [0]))
(S (.block 1 (S (R [o 9 (mv 7),o 10 (ia 36 5 7),o 11 (ld 114 10),o 4 (al 114),o 3 (av 9),w (st 114 4 11)])
(S QV
(.cond (t 41)
(S (R [o 2 (ab false)])
(.ret [2]))
.skip))))
(R [o 42 (bo .add (t 7) (n 1)),o 7 (mv 42)]))))
def c148:IR:=(S (R [o 2 (ab false)])
(S (S (R [o 5 (mv 0),o 6 (len 5 36),o 7 (.move (.const (.int .i64 0)))])
(.block 0 (.loop [0,5,6,7] Ge)))
(S (R [o 43 (mv 0),o 44 (len 43 36),o 45 (bo .leq (t 44) (n 16)),o 2 (av 45)])
(.ret [2]))))
def g148:IFn:=⟨46,[.tmp 2],[4],c148,[],false,none⟩
def c149:IR:=(S (R [z 3 (bx 186 1),o 4 (ab false)])
(S (R [o 5 (mv 0),o 6 (.makeFunc (Go.Fn.func 178) #[] #[(.tmp 3)]),o 7 (cl 175 #[(t 5),(t 6)] #[35,186]),o 8 (.unOp .not 4 (.tmp 7)),o 4 (av 8)])
(.ret [4])))
def g149:IFn:=⟨9,[.tmp 4],[4],c149,[],false,none⟩
def c150:IR:=(S (R [z 2 (bx 174 0),z 3 (bx 148 1),o 4 (ab false)])
(S (R [o 5 (fa 174 2 0),o 6 (ld 172 5),o 7 (fa 148 3 0),o 8 (ld 3 7),o 9 (fa 148 3 1),o 10 (ld 3 9),o 11 (cl 179 #[(t 6),(t 8),(t 10)] #[172,3,3]),o 4 (av 11)])
(.ret [4])))
def g150:IFn:=⟨12,[.tmp 4],[4],c150,[],false,none⟩
def c151:IR:=(S (R [z 3 (bx 188 1),o 4 (ab false)])
(S (R [o 5 (mv 0),o 6 (.makeFunc (Go.Fn.func 181) #[] #[(.tmp 3)]),o 7 (cl 180 #[(t 5),(t 6)] #[36,188]),o 8 (.unOp .not 4 (.tmp 7)),o 4 (av 8)])
(.ret [4])))
def g151:IFn:=⟨9,[.tmp 4],[4],c151,[],false,none⟩
def c152:IR:=(S (R [z 2 (bx 174 0),z 3 (bx 114 1),o 4 (ab false)])
(S (R [o 5 (fa 174 2 0),o 6 (ld 172 5),o 7 (fa 114 3 0),o 8 (ld 3 7),o 9 (fa 114 3 1),o 10 (ld 3 9),o 11 (cl 179 #[(t 6),(t 8),(t 10)] #[172,3,3]),o 4 (av 11)])
(.ret [4])))
def g152:IFn:=⟨12,[.tmp 4],[4],c152,[],false,none⟩
def c153:IR:=(S (R [z 3 (bx 137 1),o 4 (ab false)])
(S (R [o 5 (mv 0),o 6 (.makeFunc (Go.Fn.func 183) #[] #[(.tmp 3)]),o 7 (cl 182 #[(t 5),(t 6)] #[34,137]),o 8 (.unOp .not 4 (.tmp 7)),o 4 (av 8)])
(.ret [4])))
def g153:IFn:=⟨9,[.tmp 4],[4],c153,[],false,none⟩
def c154:IR:=(S (R [z 2 (bx 174 0),z 3 (bx 40 1),o 4 (ab false)])
(S (R [o 5 (ld 40 3),o 6 (cl 184 #[(t 5)] #[40]),o 7 (.unOp .not 4 (.tmp 6)),o 8 (mv 7),oF 9 (fa 174 2 0) 8,oF 10 (ld 172 9) 8,oF 11 (fa 40 3 2) 8,oF 12 (ld 3 11) 8,oF 13 (fa 40 3 3) 8,oF 14 (ld 3 13) 8,oF 15 (cl 179 #[(t 10),(t 12),(t 14)] #[172,3,3]) 8,o 16 (.pick (.tmp 8) (.const (.bool true)) (.tmp 15)),o 4 (av 16)])
(.ret [4])))
def g154:IFn:=⟨17,[.tmp 4],[4],c154,[],false,none⟩
def c155:IR:=(S (R [o 4 (ab false)])
(S (R [o 5 (mv 0),o 6 (bo .geq (t 5) (n 0)),o 7 (mv 6),oT 8 (mv 0) 7,oT 9 (mv 1) 7,oT 10 (bo .leq (t 8) (t 9)) 7,o 11 (.pick (.tmp 7) (.tmp 10) (.const (.bool false))),o 4 (av 11)])
(.ret [4])))
def g155:IFn:=⟨12,[.tmp 4],[4],c155,[],false,none⟩
def Vj:IR:=(S (R [o 7 (bo .lss (t 6) (n 4))])
(S (.cond (t 7)
.skip
(.exit 0 []))
(S (.block 1 (S (R [o 8 (nc 5),o 9 (ia 26 8 6),o 10 (ld 3 9),o 4 (av 10)])
(S (R [o 11 (mv 4),o 12 (cl 52 #[(t 11)] #[3]),o 13 (.unOp .not 4 (.tmp 12))])
(.cond (t 13)
(S (R [o 2 (ab false)])
(.ret [2]))
.skip))))
(R [o 14 (bo .add (t 6) (n 1)),o 6 (mv 14)]))))
def vH:IR:=(S (R [o 2 (ab false)])
(S (S (R [o 5 (mv 0),o 6 (.move (.const (.int .i64 0)))])
(.block 0 (.loop [5,6] Vj)))
(S (R [o 2 (ab true)])
(.ret [2]))))
def g156:IFn:=⟨15,[.tmp 2],[4],vH,[],false,none⟩
def c157:IR:=(S (R [o 4 (ab false)])
(S (R [o 5 (mv 0),o 6 (mv 1),o 7 (cl 185 #[(t 5),(t 6)] #[28,169]),o 8 (bo .geq (t 7) (n 0)),o 4 (av 8)])
(.ret [4])))
def g157:IFn:=⟨9,[.tmp 4],[4],c157,[],false,none⟩
def c158:IR:=(S (R [z 2 (bx 71 0),o 3 (ab false)])
(S (R [o 4 (ld 169 1),o 5 (ld 71 2),o 6 (.call { callee:=(.value (.tmp 4)),args:=#[(.tmp 5)],argTypes:=#[71] }),o 7 (.unOp .not 4 (.tmp 6)),o 3 (av 7)])
(.ret [3])))
def g158:IFn:=⟨8,[.tmp 3],[4],c158,[],false,none⟩
def QU:IR:=D [o 9 (mv 4),o 10 (nc 9),o 11 (fa 38 10 8),o 12 (ld 36 11),o 13 (mv 4),o 14 (nc 13),o 15 (fa 38 14 1),o 16 (ld 3 15),o 17 (cl 186 #[(t 12),(t 16)] #[36,3]),o 18 (.unOp .not 4 (.tmp 17))] [[],[0],[1],[2],[],[4],[5],[6],[3,7],[8]]
def nP:IR:=(S (R [z 1 (bx 129 0),o 2 (al 30),o 3 (an 0)])
(S (S (R [o 7 (ld 129 1),o 8 (cl 123 #[(t 7)] #[129]),o 4 (av 8)])
(S QU
(.cond (t 18)
(S (R [o 19 (ld 129 1),o 20 (cl 162 #[(t 19),(n 3),(n 0)] #[129,3,3]),o 21 (xt 20 0),o 22 (xt 20 1),w (st 30 2 21),o 3 (av 22)])
(.ret [2,3]))
.skip)))
(S (R [o 23 (fa 129 1 0),o 24 (ld 30 23),o 25 (cl 25 #[(t 24)] #[30]),o 5 (al 30),w (st 30 5 25)])
(S (R [o 26 (fa 30 5 3),o 27 (ld 27 26),o 28 (fa 129 1 1),o 29 (ld 3 28),o 30 (ia 27 27 29),o 6 (av 30)])
(S (S (R [o 31 (mv 6),o 32 (mv 6),o 33 (nc 31),o 34 (fa 38 33 9),w (.store 3 (.tmp 34) (.const (.int .i64 0))),o 35 (nc 32),o 36 (fa 38 35 4),w (.store 3 (.tmp 36) (.const (.int .i64 1)))])
(S (R [o 37 (mv 6),o 38 (nc 37),o 39 (fa 38 38 8),o 40 (ld 36 39),o 41 (len 40 36),o 42 (bo .eql (t 41) (n 0))])
(.cond (t 42)
(R [o 43 (mv 6),o 44 (nc 43),o 45 (fa 38 44 4),w (.store 3 (.tmp 45) (.const (.int .i64 3)))])
.skip)))
(S (R [o 46 (ld 30 5),w (st 30 2 46),o 3 (an 0)])
(.ret [2,3])))))))
def g159:IFn:=⟨47,[.cell 2 30,.tmp 3],[30,41],nP,[],false,none⟩
def vG:IR:=(S (R [z 1 (bx 129 0),o 2 (al 30),o 3 (an 0)])
(S (S (R [o 7 (fa 129 1 0),o 8 (ld 30 7),o 9 (fa 129 1 1),o 10 (ld 3 9),o 11 (cl 7 #[(t 8),(t 10)] #[30,3]),o 6 (mv 11),o 12 (xt 6 0),o 13 (xt 6 1),o 4 (av 12),o 5 (av 13)])
(S (R [o 14 (mv 4)])
(.cond (t 14)
(S (R [o 15 (fa 129 1 0),o 16 (ld 30 15),o 17 (fa 129 1 1),o 18 (ld 3 17),o 19 (cl 9 #[(t 16),(t 18)] #[30,3]),o 20 (xt 19 0),o 21 (xt 19 1),w (st 30 2 20),o 3 (av 21)])
(.ret [2,3]))
.skip)))
(S (R [o 22 (fa 129 1 0),o 23 (ld 30 22),o 24 (fa 129 1 1),o 25 (ld 3 24),o 26 (cl 187 #[(t 23),(t 25)] #[30,3]),o 27 (xt 26 0),o 28 (xt 26 1),w (st 30 2 27),o 3 (av 28)])
(.ret [2,3]))))
def g160:IFn:=⟨29,[.cell 2 30,.tmp 3],[30,41],vG,[],false,none⟩
def QT:IR:=D [o 21 (mv 7),o 22 (nc 21),o 23 (fa 38 22 3),o 24 (ld 34 23),o 25 (mv 7),o 26 (nc 25),o 27 (fa 38 26 5),o 28 (ld 3 27),o 29 (ia 34 24 28),o 30 (ld 40 29),o 8 (al 40),w (st 40 8 30)] [[],[0],[1],[2],[],[4],[5],[6],[3,7],[8],[],[10,9,0,1,2,3,4,5,6,7,8,9,10]]
def QS:IR:=D [o 31 (mv 7),o 32 (fa 40 8 1),o 33 (ld 3 32),o 34 (nc 31),o 35 (fa 38 34 6),o 36 (ia 26 35 33),o 37 (ld 3 36),o 9 (av 37)] [[],[],[1],[0],[3],[4,2],[5],[6,0,1,2,3,4,5,6]]
def QR:IR:=D [o 39 (mv 7),o 40 (mv 7),o 41 (nc 40),o 42 (fa 38 41 8),o 43 (ld 36 42),o 44 (fa 40 8 2),o 45 (ld 3 44),o 46 (fa 40 8 3),o 47 (ld 3 46),o 48 (mv 9),o 49 (.build 114 #[(0,(.tmp 45)),(1,(.tmp 47)),(2,(.tmp 48))]),o 50 (cl 188 #[(t 43),(t 49)] #[36,114]),o 38 (mv 50),o 51 (xt 38 0),o 52 (xt 38 1),o 53 (nc 39),o 54 (fa 38 53 8),w (st 36 54 51)] [[],[],[1],[2],[3],[],[5],[],[7],[],[6,8,9],[4,10],[11],[12],[12],[0,0,1,2,3,4,5,6,7,8,9,10,11,12,13],[15,0,1,2,3,4,5,6,7,8,9,10,11,12,13],[16,13,11,0,1,2,3,4,5,6,7,8,9,10,11,12,13]]
def vF:IR:=(S (R [z 2 (bx 30 0),o 4 (al 30),o 5 (an 0)])
(S (S (R [o 10 (mv 1),o 11 (.buildSlice 22 1 #[(0,(.const (.int .i64 3)))]),o 12 (cl 21 #[(t 2),(t 10),(t 11)] #[73,3,22]),o 13 (.unOp .not 4 (.tmp 12))])
(.cond (t 13)
(S (R [o 14 (.build 30 #[]),w (st 30 4 14),o 5 (an 1600)])
(.ret [4,5]))
.skip))
(S (R [o 15 (ld 30 2),o 16 (cl 25 #[(t 15)] #[30]),o 6 (al 30),w (st 30 6 16)])
(S (R [o 17 (fa 30 6 3),o 18 (ld 27 17),o 19 (mv 1),z 20 (ia 27 18 19),o 7 (av 20)])
(S QT
(S QS
(S QR
(S (R [o 55 (mv 7),o 56 (nc 55),o 57 (fa 38 56 5),o 58 (ld 3 57),o 59 (bo .add (t 58) (n 1)),o 60 (nc 55),o 61 (fa 38 60 5),w (st 3 61 59)])
(S (R [o 62 (mv 1),o 63 (mv 9),o 64 (cl 26 #[(t 6),(t 62),(n 1),(t 63)] #[73,3,3,3])])
(S (R [o 65 (ld 30 6),w (st 30 4 65),o 5 (an 0)])
(.ret [4,5])))))))))))
def g161:IFn:=⟨66,[.cell 4 30,.tmp 5],[30,41],vF,[],false,none⟩
def c162:IR:=(S (R [z 3 (bx 129 0),o 6 (al 30),o 7 (an 0)])
(S (R [o 8 (fa 129 3 0),o 9 (ld 30 8),o 10 (fa 129 3 1),o 11 (ld 3 10),o 12 (mv 1),o 13 (mv 2),o 14 (cl 24 #[(t 9),(t 11),(t 12),(t 13)] #[30,3,3,3]),o 15 (xt 14 0),o 16 (xt 14 1),w (st 30 6 15),o 7 (av 16)])
(.ret [6,7])))
def g162:IFn:=⟨17,[.cell 6 30,.tmp 7],[30,41],c162,[],false,none⟩
def QQ:IR:=D [o 20 (mv 7),o 21 (nc 20),o 22 (fa 38 21 3),o 23 (ld 34 22),o 24 (mv 7),o 25 (nc 24),o 26 (fa 38 25 5),o 27 (ld 3 26),o 28 (ia 34 23 27),o 29 (ld 40 28),o 8 (al 40),w (st 40 8 29)] [[],[0],[1],[2],[],[4],[5],[6],[3,7],[8],[],[10,9,0,1,2,3,4,5,6,7,8,9,10]]
def QO:IR:=D [o 55 (mv 7),o 56 (mv 7),o 57 (nc 56),o 58 (fa 38 57 6),o 59 (ld 26 58),o 60 (fa 40 8 1),o 61 (ld 3 60),o 62 (fa 40 8 2),o 63 (ld 3 62),o 64 (cl 189 #[(t 59),(t 61),(t 63)] #[26,3,3]),o 54 (mv 64),o 65 (xt 54 0),o 66 (xt 54 1),o 67 (nc 55),o 68 (fa 38 67 6),w (st 26 68 65)] [[],[],[1],[2],[3],[],[5],[],[7],[4,6,8],[9],[10],[10],[0,0,1,2,3,4,5,6,7,8,9,10,11],[13,0,1,2,3,4,5,6,7,8,9,10,11],[14,11,9,0,1,2,3,4,5,6,7,8,9,10,11]]
def QN:IR:=D [o 72 (mv 7),o 73 (mv 7),o 74 (nc 73),o 75 (fa 38 74 6),o 76 (ld 26 75),o 77 (fa 40 8 1),o 78 (ld 3 77),o 79 (fa 40 8 2),o 80 (ld 3 79),o 81 (cl 190 #[(t 76),(t 78),(t 80)] #[26,3,3]),o 71 (mv 81),o 82 (xt 71 0),o 83 (xt 71 1),o 84 (nc 72),o 85 (fa 38 84 6),w (st 26 85 82)] [[],[],[1],[2],[3],[],[5],[],[7],[4,6,8],[9],[10],[10],[0,0,1,2,3,4,5,6,7,8,9,10,11],[13,0,1,2,3,4,5,6,7,8,9,10,11],[14,11,9,0,1,2,3,4,5,6,7,8,9,10,11]]
def QM:IR:=D [o 39 (mv 7),o 40 (fa 40 8 1),o 41 (ld 3 40),o 42 (nc 39),o 43 (fa 38 42 6),o 44 (ia 26 43 41),o 45 (ld 3 44),o 46 (bo .eql (t 45) (n 0))] [[],[],[1],[0],[3],[4,2],[5],[6]]
def fF:IR:=(S (R [z 2 (bx 30 0),o 4 (al 30),o 5 (an 0)])
(S (S (R [o 9 (mv 1),o 10 (.buildSlice 22 3 #[(0,(.const (.int .i64 0))),(1,(.const (.int .i64 1))),(2,(.const (.int .i64 4)))]),o 11 (cl 21 #[(t 2),(t 9),(t 10)] #[73,3,22]),o 12 (.unOp .not 4 (.tmp 11))])
(.cond (t 12)
(S (R [o 13 (.build 30 #[]),w (st 30 4 13),o 5 (an 1700)])
(.ret [4,5]))
.skip))
(S (R [o 14 (ld 30 2),o 15 (cl 25 #[(t 14)] #[30]),o 6 (al 30),w (st 30 6 15)])
(S (R [o 16 (fa 30 6 3),o 17 (ld 27 16),o 18 (mv 1),z 19 (ia 27 17 18),o 7 (av 19)])
(S QQ
(S (R [o 30 (mv 7),o 31 (nc 30),o 32 (fa 38 31 5),o 33 (ld 3 32),o 34 (bo .add (t 33) (n 1)),o 35 (nc 30),o 36 (fa 38 35 5),w (st 3 36 34)])
(S (S (R [o 37 (fa 40 8 0),o 38 (ld 3 37)])
(.block 0 (S (R [o 53 (bo .eql (t 38) (n 0)),o 52 (av 53)])
(.cond (t 52)
QO
(S (R [o 70 (bo .eql (t 38) (n 1)),o 69 (av 70)])
(.cond (t 69)
QN
(S QM
(.cond (t 46)
(R [o 47 (mv 7),o 48 (fa 40 8 2),o 49 (ld 3 48),o 50 (nc 47),o 51 (fa 38 50 5),w (st 3 51 49)])
.skip))))))))
(S (R [o 86 (ld 30 6),w (st 30 4 86),o 5 (an 0)])
(.ret [4,5])))))))))
def g163:IFn:=⟨87,[.cell 4 30,.tmp 5],[30,41],fF,[],false,none⟩
def fE:IR:=(S (R [o 6 (ab false)])
(S (R [o 7 (mv 0),o 8 (mv 1),o 9 (cl 50 #[(t 7),(t 8)] #[73,3]),o 10 (mv 9),oT 11 (mv 0) 10,oT 12 (nc 11) 10,oT 13 (fa 30 12 3) 10,oT 14 (ld 27 13) 10,oT 15 (mv 1) 10,oT 16 (ia 27 14 15) 10,oT 17 (fa 38 16 4) 10,oT 18 (ld 3 17) 10,oT 19 (mv 2) 10,oT 20 (bo .eql (t 18) (t 19)) 10,o 21 (.pick (.tmp 10) (.tmp 20) (.const (.bool false))),o 6 (av 21)])
(.ret [6])))
def g164:IFn:=⟨22,[.tmp 6],[4],fE,[],false,none⟩
def nO:IR:=(S (R [o 2 (bx 33 0),o 4 (al 33),o 5 (an 0)])
(S (.block 0 (S (R [o 7 (ld 33 2),o 8 (cl 142 #[(t 7)] #[33]),o 9 (.unOp .not 4 (.tmp 8)),o 10 (mv 9),oF 11 (mv 1) 10,oF 12 (cl 47 #[(t 11)] #[3]) 10,oF 13 (.unOp .not 4 (.tmp 12)) 10,o 14 (.pick (.tmp 10) (.const (.bool true)) (.tmp 13)),o 6 (av 14)])
(.cond (t 6)
(S (R [o 15 (.build 33 #[]),w (st 33 4 15),o 5 (an 300)])
(.ret [4,5]))
(S (R [o 17 (fa 33 2 2),o 18 (ld 3 17),o 19 (bo .neq (t 18) (n 0)),o 16 (av 19)])
(.cond (t 16)
(S (R [o 20 (.build 33 #[]),w (st 33 4 20),o 5 (an 301)])
(.ret [4,5]))
.skip)))))
(S (R [o 21 (mv 1),o 22 (bo .add (t 21) (n 1)),o 23 (fa 33 2 2),w (st 3 23 22)])
(S (R [o 24 (ld 33 2),w (st 33 4 24),o 5 (an 0)])
(.ret [4,5])))))
def g165:IFn:=⟨25,[.cell 4 33,.tmp 5],[33,41],nO,[],false,none⟩
def nN:IR:=(S (R [z 3 (bx 30 0),o 6 (al 30),o 7 (an 0)])
(S (S (R [o 10 (mv 1),o 11 (cl 50 #[(t 3),(t 10)] #[73,3]),o 12 (.unOp .not 4 (.tmp 11)),o 13 (mv 12),oF 14 (mv 2) 13,oF 15 (bo .neq (t 14) (n 3)) 13,oF 16 (mv 15) 13,oT 17 (mv 2) 16,oT 18 (bo .neq (t 17) (n 5)) 16,oF 19 (.pick (.tmp 16) (.tmp 18) (.const (.bool false))) 13,o 20 (.pick (.tmp 13) (.const (.bool true)) (.tmp 19))])
(.cond (t 20)
(S (R [o 21 (.build 30 #[]),w (st 30 6 21),o 7 (an 1300)])
(.ret [6,7]))
.skip))
(S (R [o 22 (ld 30 3),o 23 (cl 25 #[(t 22)] #[30]),o 8 (al 30),w (st 30 8 23)])
(S (R [o 24 (mv 1),o 25 (cl 53 #[(t 8),(t 24)] #[73,3]),o 9 (av 25)])
(S (R [o 26 (mv 9),o 27 (mv 9),o 28 (mv 9),o 29 (.build 26 #[]),o 30 (nc 26),o 31 (fa 38 30 5),w (.store 3 (.tmp 31) (.const (.int .i64 0))),o 32 (nc 27),o 33 (fa 38 32 6),w (st 26 33 29),o 34 (nc 28),o 35 (fa 38 34 4),w (.store 3 (.tmp 35) (.const (.int .i64 0)))])
(S (R [o 36 (mv 9),o 37 (mv 9),o 38 (nc 37),o 39 (fa 38 38 11),o 40 (ld 3 39),o 41 (bo .add (t 40) (n 1)),o 42 (.call { callee:=(.builtin .min),args:=#[(.tmp 41),(.const (.int .i64 65535))],argTypes:=#[3,3] }),o 43 (nc 36),o 44 (fa 38 43 11),w (st 3 44 42)])
(S (R [o 45 (mv 1),o 46 (mv 2),o 47 (mv 9),o 48 (nc 47),o 49 (fa 38 48 11),o 50 (ld 3 49),o 51 (cl 26 #[(t 8),(t 45),(t 46),(t 50)] #[73,3,3,3])])
(S (R [o 52 (ld 30 8),w (st 30 6 52),o 7 (an 0)])
(.ret [6,7])))))))))
def g166:IFn:=⟨53,[.cell 6 30,.tmp 7],[30,41],nN,[],false,none⟩
def QL:IR:=D [o 29 (ld 26 3),o 30 (mv 1),o 31 (ia 26 3 30),o 32 (ld 3 31),w (st 26 6 29),o 7 (av 32),o 8 (an 0)] [[],[],[1],[2],[0,0],[3,4,0,1,2,3,4],[5,0,1,2,3,4,5]]
def nM:IR:=(S (R [o 3 (bx 26 0),o 6 (al 26),o 7 (an 0),o 8 (an 0)])
(S (S (R [o 9 (mv 2),o 10 (cl 117 #[(t 3),(t 9)] #[167,3]),o 11 (.unOp .not 4 (.tmp 10)),o 12 (mv 11),oF 13 (mv 1) 12,oF 14 (cl 48 #[(t 13)] #[3]) 12,oF 15 (.unOp .not 4 (.tmp 14)) 12,o 16 (.pick (.tmp 12) (.const (.bool true)) (.tmp 15))])
(.cond (t 16)
(S (R [o 17 (.build 26 #[]),w (st 26 6 17),o 7 (an 0),o 8 (an 500)])
(.ret [6,7,8]))
.skip))
(S (S (R [o 18 (mv 1),o 19 (ia 26 3 18),o 20 (ld 3 19),o 21 (mv 2),o 22 (bo .geq (t 20) (t 21))])
(.cond (t 22)
(S (R [o 23 (.build 26 #[]),w (st 26 6 23),o 7 (an 0),o 8 (an 501)])
(.ret [6,7,8]))
.skip))
(S (R [o 24 (mv 1),o 25 (ia 26 3 24),o 26 (ld 3 25),o 27 (bo .add (t 26) (n 1)),o 28 (ia 26 3 24),w (st 3 28 27)])
(S QL
(.ret [6,7,8]))))))
def g167:IFn:=⟨33,[.cell 6 26,.tmp 7,.tmp 8],[26,3,41],nM,[],false,none⟩
def QK:IR:=D [o 31 (fa 33 11 1),o 32 (ld 3 31),o 33 (mv 1),o 34 (mv 10),o 35 (ia 35 33 34),o 36 (fa 148 35 2),o 37 (ld 3 36),o 38 (bo .neq (t 32) (t 37)),o 39 (mv 38),oF 40 (fa 33 11 2) 39,oF 41 (ld 3 40) 39,oF 42 (bo .neq (t 41) (n 0)) 39,oF 43 (mv 42) 39,oT 44 (fa 33 11 2) 43,oT 45 (ld 3 44) 43,oT 46 (mv 2) 43,oT 47 (bo .add (t 46) (n 1)) 43,oT 48 (bo .neq (t 45) (t 47)) 43,oF 49 (.pick (.tmp 43) (.tmp 48) (.const (.bool false))) 39,o 50 (.pick (.tmp 39) (.const (.bool true)) (.tmp 49))] [[],[0],[],[],[2,3],[4],[5],[1,6],[7],[8],[9,8],[10,8],[11,8,8],[12],[13,12],[12],[15,12],[14,16,12],[12,17,8],[8,18]]
def IP:IR:=(S (R [o 27 (bo .lss (t 26) (t 25))])
(S (.cond (t 27)
.skip
(.exit 0 []))
(S (.block 1 (S (R [o 28 (mv 26),o 29 (ia 24 24 26),o 30 (ld 33 29),o 11 (al 33),o 10 (av 28),w (st 33 11 30)])
(S QK
(.cond (t 50)
(S (R [o 6 (ab false),o 7 (an 0)])
(.ret [6,7]))
.skip))))
(R [o 51 (bo .add (t 26) (n 1)),o 26 (mv 51)]))))
def nL:IR:=(S (R [z 3 (bx 25 0),o 6 (ab false),o 7 (an 0)])
(S (R [o 13 (mv 1),o 14 (cl 191 #[(t 3),(t 13)] #[172,35]),o 12 (mv 14),o 15 (xt 12 0),o 16 (xt 12 1),o 8 (av 15),o 9 (av 16)])
(S (S (R [o 17 (mv 9),o 18 (.unOp .not 4 (.tmp 17)),o 19 (mv 18),oF 20 (mv 2) 19,oF 21 (cl 47 #[(t 20)] #[3]) 19,oF 22 (.unOp .not 4 (.tmp 21)) 19,o 23 (.pick (.tmp 19) (.const (.bool true)) (.tmp 22))])
(.cond (t 23)
(S (R [o 6 (ab false),o 7 (an 900)])
(.ret [6,7]))
.skip))
(S (S (R [o 24 (mv 8),o 25 (len 24 24),o 26 (.move (.const (.int .i64 0)))])
(.block 0 (.loop [1,2,24,25,26] IP)))
(S (R [o 6 (ab true),o 7 (an 0)])
(.ret [6,7]))))))
def g168:IFn:=⟨52,[.tmp 6,.tmp 7],[4,41],nL,[],false,none⟩
def vE:IR:=(S (R [z 3 (bx 33 0),o 6 (al 33),o 7 (an 0)])
(S (R [o 9 (mv 1),o 10 (mv 2),o 11 (.build 33 #[(0,(.tmp 9)),(1,(.tmp 10))]),o 8 (al 33),w (st 33 8 11)])
(S (S (R [o 12 (ld 33 3),o 13 (cl 142 #[(t 12)] #[33]),o 14 (.unOp .not 4 (.tmp 13)),o 15 (mv 14),oF 16 (ld 33 8) 15,oF 17 (cl 142 #[(t 16)] #[33]) 15,oF 18 (.unOp .not 4 (.tmp 17)) 15,o 19 (.pick (.tmp 15) (.const (.bool true)) (.tmp 18))])
(.cond (t 19)
(S (R [o 20 (.build 33 #[]),w (st 33 6 20),o 7 (an 300)])
(.ret [6,7]))
.skip))
(S (R [o 21 (ld 33 8),w (st 33 6 21),o 7 (an 0)])
(.ret [6,7])))))
def g169:IFn:=⟨22,[.cell 6 33,.tmp 7],[33,41],vE,[],false,none⟩
def QJ:IR:=D [o 24 (fa 33 9 1),o 25 (ld 3 24),o 26 (mv 1),o 27 (mv 8),o 28 (ia 35 26 27),o 29 (fa 148 28 2),o 30 (ld 3 29),o 31 (bo .neq (t 25) (t 30))] [[],[0],[],[],[2,3],[4],[5],[1,6]]
def Li:IR:=(S (R [o 20 (bo .lss (t 19) (t 18))])
(S (.cond (t 20)
.skip
(.exit 0 []))
(S (.block 1 (S (R [o 21 (mv 19),o 22 (ia 24 17 19),o 23 (ld 33 22),o 9 (al 33),o 8 (av 21),w (st 33 9 23)])
(S QJ
(.cond (t 31)
(S (R [o 4 (ab true),o 5 (an 0)])
(.ret [4,5]))
.skip))))
(R [o 32 (bo .add (t 19) (n 1)),o 19 (mv 32)]))))
def vD:IR:=(S (R [z 2 (bx 25 0),o 4 (ab false),o 5 (an 0)])
(S (R [o 11 (mv 1),o 12 (cl 191 #[(t 2),(t 11)] #[172,35]),o 10 (mv 12),o 13 (xt 10 0),o 14 (xt 10 1),o 6 (av 13),o 7 (av 14)])
(S (S (R [o 15 (mv 7),o 16 (.unOp .not 4 (.tmp 15))])
(.cond (t 16)
(S (R [o 4 (ab false),o 5 (an 900)])
(.ret [4,5]))
.skip))
(S (S (R [o 17 (mv 6),o 18 (len 17 24),o 19 (.move (.const (.int .i64 0)))])
(.block 0 (.loop [1,17,18,19] Li)))
(S (R [o 4 (ab false),o 5 (an 0)])
(.ret [4,5]))))))
def g170:IFn:=⟨33,[.tmp 4,.tmp 5],[4,41],vD,[],false,none⟩
def HZ:IR:=(S (S (R [o 4 (mv 3),o 5 (mv 0),o 6 (len 5 34),o 7 (bo .lss (t 4) (t 6))])
(.cond (t 7)
.skip
(.exit 0 [0])))
(S (.block 1 (S (R [o 10 (mv 0),o 11 (mv 3),o 12 (ia 34 10 11),o 13 (ld 40 12),o 14 (cl 192 #[(t 13)] #[40]),o 15 (.unOp .not 4 (.tmp 14)),o 16 (mv 15),oF 17 (mv 0) 16,oF 18 (mv 3) 16,oF 19 (ia 34 17 18) 16,oF 20 (fa 40 19 0) 16,oF 21 (ld 3 20) 16,oF 22 (bo .eql (t 21) (n 4)) 16,oF 23 (mv 22) 16,oT 24 (mv 0) 23,oT 25 (mv 3) 23,oT 26 (ia 34 24 25) 23,oT 27 (fa 40 26 2) 23,oT 28 (ld 3 27) 23,oT 29 (mv 3) 23,oT 30 (bo .leq (t 28) (t 29)) 23,oT 31 (mv 30) 23,oF 32 (mv 0) 31,oF 33 (mv 3) 31,oF 34 (ia 34 32 33) 31,oF 35 (fa 40 34 2) 31,oF 36 (ld 3 35) 31,oF 37 (mv 0) 31,oF 38 (len 37 34) 31,oF 39 (bo .gtr (t 36) (t 38)) 31,oT 40 (.pick (.tmp 31) (.const (.bool true)) (.tmp 39)) 23,oF 41 (.pick (.tmp 23) (.tmp 40) (.const (.bool false))) 16,o 42 (.pick (.tmp 16) (.const (.bool true)) (.tmp 41))])
(.cond (t 42)
(S (R [o 2 (ab false)])
(.ret [2]))
.skip)))
(R [o 8 (mv 3),o 9 (bo .add (t 8) (n 1)),o 3 (av 9)])))
def c171:IR:=(S (R [o 2 (ab false)])
(S (S (R [o 3 (an 0)])
(.block 0 (.loop [0,3] HZ)))
(S (R [o 43 (mv 0),o 44 (len 43 34),o 45 (bo .leq (t 44) (n 16)),o 2 (av 45)])
(.ret [2]))))
def g171:IFn:=⟨46,[.tmp 2],[4],c171,[],false,none⟩
def NG:IR:=(S (R [o 9 (bo .lss (t 8) (t 7))])
(S (.cond (t 9)
.skip
(.exit 0 []))
(S (.block 1 (S (R [o 10 (mv 8),o 5 (av 10)])
(S (R [o 11 (mv 1),o 12 (mv 0),o 13 (mv 5),o 14 (ia 24 12 13),o 15 (ld 33 14),o 16 (.call { callee:=(.value (.tmp 11)),args:=#[(.tmp 15)],argTypes:=#[33] })])
(.cond (t 16)
(S (R [o 17 (mv 5),o 4 (av 17)])
(.ret [4]))
.skip))))
(R [o 18 (bo .add (t 8) (n 1)),o 8 (mv 18)]))))
def c172:IR:=(S (R [o 4 (an 0)])
(S (S (R [o 6 (mv 0),o 7 (len 6 24),o 8 (.move (.const (.int .i64 0)))])
(.block 0 (.loop [0,1,7,8] NG)))
(S (R [o 4 (an (-1))])
(.ret [4]))))
def g172:IFn:=⟨19,[.tmp 4],[3],c172,[],false,none⟩
def NF:IR:=(S (R [o 9 (bo .lss (t 8) (t 7))])
(S (.cond (t 9)
.skip
(.exit 0 []))
(S (.block 1 (S (R [o 10 (mv 8),o 5 (av 10)])
(S (R [o 11 (mv 1),o 12 (mv 0),o 13 (mv 5),o 14 (ia 27 12 13),o 15 (ld 38 14),o 16 (.call { callee:=(.value (.tmp 11)),args:=#[(.tmp 15)],argTypes:=#[38] })])
(.cond (t 16)
(S (R [o 17 (mv 5),o 4 (av 17)])
(.ret [4]))
.skip))))
(R [o 18 (bo .add (t 8) (n 1)),o 8 (mv 18)]))))
def c173:IR:=(S (R [o 4 (an 0)])
(S (S (R [o 6 (mv 0),o 7 (len 6 27),o 8 (.move (.const (.int .i64 0)))])
(.block 0 (.loop [0,1,7,8] NF)))
(S (R [o 4 (an (-1))])
(.ret [4]))))
def g173:IFn:=⟨19,[.tmp 4],[3],c173,[],false,none⟩
def c174:IR:=(S (R [o 2 (ab false)])
(S (R [o 3 (mv 0),o 4 (bo .geq (t 3) (n 0)),o 5 (mv 4),oT 6 (mv 0) 5,oT 7 (bo .lss (t 6) (n 4)) 5,o 8 (.pick (.tmp 5) (.tmp 7) (.const (.bool false))),o 2 (av 8)])
(.ret [2])))
def g174:IFn:=⟨9,[.tmp 2],[4],c174,[],false,none⟩
def c175:IR:=(S (R [o 4 (ab false)])
(S (R [o 5 (mv 0),o 6 (mv 1),o 7 (cl 193 #[(t 5),(t 6)] #[35,186]),o 8 (bo .geq (t 7) (n 0)),o 4 (av 8)])
(.ret [4])))
def g175:IFn:=⟨9,[.tmp 4],[4],c175,[],false,none⟩
def c176:IR:=(S (R [z 1 (bx 148 0),o 2 (.assign (.const .nilFunc))])
(S (R [o 3 (.makeFunc (Go.Fn.func 194) #[] #[(.tmp 1)]),o 2 (av 3)])
(.ret [2])))
def g176:IFn:=⟨4,[.tmp 2],[186],c176,[],false,none⟩
def c177:IR:=(S (R [z 2 (bx 114 0),z 3 (bx 114 1),o 4 (an 0)])
(S (R [o 5 (fa 114 2 0),o 6 (ld 3 5),o 7 (fa 114 3 0),o 8 (ld 3 7),o 9 (bo .sub (t 6) (t 8)),o 10 (fa 114 2 1),o 11 (ld 3 10),o 12 (fa 114 3 1),o 13 (ld 3 12),o 14 (bo .sub (t 11) (t 13)),o 15 (.buildSlice 22 2 #[(0,(.tmp 9)),(1,(.tmp 14))]),o 16 (cl 195 #[(t 15)] #[22]),o 4 (av 16)])
(.ret [4])))
def g177:IFn:=⟨17,[.tmp 4],[3],c177,[],false,none⟩
def c178:IR:=(S (R [z 2 (bx 148 0),o 3 (ab false)])
(S (R [o 4 (ld 186 1),o 5 (ld 148 2),o 6 (.call { callee:=(.value (.tmp 4)),args:=#[(.tmp 5)],argTypes:=#[148] }),o 7 (.unOp .not 4 (.tmp 6)),o 3 (av 7)])
(.ret [3])))
def g178:IFn:=⟨8,[.tmp 3],[4],c178,[],false,none⟩
def c179:IR:=(S (R [o 6 (ab false)])
(S (R [o 7 (mv 1),o 8 (cl 48 #[(t 7)] #[3]),o 9 (mv 8),oT 10 (mv 2) 9,oT 11 (bo .geq (t 10) (n 0)) 9,o 12 (.pick (.tmp 9) (.tmp 11) (.const (.bool false))),o 13 (mv 12),oT 14 (mv 2) 13,oT 15 (mv 0) 13,oT 16 (mv 1) 13,oT 17 (nc 15) 13,oT 18 (ia 25 17 16) 13,oT 19 (ld 24 18) 13,oT 20 (len 19 24) 13,oT 21 (bo .lss (t 14) (t 20)) 13,o 22 (.pick (.tmp 13) (.tmp 21) (.const (.bool false))),o 6 (av 22)])
(.ret [6])))
def g179:IFn:=⟨23,[.tmp 6],[4],c179,[],false,none⟩
def c180:IR:=(S (R [o 4 (ab false)])
(S (R [o 5 (mv 0),o 6 (mv 1),o 7 (cl 196 #[(t 5),(t 6)] #[36,188]),o 8 (bo .geq (t 7) (n 0)),o 4 (av 8)])
(.ret [4])))
def g180:IFn:=⟨9,[.tmp 4],[4],c180,[],false,none⟩
def c181:IR:=(S (R [z 2 (bx 114 0),o 3 (ab false)])
(S (R [o 4 (ld 188 1),o 5 (ld 114 2),o 6 (.call { callee:=(.value (.tmp 4)),args:=#[(.tmp 5)],argTypes:=#[114] }),o 7 (.unOp .not 4 (.tmp 6)),o 3 (av 7)])
(.ret [3])))
def g181:IFn:=⟨8,[.tmp 3],[4],c181,[],false,none⟩
def c182:IR:=(S (R [o 4 (ab false)])
(S (R [o 5 (mv 0),o 6 (mv 1),o 7 (cl 197 #[(t 5),(t 6)] #[34,137]),o 8 (bo .geq (t 7) (n 0)),o 4 (av 8)])
(.ret [4])))
def g182:IFn:=⟨9,[.tmp 4],[4],c182,[],false,none⟩
def c183:IR:=(S (R [z 2 (bx 40 0),o 3 (ab false)])
(S (R [o 4 (ld 137 1),o 5 (ld 40 2),o 6 (.call { callee:=(.value (.tmp 4)),args:=#[(.tmp 5)],argTypes:=#[40] }),o 7 (.unOp .not 4 (.tmp 6)),o 3 (av 7)])
(.ret [3])))
def g183:IFn:=⟨8,[.tmp 3],[4],c183,[],false,none⟩
def c184:IR:=(S (R [z 1 (bx 40 0),o 2 (ab false)])
(S (R [o 3 (fa 40 1 0),o 4 (ld 3 3),o 5 (bo .eql (t 4) (n 2)),o 6 (mv 5),oF 7 (fa 40 1 0) 6,oF 8 (ld 3 7) 6,oF 9 (bo .eql (t 8) (n 3)) 6,o 10 (.pick (.tmp 6) (.const (.bool true)) (.tmp 9)),o 2 (av 10)])
(.ret [2])))
def g184:IFn:=⟨11,[.tmp 2],[4],c184,[],false,none⟩
def NE:IR:=(S (R [o 9 (bo .lss (t 8) (t 7))])
(S (.cond (t 9)
.skip
(.exit 0 []))
(S (.block 1 (S (R [o 10 (mv 8),o 5 (av 10)])
(S (R [o 11 (mv 1),o 12 (mv 0),o 13 (mv 5),o 14 (ia 28 12 13),o 15 (ld 71 14),o 16 (.call { callee:=(.value (.tmp 11)),args:=#[(.tmp 15)],argTypes:=#[71] })])
(.cond (t 16)
(S (R [o 17 (mv 5),o 4 (av 17)])
(.ret [4]))
.skip))))
(R [o 18 (bo .add (t 8) (n 1)),o 8 (mv 18)]))))
def c185:IR:=(S (R [o 4 (an 0)])
(S (S (R [o 6 (mv 0),o 7 (len 6 28),o 8 (.move (.const (.int .i64 0)))])
(.block 0 (.loop [0,1,7,8] NE)))
(S (R [o 4 (an (-1))])
(.ret [4]))))
def g185:IFn:=⟨19,[.tmp 4],[3],c185,[],false,none⟩
def c186:IR:=(S (R [z 3 (bx 3 1),o 4 (ab false)])
(S (R [o 6 (.makeFunc (Go.Fn.func 198) #[] #[(.tmp 3)]),o 5 (av 6)])
(S (R [o 7 (mv 0),o 8 (cl 148 #[(t 7)] #[36]),o 9 (mv 8),oT 10 (mv 0) 9,oT 11 (mv 5) 9,oT 12 (cl 180 #[(t 10),(t 11)] #[36,188]) 9,oT 13 (.unOp .not 4 (.tmp 12)) 9,o 14 (.pick (.tmp 9) (.tmp 13) (.const (.bool false))),o 4 (av 14)])
(.ret [4]))))
def g186:IFn:=⟨15,[.tmp 4],[4],c186,[],false,none⟩
def QI:IR:=D [o 34 (mv 9),o 35 (nc 34),o 36 (fa 38 35 3),o 37 (ld 34 36),o 38 (mv 9),o 39 (nc 38),o 40 (fa 38 39 5),o 41 (ld 3 40),o 42 (ia 34 37 41),o 43 (ld 40 42),o 10 (al 40),w (st 40 10 43)] [[],[0],[1],[2],[],[4],[5],[6],[3,7],[8],[],[10,9,0,1,2,3,4,5,6,7,8,9,10]]
def QH:IR:=D [o 45 (mv 9),o 46 (nc 45),o 47 (fa 38 46 8),o 48 (ld 36 47),o 49 (fa 40 10 2),o 50 (ld 3 49),o 51 (fa 40 10 3),o 52 (ld 3 51),o 53 (cl 199 #[(t 48),(t 50),(t 52)] #[36,3,3]),o 44 (mv 53),o 54 (xt 44 0),o 55 (xt 44 1),o 11 (av 54),o 12 (av 55)] [[],[0],[1],[2],[],[4],[],[6],[3,5,7],[8],[9],[9],[10,8,0,1,2,3,4,5,6,7,8,9,10],[11,12,0,1,2,3,4,5,6,7,8,9,10,11,12]]
def QG:IR:=D [o 58 (fa 40 10 2),o 59 (ld 3 58),o 60 (fa 30 8 0),o 61 (ia 25 60 59),o 62 (ld 24 61),o 63 (fa 40 10 3),o 64 (ld 3 63),o 65 (ia 24 62 64),o 66 (ld 33 65),o 13 (al 33),w (st 33 13 66)] [[],[0],[],[2,1],[3],[],[5],[4,6],[7],[],[9,8,0,1,2,3,4,5,6,7,8,9]]
def QF:IR:=D [o 68 (fa 30 8 0),o 69 (ld 25 68),o 70 (mv 9),o 71 (nc 70),o 72 (fa 38 71 7),o 73 (ld 35 72),o 74 (mv 9),o 75 (nc 74),o 76 (fa 38 75 0),o 77 (ld 3 76),o 78 (cl 168 #[(t 69),(t 73),(t 77)] #[25,35,3]),o 67 (mv 78),o 79 (xt 67 0),o 80 (xt 67 1),o 14 (av 79),o 15 (av 80)] [[],[0],[],[2],[3],[4],[],[6],[7],[8],[1,5,9],[10],[11],[11],[12,10,0,1,2,3,4,5,6,7,8,9,10,11,12],[13,14,0,1,2,3,4,5,6,7,8,9,10,11,12,13,14]]
def QE:IR:=D [o 96 (mv 9),o 97 (mv 9),o 98 (nc 97),o 99 (fa 38 98 7),o 100 (ld 35 99),o 101 (fa 40 10 2),o 102 (ld 3 101),o 103 (fa 40 10 3),o 104 (ld 3 103),o 105 (fa 33 13 1),o 106 (ld 3 105),o 107 (.build 148 #[(0,(.tmp 102)),(1,(.tmp 104)),(2,(.tmp 106))]),o 108 (cl 200 #[(t 100),(t 107)] #[35,148]),o 95 (mv 108),o 109 (xt 95 0),o 110 (xt 95 1),o 111 (nc 96),o 112 (fa 38 111 7),w (st 35 112 109)] [[],[],[1],[2],[3],[],[5],[],[7],[],[9],[6,8,10],[4,11],[12],[13],[13],[0,0,1,2,3,4,5,6,7,8,9,10,11,12,13,14],[16,0,1,2,3,4,5,6,7,8,9,10,11,12,13,14],[17,14,12,0,1,2,3,4,5,6,7,8,9,10,11,12,13,14]]
def QD:IR:=D [o 113 (mv 9),o 114 (fa 40 10 1),o 115 (ld 3 114),o 116 (mv 11),o 117 (nc 113),o 118 (fa 38 117 6),o 119 (ia 26 118 115),w (st 3 119 116)] [[],[],[1],[],[0],[4],[5,2,0,1,2,3],[6,3,0,1,2,3]]
def Vi:IR:=(S (R [z 2 (bx 30 0),o 4 (al 30),o 5 (an 0)])
(S (S (R [o 17 (ld 30 2),o 18 (mv 1),o 19 (cl 7 #[(t 17),(t 18)] #[30,3]),o 16 (mv 19),o 20 (xt 16 0),o 21 (xt 16 1),o 6 (av 20),o 7 (av 21)])
(S (R [o 22 (mv 7),o 23 (.binOp .neq 41 (.tmp 22) (.const (.int .i64 0)) 41),o 24 (mv 23),oF 25 (mv 6) 24,o 26 (.pick (.tmp 24) (.const (.bool true)) (.tmp 25))])
(.cond (t 26)
(S (R [o 27 (.build 30 #[]),w (st 30 4 27),o 5 (an 1500)])
(.ret [4,5]))
.skip)))
(S (R [o 28 (ld 30 2),o 29 (cl 25 #[(t 28)] #[30]),o 8 (al 30),w (st 30 8 29)])
(S (R [o 30 (fa 30 8 3),o 31 (ld 27 30),o 32 (mv 1),z 33 (ia 27 31 32),o 9 (av 33)])
(S QI
(S QH
(S (S (R [o 56 (mv 12),o 57 (.unOp .not 4 (.tmp 56))])
(.cond (t 57)
(S QG
(S (S QF
(S (R [o 81 (mv 14),o 82 (.unOp .not 4 (.tmp 81)),o 83 (mv 82),oF 84 (fa 33 13 2) 83,oF 85 (ld 3 84) 83,oF 86 (bo .neq (t 85) (n 0)) 83,o 87 (.pick (.tmp 83) (.const (.bool true)) (.tmp 86))])
(.cond (t 87)
(S (R [o 88 (ld 30 2),o 89 (mv 1),o 90 (cl 166 #[(t 88),(t 89),(n 3)] #[30,3,3]),o 91 (xt 90 0),o 92 (xt 90 1),w (st 30 4 91),o 5 (av 92)])
(.ret [4,5]))
.skip)))
(S (R [o 93 (fa 33 13 0),o 94 (ld 3 93),o 11 (av 94)])
QE)))
.skip))
(S QD
(S (R [o 120 (mv 9),o 121 (nc 120),o 122 (fa 38 121 5),o 123 (ld 3 122),o 124 (bo .add (t 123) (n 1)),o 125 (nc 120),o 126 (fa 38 125 5),w (st 3 126 124)])
(S (R [o 127 (mv 1),o 128 (mv 11),o 129 (cl 26 #[(t 8),(t 127),(n 0),(t 128)] #[73,3,3,3])])
(S (R [o 130 (ld 30 8),w (st 30 4 130),o 5 (an 0)])
(.ret [4,5]))))))))))))
def g187:IFn:=⟨131,[.cell 4 30,.tmp 5],[30,41],Vi,[],false,none⟩
def vC:IR:=(S (R [z 3 (bx 114 1),o 4 (.assign (.const (.slice none 0 0))),o 5 (an 0)])
(S (S (R [o 9 (mv 0),o 10 (cl 148 #[(t 9)] #[36]),o 11 (.unOp .not 4 (.tmp 10)),o 12 (mv 11),oF 13 (ld 114 3) 12,oF 14 (.buildSlice 36 1 #[(0,(.tmp 13))]) 12,oF 15 (cl 148 #[(t 14)] #[36]) 12,oF 16 (.unOp .not 4 (.tmp 15)) 12,o 17 (.pick (.tmp 12) (.const (.bool true)) (.tmp 16))])
(.cond (t 17)
(S (R [o 4 (.assign (.const (.slice none 0 0))),o 5 (an 1000)])
(.ret [4,5]))
.skip))
(S (R [o 18 (mv 0),o 19 (cl 97 #[(t 18)] #[36]),o 6 (av 19)])
(S (R [o 21 (mv 0),o 22 (ld 114 3),o 23 (cl 201 #[(t 21),(t 22),(f 177)] #[36,114,204]),o 20 (mv 23),o 24 (xt 20 0),o 25 (xt 20 1),o 7 (av 24),o 8 (av 25)])
(S (.block 0 (S (R [o 32 (mv 8),o 31 (av 32)])
(.cond (t 31)
(R [o 33 (mv 6),o 34 (mv 7),o 35 (ld 114 3),o 36 (ia 36 33 34),w (st 114 36 35)])
(S (R [o 38 (mv 0),o 39 (len 38 36),o 40 (bo .eql (t 39) (n 16)),o 37 (av 40)])
(.cond (t 37)
(S (R [o 4 (.assign (.const (.slice none 0 0))),o 5 (an 1000)])
(.ret [4,5]))
(R [o 26 (mv 6),o 27 (mv 7),o 28 (ld 114 3),o 29 (.buildSlice 36 1 #[(0,(.tmp 28))]),o 30 (cl 202 #[(t 26),(t 27),(t 29)] #[36,3,36]),o 6 (av 30)]))))))
(S (R [o 41 (mv 6),o 4 (av 41),o 5 (an 0)])
(.ret [4,5])))))))
def g188:IFn:=⟨42,[.tmp 4,.tmp 5],[36,41],vC,[],false,none⟩
def c189:IR:=(S (R [o 3 (bx 26 0),o 6 (al 26),o 7 (an 0)])
(S (S (R [o 8 (cl 156 #[(t 3)] #[167]),o 9 (.unOp .not 4 (.tmp 8)),o 10 (mv 9),oF 11 (mv 1) 10,oF 12 (cl 132 #[(t 11)] #[3]) 10,oF 13 (.unOp .not 4 (.tmp 12)) 10,o 14 (.pick (.tmp 10) (.const (.bool true)) (.tmp 13)),o 15 (mv 14),oF 16 (mv 2) 15,oF 17 (cl 52 #[(t 16)] #[3]) 15,oF 18 (.unOp .not 4 (.tmp 17)) 15,o 19 (.pick (.tmp 15) (.const (.bool true)) (.tmp 18))])
(.cond (t 19)
(S (R [o 20 (.build 26 #[]),w (st 26 6 20),o 7 (an 600)])
(.ret [6,7]))
.skip))
(S (R [o 21 (mv 1),o 22 (mv 2),o 23 (ia 26 3 21),w (st 3 23 22)])
(S (R [o 24 (ld 26 3),w (st 26 6 24),o 7 (an 0)])
(.ret [6,7])))))
def g189:IFn:=⟨25,[.cell 6 26,.tmp 7],[26,41],c189,[],false,none⟩
def QC:IR:=D [o 22 (mv 1),o 23 (ia 26 3 22),o 24 (ld 3 23),o 25 (.convert 3 222 (.tmp 24)),o 26 (mv 2),o 27 (ia 26 3 26),o 28 (ld 3 27),o 29 (.convert 3 222 (.tmp 28)),o 30 (.call { callee:=(.builtin .complex),args:=#[(.tmp 25),(.tmp 29)],argTypes:=#[222,222] }),o 8 (av 30)] [[],[0],[1],[2],[],[4],[5],[6],[3,7],[8,0,1,2,3,4,5,6,7,8]]
def c190:IR:=(S (R [z 3 (bx 26 0),o 6 (al 26),o 7 (an 0)])
(S (S (R [o 9 (cl 156 #[(t 3)] #[167]),o 10 (.unOp .not 4 (.tmp 9)),o 11 (mv 10),oF 12 (mv 1) 11,oF 13 (cl 132 #[(t 12)] #[3]) 11,oF 14 (.unOp .not 4 (.tmp 13)) 11,o 15 (.pick (.tmp 11) (.const (.bool true)) (.tmp 14)),o 16 (mv 15),oF 17 (mv 2) 16,oF 18 (cl 132 #[(t 17)] #[3]) 16,oF 19 (.unOp .not 4 (.tmp 18)) 16,o 20 (.pick (.tmp 16) (.const (.bool true)) (.tmp 19))])
(.cond (t 20)
(S (R [o 21 (.build 26 #[]),w (st 26 6 21),o 7 (an 600)])
(.ret [6,7]))
.skip))
(S QC
(S (R [o 31 (ld 26 3),o 32 (mv 1),o 33 (mv 8),o 34 (.call { callee:=(.builtin .real),args:=#[(.tmp 33)],argTypes:=#[221] }),o 35 (.convert 222 3 (.tmp 34)),o 36 (mv 8),o 37 (.call { callee:=(.builtin .imag),args:=#[(.tmp 36)],argTypes:=#[221] }),o 38 (.convert 222 3 (.tmp 37)),o 39 (bo .add (t 35) (t 38)),o 40 (bo .rem (t 39) (n 256)),o 41 (cl 189 #[(t 31),(t 32),(t 40)] #[26,3,3]),o 42 (xt 41 0),o 43 (xt 41 1),w (st 26 6 42),o 7 (av 43)])
(.ret [6,7])))))
def g190:IFn:=⟨44,[.cell 6 26,.tmp 7],[26,41],c190,[],false,none⟩
def QB:IR:=D [o 32 (mv 6),o 33 (mv 0),o 34 (fa 148 8 0),o 35 (ld 3 34),o 36 (nc 33),o 37 (ia 25 36 35),o 38 (ld 24 37),o 39 (fa 148 8 1),o 40 (ld 3 39),o 41 (ia 24 38 40),o 42 (ld 33 41),o 43 (.buildSlice 24 1 #[(0,(.tmp 42))]),o 44 (.call { callee:=(.builtin .append),args:=#[(.tmp 32),(.tmp 43)],argTypes:=#[24,24] }),o 6 (av 44)] [[],[],[],[2],[1],[4,3],[5],[],[7],[6,8],[9],[10],[0,11],[12,12,0,1,2,3,4,5,6,7,8,9,10,11,12]]
def HY:IR:=(S (R [o 22 (bo .lss (t 21) (t 20))])
(S (.cond (t 22)
.skip
(.exit 0 [6]))
(S (.block 1 (S (R [o 23 (ia 35 19 21),o 24 (ld 148 23),o 8 (al 148),w (st 148 8 24)])
(S (S (R [o 25 (mv 0),o 26 (fa 148 8 0),o 27 (ld 3 26),o 28 (fa 148 8 1),o 29 (ld 3 28),o 30 (cl 179 #[(t 25),(t 27),(t 29)] #[172,3,3]),o 31 (.unOp .not 4 (.tmp 30))])
(.cond (t 31)
(S (R [o 4 (.assign (.const (.slice none 0 0))),o 5 (ab false)])
(.ret [4,5]))
.skip))
QB)))
(R [o 45 (bo .add (t 21) (n 1)),o 21 (mv 45)]))))
def fD:IR:=(S (R [o 4 (.assign (.const (.slice none 0 0))),o 5 (ab false)])
(S (S (R [o 9 (mv 0),o 10 (nc 9),o 11 (ld 25 10),o 12 (cl 116 #[(t 11)] #[25]),o 13 (.unOp .not 4 (.tmp 12)),o 14 (mv 13),oF 15 (mv 1) 14,oF 16 (cl 147 #[(t 15)] #[35]) 14,oF 17 (.unOp .not 4 (.tmp 16)) 14,o 18 (.pick (.tmp 14) (.const (.bool true)) (.tmp 17))])
(.cond (t 18)
(S (R [o 4 (.assign (.const (.slice none 0 0))),o 5 (ab false)])
(.ret [4,5]))
.skip))
(S (R [o 6 (.assign (.const (.slice none 0 0)))])
(S (S (R [o 19 (mv 1),o 20 (len 19 35),o 21 (.move (.const (.int .i64 0)))])
(.block 0 (.loop [0,6,19,20,21] HY)))
(S (R [o 46 (mv 6),o 4 (av 46),o 5 (ab true)])
(.ret [4,5]))))))
def g191:IFn:=⟨47,[.tmp 4,.tmp 5],[24,4],fD,[],false,none⟩
def c192:IR:=(S (R [z 1 (bx 40 0),o 2 (ab false)])
(S (S (R [o 3 (fa 40 1 0),o 4 (ld 3 3)])
(.block 0 (S (R [o 6 (bo .eql (t 4) (n 0)),o 5 (av 6)])
(.cond (t 5)
(S (R [o 7 (fa 40 1 1),o 8 (ld 3 7),o 9 (cl 138 #[(t 8)] #[3]),o 10 (mv 9),oT 11 (fa 40 1 2) 10,oT 12 (ld 3 11) 10,oT 13 (cl 109 #[(t 12)] #[3]) 10,o 14 (.pick (.tmp 10) (.tmp 13) (.const (.bool false))),o 15 (mv 14),oT 16 (fa 40 1 3) 15,oT 17 (ld 3 16) 15,oT 18 (bo .eql (t 17) (n 0)) 15,o 19 (.pick (.tmp 15) (.tmp 18) (.const (.bool false))),o 2 (av 19)])
(.ret [2]))
(S (R [o 21 (bo .eql (t 4) (n 1)),o 20 (av 21)])
(.cond (t 20)
(S (R [o 22 (fa 40 1 1),o 23 (ld 3 22),o 24 (cl 138 #[(t 23)] #[3]),o 25 (mv 24),oT 26 (fa 40 1 2) 25,oT 27 (ld 3 26) 25,oT 28 (cl 138 #[(t 27)] #[3]) 25,o 29 (.pick (.tmp 25) (.tmp 28) (.const (.bool false))),o 30 (mv 29),oT 31 (fa 40 1 3) 30,oT 32 (ld 3 31) 30,oT 33 (bo .eql (t 32) (n 0)) 30,o 34 (.pick (.tmp 30) (.tmp 33) (.const (.bool false))),o 2 (av 34)])
(.ret [2]))
(S (S (R [o 36 (bo .eql (t 4) (n 2)),o 35 (av 36)])
(.cond (t 35)
.skip
(R [o 37 (bo .eql (t 4) (n 3)),o 35 (av 37)])))
(.cond (t 35)
(S (R [o 38 (fa 40 1 1),o 39 (ld 3 38),o 40 (cl 138 #[(t 39)] #[3]),o 41 (mv 40),oT 42 (fa 40 1 2) 41,oT 43 (ld 3 42) 41,oT 44 (cl 102 #[(t 43)] #[3]) 41,o 45 (.pick (.tmp 41) (.tmp 44) (.const (.bool false))),o 46 (mv 45),oT 47 (fa 40 1 3) 46,oT 48 (ld 3 47) 46,oT 49 (cl 134 #[(t 48),(n 0),(n 3)] #[3,3,3]) 46,o 50 (.pick (.tmp 46) (.tmp 49) (.const (.bool false))),o 2 (av 50)])
(.ret [2]))
(S (R [o 52 (bo .eql (t 4) (n 4)),o 51 (av 52)])
(.cond (t 51)
(S (R [o 53 (fa 40 1 1),o 54 (ld 3 53),o 55 (cl 138 #[(t 54)] #[3]),o 56 (mv 55),oT 57 (fa 40 1 2) 56,oT 58 (ld 3 57) 56,oT 59 (cl 134 #[(t 58),(n 0),(n 16)] #[3,3,3]) 56,o 60 (.pick (.tmp 56) (.tmp 59) (.const (.bool false))),o 61 (mv 60),oT 62 (fa 40 1 3) 61,oT 63 (ld 3 62) 61,oT 64 (bo .eql (t 63) (n 0)) 61,o 65 (.pick (.tmp 61) (.tmp 64) (.const (.bool false))),o 2 (av 65)])
(.ret [2]))
(S (R [o 67 (bo .eql (t 4) (n 5)),o 66 (av 67)])
(.cond (t 66)
(S (R [o 68 (ld 40 1),o 69 (.build 40 #[(0,(.const (.int .i64 5)))]),o 70 (.binOp .eql 40 (.tmp 68) (.tmp 69) 40),o 2 (av 70)])
(.ret [2]))
(S (R [o 72 (bo .eql (t 4) (n 6)),o 71 (av 72)])
(.cond (t 71)
(S (R [o 73 (fa 40 1 1),o 74 (ld 3 73),o 75 (cl 109 #[(t 74)] #[3]),o 76 (mv 75),oT 77 (fa 40 1 2) 76,oT 78 (ld 3 77) 76,oT 79 (bo .eql (t 78) (n 0)) 76,o 80 (.pick (.tmp 76) (.tmp 79) (.const (.bool false))),o 81 (mv 80),oT 82 (fa 40 1 3) 81,oT 83 (ld 3 82) 81,oT 84 (bo .eql (t 83) (n 0)) 81,o 85 (.pick (.tmp 81) (.tmp 84) (.const (.bool false))),o 2 (av 85)])
(.ret [2]))
.skip))))))))))))))
(S (R [o 2 (ab false)])
(.ret [2]))))
def g192:IFn:=⟨86,[.tmp 2],[4],c192,[],false,none⟩
def ND:IR:=(S (R [o 9 (bo .lss (t 8) (t 7))])
(S (.cond (t 9)
.skip
(.exit 0 []))
(S (.block 1 (S (R [o 10 (mv 8),o 5 (av 10)])
(S (R [o 11 (mv 1),o 12 (mv 0),o 13 (mv 5),o 14 (ia 35 12 13),o 15 (ld 148 14),o 16 (.call { callee:=(.value (.tmp 11)),args:=#[(.tmp 15)],argTypes:=#[148] })])
(.cond (t 16)
(S (R [o 17 (mv 5),o 4 (av 17)])
(.ret [4]))
.skip))))
(R [o 18 (bo .add (t 8) (n 1)),o 8 (mv 18)]))))
def c193:IR:=(S (R [o 4 (an 0)])
(S (S (R [o 6 (mv 0),o 7 (len 6 35),o 8 (.move (.const (.int .i64 0)))])
(.block 0 (.loop [0,1,7,8] ND)))
(S (R [o 4 (an (-1))])
(.ret [4]))))
def g193:IFn:=⟨19,[.tmp 4],[3],c193,[],false,none⟩
def c194:IR:=(S (R [z 2 (bx 148 0),o 3 (ab false)])
(S (R [o 4 (fa 148 2 0),o 5 (ld 3 4),o 6 (fa 148 1 0),o 7 (ld 3 6),o 8 (bo .eql (t 5) (t 7)),o 9 (mv 8),oT 10 (fa 148 2 1) 9,oT 11 (ld 3 10) 9,oT 12 (fa 148 1 1) 9,oT 13 (ld 3 12) 9,oT 14 (bo .eql (t 11) (t 13)) 9,o 15 (.pick (.tmp 9) (.tmp 14) (.const (.bool false))),o 3 (av 15)])
(.ret [3])))
def g194:IFn:=⟨16,[.tmp 3],[4],c194,[],false,none⟩
def RA:IR:=(S (R [o 9 (bo .lss (t 8) (t 7))])
(S (.cond (t 9)
.skip
(.exit 0 [3]))
(S (.block 1 (S (R [o 10 (ia 22 6 8),o 11 (ld 3 10),o 5 (av 11)])
(S (R [o 12 (mv 5),o 13 (mv 3),o 14 (bo .neq (t 12) (t 13))])
(.cond (t 14)
(S (R [o 15 (mv 5),o 2 (av 15)])
(.ret [2]))
.skip))))
(R [o 16 (bo .add (t 8) (n 1)),o 8 (mv 16)]))))
def c195:IR:=(S (R [o 2 (an 0)])
(S (R [o 3 (an 0)])
(S (S (R [o 6 (mv 0),o 7 (len 6 22),o 8 (.move (.const (.int .i64 0)))])
(.block 0 (.loop [3,6,7,8] RA)))
(S (R [o 17 (mv 3),o 2 (av 17)])
(.ret [2])))))
def g195:IFn:=⟨18,[.tmp 2],[3],c195,[],false,none⟩
def NC:IR:=(S (R [o 9 (bo .lss (t 8) (t 7))])
(S (.cond (t 9)
.skip
(.exit 0 []))
(S (.block 1 (S (R [o 10 (mv 8),o 5 (av 10)])
(S (R [o 11 (mv 1),o 12 (mv 0),o 13 (mv 5),o 14 (ia 36 12 13),o 15 (ld 114 14),o 16 (.call { callee:=(.value (.tmp 11)),args:=#[(.tmp 15)],argTypes:=#[114] })])
(.cond (t 16)
(S (R [o 17 (mv 5),o 4 (av 17)])
(.ret [4]))
.skip))))
(R [o 18 (bo .add (t 8) (n 1)),o 8 (mv 18)]))))
def c196:IR:=(S (R [o 4 (an 0)])
(S (S (R [o 6 (mv 0),o 7 (len 6 36),o 8 (.move (.const (.int .i64 0)))])
(.block 0 (.loop [0,1,7,8] NC)))
(S (R [o 4 (an (-1))])
(.ret [4]))))
def g196:IFn:=⟨19,[.tmp 4],[3],c196,[],false,none⟩
def NB:IR:=(S (R [o 9 (bo .lss (t 8) (t 7))])
(S (.cond (t 9)
.skip
(.exit 0 []))
(S (.block 1 (S (R [o 10 (mv 8),o 5 (av 10)])
(S (R [o 11 (mv 1),o 12 (mv 0),o 13 (mv 5),o 14 (ia 34 12 13),o 15 (ld 40 14),o 16 (.call { callee:=(.value (.tmp 11)),args:=#[(.tmp 15)],argTypes:=#[40] })])
(.cond (t 16)
(S (R [o 17 (mv 5),o 4 (av 17)])
(.ret [4]))
.skip))))
(R [o 18 (bo .add (t 8) (n 1)),o 8 (mv 18)]))))
def c197:IR:=(S (R [o 4 (an 0)])
(S (S (R [o 6 (mv 0),o 7 (len 6 34),o 8 (.move (.const (.int .i64 0)))])
(.block 0 (.loop [0,1,7,8] NB)))
(S (R [o 4 (an (-1))])
(.ret [4]))))
def g197:IFn:=⟨19,[.tmp 4],[3],c197,[],false,none⟩
def c198:IR:=(S (R [z 2 (bx 114 0),o 3 (ab false)])
(S (R [o 4 (fa 114 2 0),o 5 (ld 3 4),o 6 (ld 3 1),o 7 (bo .neq (t 5) (t 6)),o 3 (av 7)])
(.ret [3])))
def g198:IFn:=⟨8,[.tmp 3],[4],c198,[],false,none⟩
def vB:IR:=(S (R [o 6 (an 0),o 7 (ab false)])
(S (R [o 11 (mv 0),o 12 (mv 1),o 13 (mv 2),o 14 (.build 114 #[(0,(.tmp 12)),(1,(.tmp 13))]),o 15 (cl 201 #[(t 11),(t 14),(f 177)] #[36,114,204]),o 10 (mv 15),o 16 (xt 10 0),o 17 (xt 10 1),o 8 (av 16),o 9 (av 17)])
(S (S (R [o 18 (mv 0),o 19 (cl 148 #[(t 18)] #[36]),o 20 (.unOp .not 4 (.tmp 19)),o 21 (mv 20),oF 22 (mv 9) 21,oF 23 (.unOp .not 4 (.tmp 22)) 21,o 24 (.pick (.tmp 21) (.const (.bool true)) (.tmp 23))])
(.cond (t 24)
(S (R [o 6 (an 0),o 7 (ab false)])
(.ret [6,7]))
.skip))
(S (R [o 25 (mv 0),o 26 (mv 8),o 27 (ia 36 25 26),o 28 (fa 114 27 2),o 29 (ld 3 28),o 6 (av 29),o 7 (ab true)])
(.ret [6,7])))))
def g199:IFn:=⟨30,[.tmp 6,.tmp 7],[3,4],vB,[],false,none⟩
def Zd:IR:=(S (R [z 3 (bx 148 1),o 4 (.assign (.const (.slice none 0 0))),o 5 (an 0)])
(S (S (R [o 7 (mv 0),o 8 (cl 147 #[(t 7)] #[35]),o 9 (.unOp .not 4 (.tmp 8)),o 10 (mv 9),oF 11 (ld 148 3) 10,oF 12 (.buildSlice 35 1 #[(0,(.tmp 11))]) 10,oF 13 (cl 147 #[(t 12)] #[35]) 10,oF 14 (.unOp .not 4 (.tmp 13)) 10,o 15 (.pick (.tmp 10) (.const (.bool true)) (.tmp 14))])
(.cond (t 15)
(S (R [o 4 (.assign (.const (.slice none 0 0))),o 5 (an 900)])
(.ret [4,5]))
.skip))
(S (R [o 16 (mv 0),o 17 (cl 96 #[(t 16)] #[35]),o 6 (av 17)])
(S (S (R [o 18 (mv 0),o 19 (ld 148 3),o 20 (cl 176 #[(t 19)] #[148]),o 21 (cl 175 #[(t 18),(t 20)] #[35,186])])
(.cond (t 21)
(S (R [o 22 (mv 6),o 4 (av 22),o 5 (an 0)])
(.ret [4,5]))
.skip))
(S (S (R [o 23 (mv 0),o 24 (len 23 35),o 25 (bo .eql (t 24) (n 16))])
(.cond (t 25)
(S (R [o 4 (.assign (.const (.slice none 0 0))),o 5 (an 900)])
(.ret [4,5]))
.skip))
(S (R [o 26 (mv 6),o 27 (ld 148 3),o 28 (.buildSlice 35 1 #[(0,(.tmp 27))]),o 29 (.call { callee:=(.builtin .append),args:=#[(.tmp 26),(.tmp 28)],argTypes:=#[35,35] }),o 4 (av 29),o 5 (an 0)])
(.ret [4,5])))))))
def g200:IFn:=⟨30,[.tmp 4,.tmp 5],[35,41],Zd,[],false,none⟩
def QA:IR:=D [o 24 (mv 2),o 25 (mv 0),o 26 (mv 11),o 27 (ia 36 25 26),o 28 (ld 114 27),o 29 (ld 114 4),o 30 (.call { callee:=(.value (.tmp 24)),args:=#[(.tmp 28),(.tmp 29)],argTypes:=#[114,114] }),o 31 (bo .lss (t 30) (n 0))] [[],[],[],[1,2],[3],[],[0,4,5],[6]]
def Lh:IR:=(S (S (R [o 15 (mv 9),o 16 (mv 10),o 17 (bo .lss (t 15) (t 16))])
(.cond (t 17)
.skip
(.exit 0 [0,2,4,8,9])))
(.block 1 (S (R [o 18 (mv 9),o 19 (mv 10),o 20 (bo .add (t 18) (t 19)),o 21 (.convert 3 58 (.tmp 20)),o 22 (.binOp .shr 58 (.tmp 21) (.const (.int .u64 1)) 58),o 23 (.convert 58 3 (.tmp 22)),o 11 (av 23)])
(S QA
(.cond (t 31)
(R [o 32 (mv 11),o 33 (bo .add (t 32) (n 1)),o 9 (av 33)])
(R [o 34 (mv 11),o 10 (av 34)]))))))
def Qz:IR:=D [o 35 (mv 9),o 36 (mv 9),o 37 (mv 8),o 38 (bo .lss (t 36) (t 37)),o 39 (mv 38),oT 40 (mv 2) 39,oT 41 (mv 0) 39,oT 42 (mv 9) 39,oT 43 (ia 36 41 42) 39,oT 44 (ld 114 43) 39,oT 45 (ld 114 4) 39,oT 46 (.call { callee:=(.value (.tmp 40)),args:=#[(.tmp 44),(.tmp 45)],argTypes:=#[114,114] }) 39,oT 47 (bo .eql (t 46) (n 0)) 39,o 48 (.pick (.tmp 39) (.tmp 47) (.const (.bool false))),o 6 (av 35),o 7 (av 48)] [[],[],[],[1,2],[3],[4],[4],[4],[6,7,4],[8,4],[4],[5,9,10,4,4],[11,4],[4,12],[0,11,0],[13,14,0,1,2,3,4,5,6,7,8,9,10,11,12,13,14]]
def c201:IR:=(S (R [z 4 (bx 114 1),o 6 (an 0),o 7 (ab false)])
(S (R [o 12 (mv 0),o 13 (len 12 36),o 8 (av 13)])
(S (R [o 14 (mv 8),o 9 (an 0),o 10 (av 14)])
(S (.block 0 (.loop [0,2,4,8,9,10] Lh))
(S Qz
(.ret [6,7]))))))
def g201:IFn:=⟨49,[.tmp 6,.tmp 7],[3,4],c201,[],false,none⟩
def Qy:IR:=D [o 46 (mv 9),o 47 (mv 1),o 48 (mv 7),o 49 (bo .add (t 47) (t 48)),o 50 (.slice 36 (.tmp 46) (some (.tmp 49)) none none),o 51 (mv 0),o 52 (mv 1),o 53 (.slice 36 (.tmp 51) (some (.tmp 52)) none none),o 54 (.call { callee:=(.builtin .copy),args:=#[(.tmp 50),(.tmp 53)],argTypes:=#[36,36] })] [[],[],[],[1,2],[0,3],[],[],[5,6],[4,7]]
def Qx:IR:=D [o 69 (mv 0),o 70 (mv 1),o 71 (mv 7),o 72 (bo .add (t 70) (t 71)),o 73 (.slice 36 (.tmp 69) (some (.tmp 72)) none none),o 74 (mv 0),o 75 (mv 1),o 76 (.slice 36 (.tmp 74) (some (.tmp 75)) none none),o 77 (.call { callee:=(.builtin .copy),args:=#[(.tmp 73),(.tmp 76)],argTypes:=#[36,36] })] [[],[],[],[1,2],[0,3],[],[],[5,6],[4,7]]
def c202:IR:=(S (R [o 6 (.assign (.const (.slice none 0 0)))])
(S (R [o 10 (mv 0),o 11 (mv 1),o 12 (.slice 36 (.tmp 10) (some (.tmp 11)) none none)])
(S (R [o 13 (mv 2),o 14 (len 13 36),o 7 (av 14)])
(S (S (R [o 15 (mv 7),o 16 (bo .eql (t 15) (n 0))])
(.cond (t 16)
(S (R [o 17 (mv 0),o 6 (av 17)])
(.ret [6]))
.skip))
(S (R [o 18 (mv 0),o 19 (len 18 36),o 8 (av 19)])
(S (S (R [o 20 (mv 1),o 21 (mv 8),o 22 (bo .eql (t 20) (t 21))])
(.cond (t 22)
(S (R [o 23 (mv 0),o 24 (mv 2),o 25 (.call { callee:=(.builtin .append),args:=#[(.tmp 23),(.tmp 24)],argTypes:=#[36,36] }),o 6 (av 25)])
(.ret [6]))
.skip))
(S (S (R [o 26 (mv 8),o 27 (mv 7),o 28 (bo .add (t 26) (t 27)),o 29 (mv 0),o 30 (.call { callee:=(.builtin .cap),args:=#[(.tmp 29)],argTypes:=#[36] }),o 31 (bo .gtr (t 28) (t 30))])
(.cond (t 31)
(S (R [o 32 (mv 0),o 33 (mv 1),o 34 (.slice 36 (.tmp 32) none (some (.tmp 33)) none),o 35 (mv 8),o 36 (mv 7),o 37 (bo .add (t 35) (t 36)),o 38 (mv 1),o 39 (bo .sub (t 37) (t 38)),o 40 (.call { callee:=(.builtin .append),args:=#[(.tmp 34),(.tmp 39)],argTypes:=#[36,3] }),o 9 (av 40)])
(S (R [o 41 (mv 9),o 42 (mv 1),o 43 (.slice 36 (.tmp 41) (some (.tmp 42)) none none),o 44 (mv 2),o 45 (.call { callee:=(.builtin .copy),args:=#[(.tmp 43),(.tmp 44)],argTypes:=#[36,36] })])
(S Qy
(S (R [o 55 (mv 9),o 6 (av 55)])
(.ret [6])))))
.skip))
(S (R [o 56 (mv 0),o 57 (mv 8),o 58 (mv 7),o 59 (bo .add (t 57) (t 58)),o 60 (.slice 36 (.tmp 56) none (some (.tmp 59)) none),o 0 (av 60)])
(S (S (R [o 61 (mv 2),o 62 (mv 0),o 63 (mv 1),o 64 (mv 7),o 65 (bo .add (t 63) (t 64)),o 66 (.slice 36 (.tmp 62) (some (.tmp 65)) none none),o 67 (cl 203 #[(t 61),(t 66)] #[36,36]),o 68 (.unOp .not 4 (.tmp 67))])
(.cond (t 68)
(S Qx
(S (R [o 78 (mv 0),o 79 (mv 1),o 80 (.slice 36 (.tmp 78) (some (.tmp 79)) none none),o 81 (mv 2),o 82 (.call { callee:=(.builtin .copy),args:=#[(.tmp 80),(.tmp 81)],argTypes:=#[36,36] })])
(S (R [o 83 (mv 0),o 6 (av 83)])
(.ret [6]))))
.skip))
(S (R [o 84 (mv 0),o 85 (mv 8),o 86 (.slice 36 (.tmp 84) (some (.tmp 85)) none none),o 87 (mv 2),o 88 (.call { callee:=(.builtin .copy),args:=#[(.tmp 86),(.tmp 87)],argTypes:=#[36,36] })])
(S (R [o 89 (mv 0),o 90 (mv 1),o 91 (.slice 36 (.tmp 89) (some (.tmp 90)) none none),o 92 (mv 7),o 93 (cl 204 #[(t 91),(t 92)] #[36,3])])
(S (R [o 94 (mv 0),o 6 (av 94)])
(.ret [6])))))))))))))
def g202:IFn:=⟨95,[.tmp 6],[36],c202,[true],false,some (3,24)⟩
def c204:IR:=(R [o 4 (mv 0),o 5 (mv 0),o 6 (len 5 36),o 7 (mv 1),o 8 (bo .sub (t 6) (t 7)),o 9 (cl 205 #[(t 4),(t 8)] #[36,3])])
def g204:IFn:=⟨10,[],[],c204,[],false,none⟩
def c205:IR:=(S (R [o 4 (mv 0),o 5 (mv 1),o 6 (.slice 36 (.tmp 4) none (some (.tmp 5)) none),o 7 (cl 206 #[(t 6)] #[36])])
(S (R [o 8 (mv 0),o 9 (mv 1),o 10 (.slice 36 (.tmp 8) (some (.tmp 9)) none none),o 11 (cl 206 #[(t 10)] #[36])])
(R [o 12 (mv 0),o 13 (cl 206 #[(t 12)] #[36])])))
def g205:IFn:=⟨14,[],[],c205,[],false,none⟩
def Qw:IR:=D [o 14 (mv 0),o 15 (mv 2),o 16 (mv 0),o 17 (mv 3),o 18 (mv 0),o 19 (mv 3),o 20 (ia 36 18 19),o 21 (ld 114 20),o 22 (mv 0),o 23 (mv 2),o 24 (ia 36 22 23),o 25 (ld 114 24),o 26 (ia 36 14 15),w (st 114 26 21),o 27 (ia 36 16 17),w (st 114 27 25)] [[],[],[],[],[],[],[4,5],[6],[],[],[8,9],[10],[0,1,0,1,4,5,6,7,11],[12,7,0,1,4,5,6,7,11],[2,3,0,1,2,3,4,5,6,7,8,9,10,11,12,13],[14,11,13,0,1,2,3,4,5,6,7,8,9,10,11,12,13]]
def vA:IR:=(S (S (R [o 7 (mv 2),o 8 (mv 3),o 9 (bo .lss (t 7) (t 8))])
(.cond (t 9)
.skip
(.exit 0 [])))
(S (.block 1 Qw)
(R [o 10 (mv 2),o 11 (bo .add (t 10) (n 1)),o 12 (mv 3),o 13 (bo .sub (t 12) (n 1)),o 2 (av 11),o 3 (av 13)])))
def c206:IR:=(S (R [o 4 (mv 0),o 5 (len 4 36),o 6 (bo .sub (t 5) (n 1)),o 2 (an 0),o 3 (av 6)])
(.block 0 (.loop [0,2,3] vA)))
def g206:IFn:=⟨28,[],[],c206,[],false,none⟩
def RR:List (Nat × IFn):=[(3,g3),(4,g4),(5,g5),(6,g6),(7,g7),(8,g8),(9,g9),(10,g10),(11,g11),(12,g12),(13,g13),(14,g14),(15,g15),(16,g16),(17,g17),(18,g18),(19,g19),(20,g20),(21,g21),(22,g22),(23,g23),(24,g24),(25,g25),(26,g26),(27,g27),(28,g28),(29,g29),(30,g30),(31,g31),(32,g32),(33,g33),(34,g34),(35,g35),(36,g36),(37,g37),(38,g38),(39,g39),(40,g40),(41,g41),(42,g42),(43,g43),(44,g44),(45,g45),(46,g46),(47,g47),(48,g48),(49,g49),(50,g50),(51,g51),(52,g52),(53,g53),(54,g54),(55,g55),(56,g56),(57,g57),(58,g58),(59,g59),(60,g60),(61,g61),(62,g62),(63,g63),(64,g64),(65,g65),(66,g66),(67,g67),(68,g68),(69,g69),(70,g70),(71,g71),(72,g72),(73,g73),(74,g74),(75,g75),(76,g76),(77,g77),(78,g78),(79,g79),(80,g80),(81,g81),(82,g82),(83,g83),(84,g84),(85,g85),(86,g86),(87,g87),(88,g88),(89,g89),(90,g90),(91,g91),(92,g92),(93,g93),(94,g94),(95,g95),(96,g96),(97,g97),(98,g98),(99,g99),(100,g100),(101,g101),(102,g102),(103,g103),(104,g104),(105,g105),(106,g106),(107,g107),(108,g108),(109,g109),(110,g110),(111,g111),(112,g112),(113,g113),(114,g114),(115,g115),(116,g116),(117,g117),(118,g118),(119,g119),(120,g120),(121,g121),(122,g122),(123,g123),(124,g124),(125,g125),(126,g126),(127,g127),(128,g128),(129,g129),(130,g130),(131,g131),(132,g132),(133,g133),(134,g134),(135,g135),(136,g136),(137,g137),(138,g138),(139,g139),(140,g140),(141,g141),(142,g142),(143,g143),(144,g144),(145,g145),(146,g146),(147,g147),(148,g148),(149,g149),(150,g150),(151,g151),(152,g152),(153,g153),(154,g154),(155,g155),(156,g156),(157,g157),(158,g158),(159,g159),(160,g160),(161,g161),(162,g162),(163,g163),(164,g164),(165,g165),(166,g166),(167,g167),(168,g168),(169,g169),(170,g170),(171,g171),(172,g172),(173,g173),(174,g174),(175,g175),(176,g176),(177,g177),(178,g178),(179,g179),(180,g180),(181,g181),(182,g182),(183,g183),(184,g184),(185,g185),(186,g186),(187,g187),(188,g188),(189,g189),(190,g190),(191,g191),(192,g192),(193,g193),(194,g194),(195,g195),(196,g196),(197,g197),(198,g198),(199,g199),(200,g200),(201,g201),(202,g202),(204,g204),(205,g205),(206,g206)]
def tbl:Tbl:=lk RR
def ctx:Ctx:=⟨lay,tbl⟩
@[go_sem] theorem ctx_L:ctx.L=lay:=rfl
@[go_sem] theorem ctx_T:ctx.T=tbl:=rfl
attribute [go_sem] y1 y2 y3 y4 y5 y6 y7 y8 y9 y10 y11 y12 y13 y22 y24 y25 y26 y27 y28 y30 y33 y34 y35 y36 y38 y40 y41 y50 y51 y52 y54 y58 y62 y71 y73 y74 y86 y93 XC gS gR gQ Zn gO gK gJ gH gG gF gE gB gA fZ fY
@[go_sem] theorem lay_1:lay 1=some y1:=rfl
@[go_sem] theorem lay_2:lay 2=some y2:=rfl
@[go_sem] theorem lay_3:lay 3=some y3:=rfl
@[go_sem] theorem lay_4:lay 4=some y4:=rfl
@[go_sem] theorem lay_5:lay 5=some y5:=rfl
@[go_sem] theorem lay_6:lay 6=some y6:=rfl
@[go_sem] theorem lay_7:lay 7=some y7:=rfl
@[go_sem] theorem lay_8:lay 8=some y8:=rfl
@[go_sem] theorem lay_9:lay 9=some y9:=rfl
@[go_sem] theorem lay_10:lay 10=some y10:=rfl
@[go_sem] theorem lay_11:lay 11=some y11:=rfl
@[go_sem] theorem lay_12:lay 12=some y12:=rfl
@[go_sem] theorem lay_13:lay 13=some y13:=rfl
@[go_sem] theorem lay_22:lay 22=some y22:=rfl
@[go_sem] theorem lay_24:lay 24=some y24:=rfl
@[go_sem] theorem lay_25:lay 25=some y25:=rfl
@[go_sem] theorem lay_26:lay 26=some y26:=rfl
@[go_sem] theorem lay_27:lay 27=some y27:=rfl
@[go_sem] theorem lay_28:lay 28=some y28:=rfl
@[go_sem] theorem lay_30:lay 30=some y30:=rfl
@[go_sem] theorem lay_33:lay 33=some y33:=rfl
@[go_sem] theorem lay_34:lay 34=some y34:=rfl
@[go_sem] theorem lay_35:lay 35=some y35:=rfl
@[go_sem] theorem lay_36:lay 36=some y36:=rfl
@[go_sem] theorem lay_38:lay 38=some y38:=rfl
@[go_sem] theorem lay_40:lay 40=some y40:=rfl
@[go_sem] theorem lay_41:lay 41=some y41:=rfl
@[go_sem] theorem lay_50:lay 50=some y50:=rfl
@[go_sem] theorem lay_51:lay 51=some y51:=rfl
@[go_sem] theorem lay_52:lay 52=some y52:=rfl
@[go_sem] theorem lay_54:lay 54=some y54:=rfl
@[go_sem] theorem lay_58:lay 58=some y58:=rfl
@[go_sem] theorem lay_62:lay 62=some y62:=rfl
@[go_sem] theorem lay_71:lay 71=some y71:=rfl
@[go_sem] theorem lay_73:lay 73=some y73:=rfl
@[go_sem] theorem lay_74:lay 74=some y74:=rfl
@[go_sem] theorem lay_86:lay 86=some y86:=rfl
@[go_sem] theorem lay_93:lay 93=some y93:=rfl
@[go_sem] theorem lay_114:lay 114=some XC:=rfl
@[go_sem] theorem lay_129:lay 129=some gS:=rfl
@[go_sem] theorem lay_131:lay 131=some gR:=rfl
@[go_sem] theorem lay_137:lay 137=some gQ:=rfl
@[go_sem] theorem lay_148:lay 148=some Zn:=rfl
@[go_sem] theorem lay_163:lay 163=some gO:=rfl
@[go_sem] theorem lay_167:lay 167=some gK:=rfl
@[go_sem] theorem lay_169:lay 169=some gJ:=rfl
@[go_sem] theorem lay_171:lay 171=some gH:=rfl
@[go_sem] theorem lay_172:lay 172=some gG:=rfl
@[go_sem] theorem lay_174:lay 174=some gF:=rfl
@[go_sem] theorem lay_186:lay 186=some gE:=rfl
@[go_sem] theorem lay_188:lay 188=some gB:=rfl
@[go_sem] theorem lay_204:lay 204=some gA:=rfl
@[go_sem] theorem lay_221:lay 221=some fZ:=rfl
@[go_sem] theorem lay_222:lay 222=some fY:=rfl
@[go_sem] theorem k3:Ah tbl 3 []:=fun _ _ _ _ _ _=>rfl
@[go_sem] theorem k4:Ah tbl 4 []:=fun _ _ _ _ _ _=>rfl
@[go_sem] theorem k5:Ah tbl 5 []:=fun _ _ _ _ _ _=>rfl
@[go_sem] theorem k6:Ah tbl 6 []:=fun _ _ _ _ _ _=>rfl
@[go_sem] theorem k7:Ah tbl 7 []:=fun _ _ _ _ _ _=>rfl
@[go_sem] theorem k8:Ah tbl 8 []:=fun _ _ _ _ _ _=>rfl
@[go_sem] theorem k9:Ah tbl 9 []:=fun _ _ _ _ _ _=>rfl
@[go_sem] theorem k10:Ah tbl 10 []:=fun _ _ _ _ _ _=>rfl
@[go_sem] theorem k11:Ah tbl 11 []:=fun _ _ _ _ _ _=>rfl
@[go_sem] theorem k12:Ah tbl 12 []:=fun _ _ _ _ _ _=>rfl
@[go_sem] theorem k13:Ah tbl 13 []:=fun _ _ _ _ _ _=>rfl
@[go_sem] theorem k14:Ah tbl 14 []:=fun _ _ _ _ _ _=>rfl
@[go_sem] theorem k15:Ah tbl 15 []:=fun _ _ _ _ _ _=>rfl
@[go_sem] theorem k16:Ah tbl 16 []:=fun _ _ _ _ _ _=>rfl
@[go_sem] theorem k17:Ah tbl 17 []:=fun _ _ _ _ _ _=>rfl
@[go_sem] theorem k18:Ah tbl 18 []:=fun _ _ _ _ _ _=>rfl
@[go_sem] theorem k19:Ah tbl 19 []:=fun _ _ _ _ _ _=>rfl
@[go_sem] theorem k20:Ah tbl 20 []:=fun _ _ _ _ _ _=>rfl
@[go_sem] theorem k21:Ah tbl 21 []:=fun _ _ _ _ _ _=>rfl
@[go_sem] theorem k22:Ah tbl 22 []:=fun _ _ _ _ _ _=>rfl
@[go_sem] theorem k23:Ah tbl 23 []:=fun _ _ _ _ _ _=>rfl
@[go_sem] theorem k24:Ah tbl 24 []:=fun _ _ _ _ _ _=>rfl
@[go_sem] theorem k25:Ah tbl 25 []:=fun _ _ _ _ _ _=>rfl
@[go_sem] theorem k26:XB tbl 26:=fun _ _ _ _ _ _=>rfl
@[go_sem] theorem k27:Ah tbl 27 []:=fun _ _ _ _ _ _=>rfl
@[go_sem] theorem k28:Ah tbl 28 []:=fun _ _ _ _ _ _=>rfl
@[go_sem] theorem k29:Ah tbl 29 []:=fun _ _ _ _ _ _=>rfl
@[go_sem] theorem k30:Ah tbl 30 []:=fun _ _ _ _ _ _=>rfl
@[go_sem] theorem k31:Ah tbl 31 []:=fun _ _ _ _ _ _=>rfl
@[go_sem] theorem k32:Ah tbl 32 []:=fun _ _ _ _ _ _=>rfl
@[go_sem] theorem k33:Ah tbl 33 []:=fun _ _ _ _ _ _=>rfl
@[go_sem] theorem k34:Ah tbl 34 []:=fun _ _ _ _ _ _=>rfl
@[go_sem] theorem k35:Ah tbl 35 []:=fun _ _ _ _ _ _=>rfl
@[go_sem] theorem k36:Ah tbl 36 []:=fun _ _ _ _ _ _=>rfl
@[go_sem] theorem k37:Ah tbl 37 []:=fun _ _ _ _ _ _=>rfl
@[go_sem] theorem k38:Ah tbl 38 []:=fun _ _ _ _ _ _=>rfl
@[go_sem] theorem k39:Ah tbl 39 []:=fun _ _ _ _ _ _=>rfl
@[go_sem] theorem k40:Ah tbl 40 []:=fun _ _ _ _ _ _=>rfl
@[go_sem] theorem k41:Ah tbl 41 []:=fun _ _ _ _ _ _=>rfl
@[go_sem] theorem k42:Ah tbl 42 []:=fun _ _ _ _ _ _=>rfl
@[go_sem] theorem k43:Ah tbl 43 []:=fun _ _ _ _ _ _=>rfl
@[go_sem] theorem k44:Ah tbl 44 []:=fun _ _ _ _ _ _=>rfl
@[go_sem] theorem k45:Ah tbl 45 []:=fun _ _ _ _ _ _=>rfl
@[go_sem] theorem k46:Ah tbl 46 []:=fun _ _ _ _ _ _=>rfl
@[go_sem] theorem k47:Ah tbl 47 []:=fun _ _ _ _ _ _=>rfl
@[go_sem] theorem k48:Ah tbl 48 []:=fun _ _ _ _ _ _=>rfl
@[go_sem] theorem k49:Ah tbl 49 []:=fun _ _ _ _ _ _=>rfl
@[go_sem] theorem k50:Ah tbl 50 []:=fun _ _ _ _ _ _=>rfl
@[go_sem] theorem k51:Ah tbl 51 []:=fun _ _ _ _ _ _=>rfl
@[go_sem] theorem k52:Ah tbl 52 []:=fun _ _ _ _ _ _=>rfl
@[go_sem] theorem k53:XB tbl 53:=fun _ _ _ _ _ _=>rfl
@[go_sem] theorem k54:Ah tbl 54 []:=fun _ _ _ _ _ _=>rfl
@[go_sem] theorem k55:PC tbl 55 17 184:=fun _ _ _ _=>rfl
@[go_sem] theorem k56:PC tbl 56 4 32:=fun _ _ _ _=>rfl
@[go_sem] theorem k57:Ah tbl 57 []:=fun _ _ _ _ _ _=>rfl
@[go_sem] theorem k58:Ah tbl 58 []:=fun _ _ _ _ _ _=>rfl
@[go_sem] theorem k59:Ah tbl 59 []:=fun _ _ _ _ _ _=>rfl
@[go_sem] theorem k60:Ah tbl 60 []:=fun _ _ _ _ _ _=>rfl
@[go_sem] theorem k61:Ah tbl 61 []:=fun _ _ _ _ _ _=>rfl
@[go_sem] theorem k62:Ah tbl 62 []:=fun _ _ _ _ _ _=>rfl
@[go_sem] theorem k63:Ah tbl 63 []:=fun _ _ _ _ _ _=>rfl
@[go_sem] theorem k64:Ah tbl 64 []:=fun _ _ _ _ _ _=>rfl
@[go_sem] theorem k65:Ah tbl 65 []:=fun _ _ _ _ _ _=>rfl
@[go_sem] theorem k66:Ah tbl 66 []:=fun _ _ _ _ _ _=>rfl
@[go_sem] theorem k67:Ah tbl 67 []:=fun _ _ _ _ _ _=>rfl
@[go_sem] theorem k68:Ah tbl 68 []:=fun _ _ _ _ _ _=>rfl
@[go_sem] theorem k69:Ah tbl 69 []:=fun _ _ _ _ _ _=>rfl
@[go_sem] theorem k70:Ah tbl 70 []:=fun _ _ _ _ _ _=>rfl
@[go_sem] theorem k71:Ah tbl 71 []:=fun _ _ _ _ _ _=>rfl
@[go_sem] theorem k72:Ah tbl 72 []:=fun _ _ _ _ _ _=>rfl
@[go_sem] theorem k73:Ah tbl 73 []:=fun _ _ _ _ _ _=>rfl
@[go_sem] theorem k74:Ah tbl 74 []:=fun _ _ _ _ _ _=>rfl
@[go_sem] theorem k75:Ah tbl 75 [true]:=fun _ _ _ _ _ _=>rfl
@[go_sem] theorem k76:Ah tbl 76 []:=fun _ _ _ _ _ _=>rfl
@[go_sem] theorem k77:Ah tbl 77 []:=fun _ _ _ _ _ _=>rfl
@[go_sem] theorem k78:Ah tbl 78 []:=fun _ _ _ _ _ _=>rfl
@[go_sem] theorem k79:Ah tbl 79 []:=fun _ _ _ _ _ _=>rfl
@[go_sem] theorem k80:Ah tbl 80 []:=fun _ _ _ _ _ _=>rfl
@[go_sem] theorem k81:Ah tbl 81 []:=fun _ _ _ _ _ _=>rfl
@[go_sem] theorem k82:Ah tbl 82 []:=fun _ _ _ _ _ _=>rfl
@[go_sem] theorem k83:Ah tbl 83 []:=fun _ _ _ _ _ _=>rfl
@[go_sem] theorem k84:Ah tbl 84 []:=fun _ _ _ _ _ _=>rfl
@[go_sem] theorem k85:Ah tbl 85 []:=fun _ _ _ _ _ _=>rfl
@[go_sem] theorem k86:Ah tbl 86 []:=fun _ _ _ _ _ _=>rfl
@[go_sem] theorem k87:Ah tbl 87 []:=fun _ _ _ _ _ _=>rfl
@[go_sem] theorem k88:Ah tbl 88 []:=fun _ _ _ _ _ _=>rfl
@[go_sem] theorem k89:Ah tbl 89 []:=fun _ _ _ _ _ _=>rfl
@[go_sem] theorem k90:Ah tbl 90 []:=fun _ _ _ _ _ _=>rfl
@[go_sem] theorem k91:Ah tbl 91 []:=fun _ _ _ _ _ _=>rfl
@[go_sem] theorem k92:Ah tbl 92 []:=fun _ _ _ _ _ _=>rfl
@[go_sem] theorem k93:XB tbl 93:=fun _ _ _ _ _ _=>rfl
@[go_sem] theorem k94:PC tbl 94 3 24:=fun _ _ _ _=>rfl
@[go_sem] theorem k95:PC tbl 95 4 32:=fun _ _ _ _=>rfl
@[go_sem] theorem k96:PC tbl 96 3 24:=fun _ _ _ _=>rfl
@[go_sem] theorem k97:PC tbl 97 3 24:=fun _ _ _ _=>rfl
@[go_sem] theorem k98:Ah tbl 98 []:=fun _ _ _ _ _ _=>rfl
@[go_sem] theorem k99:Ah tbl 99 []:=fun _ _ _ _ _ _=>rfl
@[go_sem] theorem k100:Ah tbl 100 []:=fun _ _ _ _ _ _=>rfl
@[go_sem] theorem k101:Ah tbl 101 []:=fun _ _ _ _ _ _=>rfl
@[go_sem] theorem k102:Ah tbl 102 []:=fun _ _ _ _ _ _=>rfl
@[go_sem] theorem k103:Ah tbl 103 []:=fun _ _ _ _ _ _=>rfl
@[go_sem] theorem k104:Ah tbl 104 []:=fun _ _ _ _ _ _=>rfl
@[go_sem] theorem k105:Ah tbl 105 []:=fun _ _ _ _ _ _=>rfl
@[go_sem] theorem k106:Ah tbl 106 []:=fun _ _ _ _ _ _=>rfl
@[go_sem] theorem k107:Ah tbl 107 []:=fun _ _ _ _ _ _=>rfl
@[go_sem] theorem k108:Ah tbl 108 []:=fun _ _ _ _ _ _=>rfl
@[go_sem] theorem k109:Ah tbl 109 []:=fun _ _ _ _ _ _=>rfl
@[go_sem] theorem k110:Ah tbl 110 []:=fun _ _ _ _ _ _=>rfl
@[go_sem] theorem k111:Ah tbl 111 []:=fun _ _ _ _ _ _=>rfl
@[go_sem] theorem k112:Ah tbl 112 []:=fun _ _ _ _ _ _=>rfl
@[go_sem] theorem k113:Ah tbl 113 []:=fun _ _ _ _ _ _=>rfl
@[go_sem] theorem k114:Ah tbl 114 []:=fun _ _ _ _ _ _=>rfl
@[go_sem] theorem k115:Ah tbl 115 []:=fun _ _ _ _ _ _=>rfl
@[go_sem] theorem k116:Ah tbl 116 []:=fun _ _ _ _ _ _=>rfl
@[go_sem] theorem k117:Ah tbl 117 []:=fun _ _ _ _ _ _=>rfl
@[go_sem] theorem k118:Ah tbl 118 []:=fun _ _ _ _ _ _=>rfl
@[go_sem] theorem k119:Ah tbl 119 []:=fun _ _ _ _ _ _=>rfl
@[go_sem] theorem k120:Ah tbl 120 []:=fun _ _ _ _ _ _=>rfl
@[go_sem] theorem k121:Ah tbl 121 []:=fun _ _ _ _ _ _=>rfl
@[go_sem] theorem k122:Ah tbl 122 []:=fun _ _ _ _ _ _=>rfl
@[go_sem] theorem k123:XB tbl 123:=fun _ _ _ _ _ _=>rfl
@[go_sem] theorem k124:Ah tbl 124 []:=fun _ _ _ _ _ _=>rfl
@[go_sem] theorem k125:Ah tbl 125 []:=fun _ _ _ _ _ _=>rfl
@[go_sem] theorem k126:Ah tbl 126 []:=fun _ _ _ _ _ _=>rfl
@[go_sem] theorem k127:Ah tbl 127 []:=fun _ _ _ _ _ _=>rfl
@[go_sem] theorem k128:Ah tbl 128 []:=fun _ _ _ _ _ _=>rfl
@[go_sem] theorem k129:Ah tbl 129 []:=fun _ _ _ _ _ _=>rfl
@[go_sem] theorem k130:Ah tbl 130 []:=fun _ _ _ _ _ _=>rfl
@[go_sem] theorem k131:Ah tbl 131 []:=fun _ _ _ _ _ _=>rfl
@[go_sem] theorem k132:Ah tbl 132 []:=fun _ _ _ _ _ _=>rfl
@[go_sem] theorem k133:Ah tbl 133 []:=fun _ _ _ _ _ _=>rfl
@[go_sem] theorem k134:Ah tbl 134 []:=fun _ _ _ _ _ _=>rfl
@[go_sem] theorem k135:Ah tbl 135 []:=fun _ _ _ _ _ _=>rfl
@[go_sem] theorem k136:Ah tbl 136 []:=fun _ _ _ _ _ _=>rfl
@[go_sem] theorem k137:Ah tbl 137 []:=fun _ _ _ _ _ _=>rfl
@[go_sem] theorem k138:Ah tbl 138 []:=fun _ _ _ _ _ _=>rfl
@[go_sem] theorem k139:Ah tbl 139 []:=fun _ _ _ _ _ _=>rfl
@[go_sem] theorem k140:Ah tbl 140 []:=fun _ _ _ _ _ _=>rfl
@[go_sem] theorem k141:Ah tbl 141 []:=fun _ _ _ _ _ _=>rfl
@[go_sem] theorem k142:Ah tbl 142 []:=fun _ _ _ _ _ _=>rfl
@[go_sem] theorem k143:Ah tbl 143 []:=fun _ _ _ _ _ _=>rfl
@[go_sem] theorem k144:Ah tbl 144 []:=fun _ _ _ _ _ _=>rfl
@[go_sem] theorem k145:Ah tbl 145 []:=fun _ _ _ _ _ _=>rfl
@[go_sem] theorem k146:Ah tbl 146 []:=fun _ _ _ _ _ _=>rfl
@[go_sem] theorem k147:Ah tbl 147 []:=fun _ _ _ _ _ _=>rfl
@[go_sem] theorem k148:Ah tbl 148 []:=fun _ _ _ _ _ _=>rfl
@[go_sem] theorem k149:Ah tbl 149 []:=fun _ _ _ _ _ _=>rfl
@[go_sem] theorem k150:Ah tbl 150 []:=fun _ _ _ _ _ _=>rfl
@[go_sem] theorem k151:Ah tbl 151 []:=fun _ _ _ _ _ _=>rfl
@[go_sem] theorem k152:Ah tbl 152 []:=fun _ _ _ _ _ _=>rfl
@[go_sem] theorem k153:Ah tbl 153 []:=fun _ _ _ _ _ _=>rfl
@[go_sem] theorem k154:Ah tbl 154 []:=fun _ _ _ _ _ _=>rfl
@[go_sem] theorem k155:Ah tbl 155 []:=fun _ _ _ _ _ _=>rfl
@[go_sem] theorem k156:Ah tbl 156 []:=fun _ _ _ _ _ _=>rfl
@[go_sem] theorem k157:Ah tbl 157 []:=fun _ _ _ _ _ _=>rfl
@[go_sem] theorem k158:Ah tbl 158 []:=fun _ _ _ _ _ _=>rfl
@[go_sem] theorem k159:Ah tbl 159 []:=fun _ _ _ _ _ _=>rfl
@[go_sem] theorem k160:Ah tbl 160 []:=fun _ _ _ _ _ _=>rfl
@[go_sem] theorem k161:Ah tbl 161 []:=fun _ _ _ _ _ _=>rfl
@[go_sem] theorem k162:Ah tbl 162 []:=fun _ _ _ _ _ _=>rfl
@[go_sem] theorem k163:Ah tbl 163 []:=fun _ _ _ _ _ _=>rfl
@[go_sem] theorem k164:Ah tbl 164 []:=fun _ _ _ _ _ _=>rfl
@[go_sem] theorem k165:Ah tbl 165 []:=fun _ _ _ _ _ _=>rfl
@[go_sem] theorem k166:Ah tbl 166 []:=fun _ _ _ _ _ _=>rfl
@[go_sem] theorem k167:Ah tbl 167 []:=fun _ _ _ _ _ _=>rfl
@[go_sem] theorem k168:Ah tbl 168 []:=fun _ _ _ _ _ _=>rfl
@[go_sem] theorem k169:Ah tbl 169 []:=fun _ _ _ _ _ _=>rfl
@[go_sem] theorem k170:Ah tbl 170 []:=fun _ _ _ _ _ _=>rfl
@[go_sem] theorem k171:Ah tbl 171 []:=fun _ _ _ _ _ _=>rfl
@[go_sem] theorem k172:Ah tbl 172 []:=fun _ _ _ _ _ _=>rfl
@[go_sem] theorem k173:Ah tbl 173 []:=fun _ _ _ _ _ _=>rfl
@[go_sem] theorem k174:Ah tbl 174 []:=fun _ _ _ _ _ _=>rfl
@[go_sem] theorem k175:Ah tbl 175 []:=fun _ _ _ _ _ _=>rfl
@[go_sem] theorem k176:Ah tbl 176 []:=fun _ _ _ _ _ _=>rfl
@[go_sem] theorem k177:Ah tbl 177 []:=fun _ _ _ _ _ _=>rfl
@[go_sem] theorem k178:Ah tbl 178 []:=fun _ _ _ _ _ _=>rfl
@[go_sem] theorem k179:Ah tbl 179 []:=fun _ _ _ _ _ _=>rfl
@[go_sem] theorem k180:Ah tbl 180 []:=fun _ _ _ _ _ _=>rfl
@[go_sem] theorem k181:Ah tbl 181 []:=fun _ _ _ _ _ _=>rfl
@[go_sem] theorem k182:Ah tbl 182 []:=fun _ _ _ _ _ _=>rfl
@[go_sem] theorem k183:Ah tbl 183 []:=fun _ _ _ _ _ _=>rfl
@[go_sem] theorem k184:Ah tbl 184 []:=fun _ _ _ _ _ _=>rfl
@[go_sem] theorem k185:Ah tbl 185 []:=fun _ _ _ _ _ _=>rfl
@[go_sem] theorem k186:Ah tbl 186 []:=fun _ _ _ _ _ _=>rfl
@[go_sem] theorem k187:Ah tbl 187 []:=fun _ _ _ _ _ _=>rfl
@[go_sem] theorem k188:Ah tbl 188 []:=fun _ _ _ _ _ _=>rfl
@[go_sem] theorem k189:Ah tbl 189 []:=fun _ _ _ _ _ _=>rfl
@[go_sem] theorem k190:Ah tbl 190 []:=fun _ _ _ _ _ _=>rfl
@[go_sem] theorem k191:Ah tbl 191 []:=fun _ _ _ _ _ _=>rfl
@[go_sem] theorem k192:Ah tbl 192 []:=fun _ _ _ _ _ _=>rfl
@[go_sem] theorem k193:Ah tbl 193 []:=fun _ _ _ _ _ _=>rfl
@[go_sem] theorem k194:Ah tbl 194 []:=fun _ _ _ _ _ _=>rfl
@[go_sem] theorem k195:Ah tbl 195 []:=fun _ _ _ _ _ _=>rfl
@[go_sem] theorem k196:Ah tbl 196 []:=fun _ _ _ _ _ _=>rfl
@[go_sem] theorem k197:Ah tbl 197 []:=fun _ _ _ _ _ _=>rfl
@[go_sem] theorem k198:Ah tbl 198 []:=fun _ _ _ _ _ _=>rfl
@[go_sem] theorem k199:Ah tbl 199 []:=fun _ _ _ _ _ _=>rfl
@[go_sem] theorem k200:Ah tbl 200 []:=fun _ _ _ _ _ _=>rfl
@[go_sem] theorem k201:Ah tbl 201 []:=fun _ _ _ _ _ _=>rfl
@[go_sem] theorem k202:a0t tbl 202 3 24:=fun _ _ _ _ _ _=>rfl
@[go_sem] theorem k204:Ah tbl 204 []:=fun _ _ _ _ _ _=>rfl
@[go_sem] theorem k205:Ah tbl 205 []:=fun _ _ _ _ _ _=>rfl
@[go_sem] theorem k206:Ah tbl 206 []:=fun _ _ _ _ _ _=>rfl
section
variable (O:Orc) (P:FuncId→List V→Option V) (k:Nat) (s:St) (q:Out→St→Option Ans) (Q:V→Hp→Nat→Prop)
@[go_sem ↓] theorem v7_1:Fin (evC ctx O P k nF s q) Q=GU nF ctx P s q Q ⟨⟩ ⟨⟩:=AU _ _ _ _ _ _ _ (by kernel_rfl)
@[go_sem ↓] theorem v9_1:Fin (evC ctx O P k nE s q) Q=GU nE ctx P s q Q ⟨⟩ ⟨⟩:=AU _ _ _ _ _ _ _ (by kernel_rfl)
@[go_sem ↓] theorem v13_1:Fin (evC ctx O P k Xu s q) Q=GU Xu ctx P s q Q ⟨⟩ ⟨⟩:=AU _ _ _ _ _ _ _ (by kernel_rfl)
@[go_sem ↓] theorem v14_1:Fin (evC ctx O P k Xt s q) Q=GU Xt ctx P s q Q ⟨⟩ ⟨⟩:=AU _ _ _ _ _ _ _ (by kernel_rfl)
@[go_sem ↓] theorem v20_1:Fin (evC ctx O P k Xs s q) Q=GU Xs ctx P s q Q ⟨⟩ ⟨⟩:=AU _ _ _ _ _ _ _ (by kernel_rfl)
@[go_sem ↓] theorem v21_1:Fin (evC ctx O P k Xr s q) Q=GU Xr ctx P s q Q ⟨⟩ ⟨⟩:=AU _ _ _ _ _ _ _ (by kernel_rfl)
@[go_sem ↓] theorem v25_1:Fin (evC ctx O P k Xq s q) Q=GU Xq ctx P s q Q ⟨⟩ ⟨⟩:=AU _ _ _ _ _ _ _ (by kernel_rfl)
@[go_sem ↓] theorem v25_2:Fin (evC ctx O P k Xp s q) Q=GU Xp ctx P s q Q ⟨⟩ ⟨⟩:=AU _ _ _ _ _ _ _ (by kernel_rfl)
@[go_sem ↓] theorem v26_1:Fin (evC ctx O P k Xo s q) Q=GU Xo ctx P s q Q ⟨⟩ ⟨⟩:=AU _ _ _ _ _ _ _ (by kernel_rfl)
@[go_sem ↓] theorem v28_1:Fin (evC ctx O P k Xn s q) Q=GU Xn ctx P s q Q ⟨⟩ ⟨⟩:=AU _ _ _ _ _ _ _ (by kernel_rfl)
@[go_sem ↓] theorem v29_1:Fin (evC ctx O P k Xm s q) Q=GU Xm ctx P s q Q ⟨⟩ ⟨⟩:=AU _ _ _ _ _ _ _ (by kernel_rfl)
@[go_sem ↓] theorem v30_1:Fin (evC ctx O P k Xl s q) Q=GU Xl ctx P s q Q ⟨⟩ ⟨⟩:=AU _ _ _ _ _ _ _ (by kernel_rfl)
@[go_sem ↓] theorem v30_2:Fin (evC ctx O P k Xk s q) Q=GU Xk ctx P s q Q ⟨⟩ ⟨⟩:=AU _ _ _ _ _ _ _ (by kernel_rfl)
@[go_sem ↓] theorem v31_1:Fin (evC ctx O P k Xj s q) Q=GU Xj ctx P s q Q ⟨⟩ ⟨⟩:=AU _ _ _ _ _ _ _ (by kernel_rfl)
@[go_sem ↓] theorem v33_1:Fin (evC ctx O P k Xi s q) Q=GU Xi ctx P s q Q ⟨⟩ ⟨⟩:=AU _ _ _ _ _ _ _ (by kernel_rfl)
@[go_sem ↓] theorem v33_2:Fin (evC ctx O P k Xh s q) Q=GU Xh ctx P s q Q ⟨⟩ ⟨⟩:=AU _ _ _ _ _ _ _ (by kernel_rfl)
@[go_sem ↓] theorem v34_1:Fin (evC ctx O P k Xg s q) Q=GU Xg ctx P s q Q ⟨⟩ ⟨⟩:=AU _ _ _ _ _ _ _ (by kernel_rfl)
@[go_sem ↓] theorem v34_2:Fin (evC ctx O P k Xf s q) Q=GU Xf ctx P s q Q ⟨⟩ ⟨⟩:=AU _ _ _ _ _ _ _ (by kernel_rfl)
@[go_sem ↓] theorem v42_1:Fin (evC ctx O P k Xe s q) Q=GU Xe ctx P s q Q ⟨⟩ ⟨⟩:=AU _ _ _ _ _ _ _ (by kernel_rfl)
@[go_sem ↓] theorem v46_1:Fin (evC ctx O P k Xd s q) Q=GU Xd ctx P s q Q ⟨⟩ ⟨⟩:=AU _ _ _ _ _ _ _ (by kernel_rfl)
@[go_sem ↓] theorem v57_1:Fin (evC ctx O P k Xc s q) Q=GU Xc ctx P s q Q ⟨⟩ ⟨⟩:=AU _ _ _ _ _ _ _ (by kernel_rfl)
@[go_sem ↓] theorem v58_1:Fin (evC ctx O P k Xb s q) Q=GU Xb ctx P s q Q ⟨⟩ ⟨⟩:=AU _ _ _ _ _ _ _ (by kernel_rfl)
@[go_sem ↓] theorem v58_2:Fin (evC ctx O P k Xa s q) Q=GU Xa ctx P s q Q ⟨⟩ ⟨⟩:=AU _ _ _ _ _ _ _ (by kernel_rfl)
@[go_sem ↓] theorem v62_1:Fin (evC ctx O P k WZ s q) Q=GU WZ ctx P s q Q ⟨⟩ ⟨⟩:=AU _ _ _ _ _ _ _ (by kernel_rfl)
@[go_sem ↓] theorem v63_1:Fin (evC ctx O P k WY s q) Q=GU WY ctx P s q Q ⟨⟩ ⟨⟩:=AU _ _ _ _ _ _ _ (by kernel_rfl)
@[go_sem ↓] theorem v64_1:Fin (evC ctx O P k WX s q) Q=GU WX ctx P s q Q ⟨⟩ ⟨⟩:=AU _ _ _ _ _ _ _ (by kernel_rfl)
@[go_sem ↓] theorem v64_2:Fin (evC ctx O P k WW s q) Q=GU WW ctx P s q Q ⟨⟩ ⟨⟩:=AU _ _ _ _ _ _ _ (by kernel_rfl)
@[go_sem ↓] theorem v65_1:Fin (evC ctx O P k WV s q) Q=GU WV ctx P s q Q ⟨⟩ ⟨⟩:=AU _ _ _ _ _ _ _ (by kernel_rfl)
@[go_sem ↓] theorem v65_2:Fin (evC ctx O P k WU s q) Q=GU WU ctx P s q Q ⟨⟩ ⟨⟩:=AU _ _ _ _ _ _ _ (by kernel_rfl)
@[go_sem ↓] theorem v66_1:Fin (evC ctx O P k WT s q) Q=GU WT ctx P s q Q ⟨⟩ ⟨⟩:=AU _ _ _ _ _ _ _ (by kernel_rfl)
@[go_sem ↓] theorem v66_2:Fin (evC ctx O P k WS s q) Q=GU WS ctx P s q Q ⟨⟩ ⟨⟩:=AU _ _ _ _ _ _ _ (by kernel_rfl)
@[go_sem ↓] theorem v66_3:Fin (evC ctx O P k WR s q) Q=GU WR ctx P s q Q ⟨⟩ ⟨⟩:=AU _ _ _ _ _ _ _ (by kernel_rfl)
@[go_sem ↓] theorem v69_1:Fin (evC ctx O P k WQ s q) Q=GU WQ ctx P s q Q ⟨⟩ ⟨⟩:=AU _ _ _ _ _ _ _ (by kernel_rfl)
@[go_sem ↓] theorem v71_1:Fin (evC ctx O P k WP s q) Q=GU WP ctx P s q Q ⟨⟩ ⟨⟩:=AU _ _ _ _ _ _ _ (by kernel_rfl)
@[go_sem ↓] theorem v71_2:Fin (evC ctx O P k WO s q) Q=GU WO ctx P s q Q ⟨⟩ ⟨⟩:=AU _ _ _ _ _ _ _ (by kernel_rfl)
@[go_sem ↓] theorem v72_1:Fin (evC ctx O P k WN s q) Q=GU WN ctx P s q Q ⟨⟩ ⟨⟩:=AU _ _ _ _ _ _ _ (by kernel_rfl)
@[go_sem ↓] theorem v73_1:Fin (evC ctx O P k WM s q) Q=GU WM ctx P s q Q ⟨⟩ ⟨⟩:=AU _ _ _ _ _ _ _ (by kernel_rfl)
@[go_sem ↓] theorem v73_2:Fin (evC ctx O P k WL s q) Q=GU WL ctx P s q Q ⟨⟩ ⟨⟩:=AU _ _ _ _ _ _ _ (by kernel_rfl)
@[go_sem ↓] theorem v75_1:Fin (evC ctx O P k WK s q) Q=GU WK ctx P s q Q ⟨⟩ ⟨⟩:=AU _ _ _ _ _ _ _ (by kernel_rfl)
@[go_sem ↓] theorem v76_1:Fin (evC ctx O P k WJ s q) Q=GU WJ ctx P s q Q ⟨⟩ ⟨⟩:=AU _ _ _ _ _ _ _ (by kernel_rfl)
@[go_sem ↓] theorem v78_1:Fin (evC ctx O P k WI s q) Q=GU WI ctx P s q Q ⟨⟩ ⟨⟩:=AU _ _ _ _ _ _ _ (by kernel_rfl)
@[go_sem ↓] theorem v79_1:Fin (evC ctx O P k WH s q) Q=GU WH ctx P s q Q ⟨⟩ ⟨⟩:=AU _ _ _ _ _ _ _ (by kernel_rfl)
@[go_sem ↓] theorem v79_2:Fin (evC ctx O P k WG s q) Q=GU WG ctx P s q Q ⟨⟩ ⟨⟩:=AU _ _ _ _ _ _ _ (by kernel_rfl)
@[go_sem ↓] theorem v84_1:Fin (evC ctx O P k WE s q) Q=GU WE ctx P s q Q ⟨⟩ ⟨⟩:=AU _ _ _ _ _ _ _ (by kernel_rfl)
@[go_sem ↓] theorem v85_1:Fin (evC ctx O P k WD s q) Q=GU WD ctx P s q Q ⟨⟩ ⟨⟩:=AU _ _ _ _ _ _ _ (by kernel_rfl)
@[go_sem ↓] theorem v86_1:Fin (evC ctx O P k WC s q) Q=GU WC ctx P s q Q ⟨⟩ ⟨⟩:=AU _ _ _ _ _ _ _ (by kernel_rfl)
@[go_sem ↓] theorem v87_1:Fin (evC ctx O P k WB s q) Q=GU WB ctx P s q Q ⟨⟩ ⟨⟩:=AU _ _ _ _ _ _ _ (by kernel_rfl)
@[go_sem ↓] theorem v88_1:Fin (evC ctx O P k WA s q) Q=GU WA ctx P s q Q ⟨⟩ ⟨⟩:=AU _ _ _ _ _ _ _ (by kernel_rfl)
@[go_sem ↓] theorem v90_1:Fin (evC ctx O P k Wz s q) Q=GU Wz ctx P s q Q ⟨⟩ ⟨⟩:=AU _ _ _ _ _ _ _ (by kernel_rfl)
@[go_sem ↓] theorem v91_1:Fin (evC ctx O P k Wy s q) Q=GU Wy ctx P s q Q ⟨⟩ ⟨⟩:=AU _ _ _ _ _ _ _ (by kernel_rfl)
@[go_sem ↓] theorem v105_1:Fin (evC ctx O P k Rx s q) Q=GU Rx ctx P s q Q ⟨⟩ ⟨⟩:=AU _ _ _ _ _ _ _ (by kernel_rfl)
@[go_sem ↓] theorem v106_1:Fin (evC ctx O P k Rw s q) Q=GU Rw ctx P s q Q ⟨⟩ ⟨⟩:=AU _ _ _ _ _ _ _ (by kernel_rfl)
@[go_sem ↓] theorem v108_1:Fin (evC ctx O P k Rv s q) Q=GU Rv ctx P s q Q ⟨⟩ ⟨⟩:=AU _ _ _ _ _ _ _ (by kernel_rfl)
@[go_sem ↓] theorem v111_1:Fin (evC ctx O P k Ru s q) Q=GU Ru ctx P s q Q ⟨⟩ ⟨⟩:=AU _ _ _ _ _ _ _ (by kernel_rfl)
@[go_sem ↓] theorem v114_1:Fin (evC ctx O P k Rt s q) Q=GU Rt ctx P s q Q ⟨⟩ ⟨⟩:=AU _ _ _ _ _ _ _ (by kernel_rfl)
@[go_sem ↓] theorem v114_2:Fin (evC ctx O P k Rr s q) Q=GU Rr ctx P s q Q ⟨⟩ ⟨⟩:=AU _ _ _ _ _ _ _ (by kernel_rfl)
@[go_sem ↓] theorem v115_1:Fin (evC ctx O P k Rq s q) Q=GU Rq ctx P s q Q ⟨⟩ ⟨⟩:=AU _ _ _ _ _ _ _ (by kernel_rfl)
@[go_sem ↓] theorem v124_1:Fin (evC ctx O P k Rp s q) Q=GU Rp ctx P s q Q ⟨⟩ ⟨⟩:=AU _ _ _ _ _ _ _ (by kernel_rfl)
@[go_sem ↓] theorem v124_2:Fin (evC ctx O P k Ro s q) Q=GU Ro ctx P s q Q ⟨⟩ ⟨⟩:=AU _ _ _ _ _ _ _ (by kernel_rfl)
@[go_sem ↓] theorem v125_1:Fin (evC ctx O P k Rn s q) Q=GU Rn ctx P s q Q ⟨⟩ ⟨⟩:=AU _ _ _ _ _ _ _ (by kernel_rfl)
@[go_sem ↓] theorem v125_2:Fin (evC ctx O P k Rm s q) Q=GU Rm ctx P s q Q ⟨⟩ ⟨⟩:=AU _ _ _ _ _ _ _ (by kernel_rfl)
@[go_sem ↓] theorem v125_3:Fin (evC ctx O P k Rl s q) Q=GU Rl ctx P s q Q ⟨⟩ ⟨⟩:=AU _ _ _ _ _ _ _ (by kernel_rfl)
@[go_sem ↓] theorem v125_4:Fin (evC ctx O P k Rk s q) Q=GU Rk ctx P s q Q ⟨⟩ ⟨⟩:=AU _ _ _ _ _ _ _ (by kernel_rfl)
@[go_sem ↓] theorem v125_5:Fin (evC ctx O P k Rj s q) Q=GU Rj ctx P s q Q ⟨⟩ ⟨⟩:=AU _ _ _ _ _ _ _ (by kernel_rfl)
@[go_sem ↓] theorem v126_1:Fin (evC ctx O P k Ri s q) Q=GU Ri ctx P s q Q ⟨⟩ ⟨⟩:=AU _ _ _ _ _ _ _ (by kernel_rfl)
@[go_sem ↓] theorem v127_1:Fin (evC ctx O P k Rh s q) Q=GU Rh ctx P s q Q ⟨⟩ ⟨⟩:=AU _ _ _ _ _ _ _ (by kernel_rfl)
@[go_sem ↓] theorem v128_1:Fin (evC ctx O P k Rg s q) Q=GU Rg ctx P s q Q ⟨⟩ ⟨⟩:=AU _ _ _ _ _ _ _ (by kernel_rfl)
@[go_sem ↓] theorem v128_2:Fin (evC ctx O P k Rf s q) Q=GU Rf ctx P s q Q ⟨⟩ ⟨⟩:=AU _ _ _ _ _ _ _ (by kernel_rfl)
@[go_sem ↓] theorem v128_3:Fin (evC ctx O P k Re s q) Q=GU Re ctx P s q Q ⟨⟩ ⟨⟩:=AU _ _ _ _ _ _ _ (by kernel_rfl)
@[go_sem ↓] theorem v128_4:Fin (evC ctx O P k Rc s q) Q=GU Rc ctx P s q Q ⟨⟩ ⟨⟩:=AU _ _ _ _ _ _ _ (by kernel_rfl)
@[go_sem ↓] theorem v128_5:Fin (evC ctx O P k Rb s q) Q=GU Rb ctx P s q Q ⟨⟩ ⟨⟩:=AU _ _ _ _ _ _ _ (by kernel_rfl)
@[go_sem ↓] theorem v129_1:Fin (evC ctx O P k Ra s q) Q=GU Ra ctx P s q Q ⟨⟩ ⟨⟩:=AU _ _ _ _ _ _ _ (by kernel_rfl)
@[go_sem ↓] theorem v131_1:Fin (evC ctx O P k QZ s q) Q=GU QZ ctx P s q Q ⟨⟩ ⟨⟩:=AU _ _ _ _ _ _ _ (by kernel_rfl)
@[go_sem ↓] theorem v135_1:Fin (evC ctx O P k QY s q) Q=GU QY ctx P s q Q ⟨⟩ ⟨⟩:=AU _ _ _ _ _ _ _ (by kernel_rfl)
@[go_sem ↓] theorem v135_2:Fin (evC ctx O P k QX s q) Q=GU QX ctx P s q Q ⟨⟩ ⟨⟩:=AU _ _ _ _ _ _ _ (by kernel_rfl)
@[go_sem ↓] theorem v147_1:Fin (evC ctx O P k QW s q) Q=GU QW ctx P s q Q ⟨⟩ ⟨⟩:=AU _ _ _ _ _ _ _ (by kernel_rfl)
@[go_sem ↓] theorem v148_1:Fin (evC ctx O P k QV s q) Q=GU QV ctx P s q Q ⟨⟩ ⟨⟩:=AU _ _ _ _ _ _ _ (by kernel_rfl)
@[go_sem ↓] theorem v159_1:Fin (evC ctx O P k QU s q) Q=GU QU ctx P s q Q ⟨⟩ ⟨⟩:=AU _ _ _ _ _ _ _ (by kernel_rfl)
@[go_sem ↓] theorem v161_1:Fin (evC ctx O P k QT s q) Q=GU QT ctx P s q Q ⟨⟩ ⟨⟩:=AU _ _ _ _ _ _ _ (by kernel_rfl)
@[go_sem ↓] theorem v161_2:Fin (evC ctx O P k QS s q) Q=GU QS ctx P s q Q ⟨⟩ ⟨⟩:=AU _ _ _ _ _ _ _ (by kernel_rfl)
@[go_sem ↓] theorem v161_3:Fin (evC ctx O P k QR s q) Q=GU QR ctx P s q Q ⟨⟩ ⟨⟩:=AU _ _ _ _ _ _ _ (by kernel_rfl)
@[go_sem ↓] theorem v163_1:Fin (evC ctx O P k QQ s q) Q=GU QQ ctx P s q Q ⟨⟩ ⟨⟩:=AU _ _ _ _ _ _ _ (by kernel_rfl)
@[go_sem ↓] theorem v163_2:Fin (evC ctx O P k QO s q) Q=GU QO ctx P s q Q ⟨⟩ ⟨⟩:=AU _ _ _ _ _ _ _ (by kernel_rfl)
@[go_sem ↓] theorem v163_3:Fin (evC ctx O P k QN s q) Q=GU QN ctx P s q Q ⟨⟩ ⟨⟩:=AU _ _ _ _ _ _ _ (by kernel_rfl)
@[go_sem ↓] theorem v163_4:Fin (evC ctx O P k QM s q) Q=GU QM ctx P s q Q ⟨⟩ ⟨⟩:=AU _ _ _ _ _ _ _ (by kernel_rfl)
@[go_sem ↓] theorem v167_1:Fin (evC ctx O P k QL s q) Q=GU QL ctx P s q Q ⟨⟩ ⟨⟩:=AU _ _ _ _ _ _ _ (by kernel_rfl)
@[go_sem ↓] theorem v168_1:Fin (evC ctx O P k QK s q) Q=GU QK ctx P s q Q ⟨⟩ ⟨⟩:=AU _ _ _ _ _ _ _ (by kernel_rfl)
@[go_sem ↓] theorem v170_1:Fin (evC ctx O P k QJ s q) Q=GU QJ ctx P s q Q ⟨⟩ ⟨⟩:=AU _ _ _ _ _ _ _ (by kernel_rfl)
@[go_sem ↓] theorem v187_1:Fin (evC ctx O P k QI s q) Q=GU QI ctx P s q Q ⟨⟩ ⟨⟩:=AU _ _ _ _ _ _ _ (by kernel_rfl)
@[go_sem ↓] theorem v187_2:Fin (evC ctx O P k QH s q) Q=GU QH ctx P s q Q ⟨⟩ ⟨⟩:=AU _ _ _ _ _ _ _ (by kernel_rfl)
@[go_sem ↓] theorem v187_3:Fin (evC ctx O P k QG s q) Q=GU QG ctx P s q Q ⟨⟩ ⟨⟩:=AU _ _ _ _ _ _ _ (by kernel_rfl)
@[go_sem ↓] theorem v187_4:Fin (evC ctx O P k QF s q) Q=GU QF ctx P s q Q ⟨⟩ ⟨⟩:=AU _ _ _ _ _ _ _ (by kernel_rfl)
@[go_sem ↓] theorem v187_5:Fin (evC ctx O P k QE s q) Q=GU QE ctx P s q Q ⟨⟩ ⟨⟩:=AU _ _ _ _ _ _ _ (by kernel_rfl)
@[go_sem ↓] theorem v187_6:Fin (evC ctx O P k QD s q) Q=GU QD ctx P s q Q ⟨⟩ ⟨⟩:=AU _ _ _ _ _ _ _ (by kernel_rfl)
@[go_sem ↓] theorem v190_1:Fin (evC ctx O P k QC s q) Q=GU QC ctx P s q Q ⟨⟩ ⟨⟩:=AU _ _ _ _ _ _ _ (by kernel_rfl)
@[go_sem ↓] theorem v191_1:Fin (evC ctx O P k QB s q) Q=GU QB ctx P s q Q ⟨⟩ ⟨⟩:=AU _ _ _ _ _ _ _ (by kernel_rfl)
@[go_sem ↓] theorem v201_1:Fin (evC ctx O P k QA s q) Q=GU QA ctx P s q Q ⟨⟩ ⟨⟩:=AU _ _ _ _ _ _ _ (by kernel_rfl)
@[go_sem ↓] theorem v201_2:Fin (evC ctx O P k Qz s q) Q=GU Qz ctx P s q Q ⟨⟩ ⟨⟩:=AU _ _ _ _ _ _ _ (by kernel_rfl)
@[go_sem ↓] theorem v202_1:Fin (evC ctx O P k Qy s q) Q=GU Qy ctx P s q Q ⟨⟩ ⟨⟩:=AU _ _ _ _ _ _ _ (by kernel_rfl)
@[go_sem ↓] theorem v202_2:Fin (evC ctx O P k Qx s q) Q=GU Qx ctx P s q Q ⟨⟩ ⟨⟩:=AU _ _ _ _ _ _ _ (by kernel_rfl)
@[go_sem ↓] theorem v206_1:Fin (evC ctx O P k Qw s q) Q=GU Qw ctx P s q Q ⟨⟩ ⟨⟩:=AU _ _ _ _ _ _ _ (by kernel_rfl)
end
attribute [go_sem] nF nE Xu Xt Xs Xr Xq Xp Xo Xn Xm Xl Xk Xj Xi Xh Xg Xf Xe Xd Xc Xb Xa WZ WY WX WW WV WU WT WS WR WQ WP WO WN WM WL WK WJ WI WH WG WE WD WC WB WA Wz Wy Rx Rw Rv Ru Rt Rr Rq Rp Ro Rn Rm Rl Rk Rj Ri Rh Rg Rf Re Rc Rb Ra QZ QY QX QW QV QU QT QS QR QQ QO QN QM QL QK QJ QI QH QG QF QE QD QC QB QA Qz Qy Qx Qw
end Ve
