/- The tables: made by my program. -/
import Derived.Test.YthllnfkddiaokaaGreatVeM
import Derived.Test.YthllnfkddiaokaaGreatVeN
import Derived.KernelRfl
set_option linter.all false
set_option linter.unusedSectionVars false
namespace Ve
open Go Ve.Ab
abbrev iZ:V:=.lit (.int .i64 0)
def y1:TI:=⟨1,8,.lit .nilFunc,.scalar,false,none,false,[]⟩
def y2:TI:=⟨1,8,iZ,.scalar,false,some .i64,false,[]⟩
def y3:TI:=⟨1,8,iZ,.scalar,false,some .i64,false,[]⟩
def y4:TI:=⟨1,1,.lit (.bool false),.scalar,false,none,true,[]⟩
def y5:TI:=⟨1,1,.lit (.int .u8 0),.scalar,false,some .u8,false,[]⟩
def y6:TI:=⟨1,1,.lit (.int .u8 0),.scalar,false,some .u8,false,[]⟩
def y7:TI:=⟨4,24,.agg [iZ,iZ,.lit (.bool false),.lit (.int .u8 0)],.struct [(0,1),(1,1),(2,1),(3,1)],false,none,false,[2,3,4,6]⟩
def y8:TI:=⟨4,24,.agg [iZ,iZ,.lit (.bool false),.lit (.int .u8 0)],.struct [(0,1),(1,1),(2,1),(3,1)],false,none,false,[2,3,4,6]⟩
def y9:TI:=⟨1,16,.lit (.string ⟨#[]⟩),.scalar,false,none,false,[]⟩
def y10:TI:=⟨1,16,.lit (.string ⟨#[]⟩),.scalar,false,none,false,[]⟩
def y11:TI:=⟨1,16,.lit (.string ⟨#[]⟩),.scalar,false,none,false,[]⟩
def y12:TI:=⟨1,8,.lit (.int .u64 0),.scalar,false,some .u64,false,[]⟩
def y13:TI:=⟨2,24,.agg [.lit (.string ⟨#[]⟩),.lit (.int .u64 0)],.struct [(0,1),(1,1)],false,none,false,[9,12]⟩
def y22:TI:=⟨1,24,.own 1 [],.sl 3,false,none,false,[]⟩
def y23:TI:=⟨4,96,.agg [.own 1 [],.own 1 [],.own 1 [],.own 1 []],.arr 4 22,false,none,false,[]⟩
def y24:TI:=⟨1,24,.own 4 [],.sl 53,false,none,false,[]⟩
def y25:TI:=⟨1,24,.own 2 [],.sl 44,false,none,false,[]⟩
def y27:TI:=⟨7,152,.agg [.own 1 [],.own 1 [],.own 1 [],.own 1 [],iZ,.own 4 [],.own 2 []],.struct [(0,4),(4,1),(5,1),(6,1)],false,none,false,[23,3,24,25]⟩
def y29:TI:=⟨1,24,.own 3 [],.sl 55,false,none,false,[]⟩
def y30:TI:=⟨4,96,.agg [.own 3 [],.own 3 [],.own 3 [],.own 3 []],.arr 4 29,false,none,false,[]⟩
def y31:TI:=⟨4,32,.agg [iZ,iZ,iZ,iZ],.arr 4 3,true,none,false,[]⟩
def y32:TI:=⟨1,24,.own 17 [],.sl 49,false,none,false,[]⟩
def y33:TI:=⟨1,24,.own 4 [],.sl 67,false,none,false,[]⟩
def y35:TI:=⟨11,184,.agg [.own 3 [],.own 3 [],.own 3 [],.own 3 [],iZ,iZ,iZ,iZ,iZ,.own 17 [],.own 4 []],.struct [(0,4),(4,4),(8,1),(9,1),(10,1)],false,none,false,[30,31,3,32,33]⟩
def y36:TI:=⟨1,8,iZ,.scalar,false,some .i64,false,[]⟩
def y44:TI:=⟨2,16,.agg [iZ,iZ],.struct [(0,1),(1,1)],true,none,false,[3,3]⟩
def y45:TI:=⟨1,24,.own 4 [],.sl 99,false,none,false,[]⟩
def y46:TI:=⟨1,24,.own 3 [],.sl 106,false,none,false,[]⟩
def y47:TI:=⟨1,24,.own 3 [],.sl 162,false,none,false,[]⟩
def y49:TI:=⟨17,184,.agg [iZ,iZ,iZ,.own 4 [],iZ,iZ,iZ,iZ,iZ,iZ,.own 3 [],.own 3 [],iZ,iZ,iZ,iZ,iZ],.struct [(0,1),(1,1),(2,1),(3,1),(4,1),(5,1),(6,4),(10,1),(11,1),(12,1),(13,1),(14,1),(15,1),(16,1)],false,none,false,[3,3,3,45,3,3,31,46,47,3,3,3,3,3]⟩
def y53:TI:=⟨4,48,.agg [iZ,iZ,iZ,.own 4 []],.struct [(0,1),(1,1),(2,1),(3,1)],false,none,false,[3,3,3,45]⟩
def y55:TI:=⟨3,24,.agg [iZ,iZ,iZ],.struct [(0,1),(1,1),(2,1)],true,none,false,[3,3,3]⟩
def y62:TI:=⟨1,8,.lit (.int .u64 0),.scalar,false,some .u64,false,[]⟩
def y67:TI:=⟨4,32,.agg [iZ,iZ,iZ,iZ],.struct [(0,1),(1,1),(2,1),(3,1)],true,none,false,[3,3,3,3]⟩
def y94:TI:=⟨1,8,.lit .nilFunc,.scalar,false,none,false,[]⟩
def y99:TI:=⟨4,32,.agg [iZ,iZ,iZ,iZ],.struct [(0,1),(1,1),(2,1),(3,1)],true,none,false,[3,3,3,3]⟩
def fY:TI:=⟨3,24,.agg [iZ,iZ,iZ],.struct [(0,1),(1,1),(2,1)],true,none,false,[3,3,3]⟩
def qB:TI:=⟨1,8,.lit (.pointer none),.scalar,false,none,false,[]⟩
def qA:TI:=⟨12,192,.agg [.own 3 [],.own 3 [],.own 3 [],.own 3 [],iZ,iZ,iZ,iZ,iZ,.own 17 [],.own 4 [],iZ],.struct [(0,11),(11,1)],false,none,false,[35,3]⟩
def pZ:TI:=⟨1,8,.lit (.pointer none),.scalar,false,none,false,[]⟩
def pY:TI:=⟨1,8,.lit .nilFunc,.scalar,false,none,false,[]⟩
def pX:TI:=⟨1,8,.lit .nilFunc,.scalar,false,none,false,[]⟩
def pW:TI:=⟨1,8,.lit .nilFunc,.scalar,false,none,false,[]⟩
def pV:TI:=⟨1,8,.lit (.pointer none),.scalar,false,none,false,[]⟩
def pU:TI:=⟨1,8,.agg [.lit (.pointer none)],.struct [(0,1)],false,none,false,[122]⟩
def pT:TI:=⟨1,8,.lit .nilFunc,.scalar,false,none,false,[]⟩
def pS:TI:=⟨1,8,.lit .nilFunc,.scalar,false,none,false,[]⟩
def pR:TI:=⟨1,8,.lit .nilFunc,.scalar,false,none,false,[]⟩
def pQ:TI:=⟨1,8,.lit .nilFunc,.scalar,false,none,false,[]⟩
def aQ:TI:=⟨3,24,.agg [iZ,iZ,iZ],.struct [(0,1),(1,1),(2,1)],true,none,false,[3,3,3]⟩
def pP:TI:=⟨1,8,.lit .nilFunc,.scalar,false,none,false,[]⟩
def pN:TI:=⟨1,8,.lit (.pointer none),.scalar,false,none,false,[]⟩
def pM:TI:=⟨1,8,.lit .nilFunc,.scalar,false,none,false,[]⟩
def pL:TI:=⟨1,8,.lit .nilFunc,.scalar,false,none,false,[]⟩
def pK:TI:=⟨1,8,.lit .nilFunc,.scalar,false,none,false,[]⟩
def pJ:TI:=⟨1,8,.lit .nilFunc,.scalar,false,none,false,[]⟩
def pI:TI:=⟨1,16,.lit (.complex .f64 0 0),.scalar,false,none,false,[]⟩
def pH:TI:=⟨1,8,.lit (.float .f64 0),.scalar,false,none,false,[]⟩
def layL:List (Nat × TI):=[(1,y1),(2,y2),(3,y3),(4,y4),(5,y5),(6,y6),(7,y7),(8,y8),(9,y9),(10,y10),(11,y11),(12,y12),(13,y13),(22,y22),(23,y23),(24,y24),(25,y25),(27,y27),(29,y29),(30,y30),(31,y31),(32,y32),(33,y33),(35,y35),(36,y36),(44,y44),(45,y45),(46,y46),(47,y47),(49,y49),(53,y53),(55,y55),(62,y62),(67,y67),(94,y94),(99,y99),(106,fY),(111,qB),(113,qA),(116,pZ),(118,pY),(119,pX),(121,pW),(122,pV),(124,pU),(128,pT),(130,pS),(132,pR),(134,pQ),(162,aQ),(163,pP),(165,pN),(169,pM),(171,pL),(173,pK),(202,pJ),(229,pI),(230,pH)]
def lay:Lay:=lk layL
def c3_1:IR:=(S (S (R [z 41 (mv 6),z 42 (bo .lss (t 41) (n 4))])
(.cond (t 42)
.skip
(.exit 0 [1,3,5])))
(S (.block 1 (R [z 45 (mv 6),z 46 (.buildSlice 22 0 #[]),z 47 (mv 6),z 48 (fa 27 1 0),o 49 (ia 23 48 47),o 50 (ld 22 49),z 51 (.call { callee:=(.builtin .append),args:=#[(.tmp 46),(.tmp 50)],argTypes:=#[22,22] }),o 52 (ia 23 5 45),⟨none,st 22 52 51,none,true⟩]))
(R [z 43 (mv 6),z 44 (bo .add (t 43) (n 1)),z 6 (av 44)])))
def wN:IR:=D [o 61 (ld 35 3),z 62 (fa 27 1 3),o 63 (ld 25 62),z 64 (mv 8),o 65 (ia 25 63 64),o 66 (ld 44 65),z 67 (cl 20 #[(t 61),(t 66)] #[35,44]),z 60 (mv 67),z 68 (xt 60 0),z 69 (xt 60 1),z 9 (al 35),⟨none,st 35 9 68,none,true⟩,z 10 (av 69)] [[],[],[1],[],[2,3],[4],[0,5],[6],[7],[7],[],[10,8,6,0,1,2,3,4,5,6,7,8,10],[9,11,0,1,2,3,4,5,6,7,8,9,10,11]]
def wM:IR:=D [z 98 (fa 35 3 3),o 99 (ld 32 98),z 100 (mv 11),o 101 (ia 32 99 100),o 102 (ld 49 101),z 103 (fa 35 9 3),o 104 (ld 32 103),z 105 (mv 11),o 106 (ia 32 104 105),o 107 (ld 49 106),z 12 (al 49),z 13 (al 49),⟨none,st 49 12 102,none,true⟩,⟨none,st 49 13 107,none,true⟩] [[],[0],[],[1,2],[3],[],[5],[],[6,7],[8],[],[],[10,4,0,1,2,3,4,10,11],[11,9,12,0,1,2,3,4,5,6,7,8,9,10,11,12]]
def wL:IR:=D [o 127 (ld 23 5),z 128 (fa 27 1 2),o 129 (ld 24 128),z 130 (mv 11),o 131 (ia 24 129 130),z 132 (fa 53 131 3),o 133 (ld 45 132),o 134 (cl 21 #[(t 127),(t 133)] #[23,45]),z 126 (mv 134),z 135 (xt 126 0),z 136 (xt 126 1),z 14 (al 23),⟨none,st 23 14 135,none,true⟩,z 15 (av 136)] [[],[],[1],[],[2,3],[4],[5],[0,6],[7],[8],[8],[],[11,9,7,0,1,2,3,4,5,6,7,8,9,11],[10,12,0,1,2,3,4,5,6,7,8,9,10,11,12]]
def c3_2:IR:=(S (S (R [z 91 (mv 11),z 92 (fa 35 9 3),o 93 (ld 32 92),z 94 (len 93 32),z 95 (bo .lss (t 91) (t 94))])
(.cond (t 95)
.skip
(.exit 4 [1,3,5,7,8,9])))
(S (.block 5 (S wM
(S (S (R [z 108 (fa 49 12 4),o 109 (ld 3 108),z 110 (bo .eql (t 109) (n 3)),z 111 (mv 110),zT 112 (fa 49 13 4) 111,oT 113 (ld 3 112) 111,zT 114 (bo .eql (t 113) (n 4)) 111,zT 115 (mv 114) 111,zF 116 (fa 49 13 4) 115,oF 117 (ld 3 116) 115,zF 118 (bo .eql (t 117) (n 6)) 115,zF 119 (mv 118) 115,zT 120 (fa 49 13 12) 119,oT 121 (ld 3 120) 119,zT 122 (bo .eql (t 121) (n 1)) 119,zF 123 (.pick (.tmp 119) (.tmp 122) (.const (.bool false))) 115,zT 124 (.pick (.tmp 115) (.const (.bool true)) (.tmp 123)) 111,z 125 (.pick (.tmp 111) (.tmp 124) (.const (.bool false)))])
(.cond (t 125)
(S wL
(S (S (R [z 137 (mv 15),z 138 (.unOp .not 4 (.tmp 137))])
(.cond (t 138)
(S (R [z 2 (ab false)])
(.ret [2]))
.skip))
(R [o 139 (ld 23 14),⟨none,st 23 5 139,none,true⟩])))
.skip))
(S (R [z 140 (fa 49 13 4),o 141 (ld 3 140),z 142 (bo .eql (t 141) (n 4))])
(.cond (t 142)
(R [z 143 (mv 7),z 144 (bo .add (t 143) (n 1)),z 7 (av 144)])
.skip)))))
(R [z 96 (mv 11),z 97 (bo .add (t 96) (n 1)),z 11 (av 97)])))
def c3_3:IR:=(S (S (R [z 53 (mv 8),z 54 (fa 27 1 3),o 55 (ld 25 54),z 56 (len 55 25),z 57 (bo .lss (t 53) (t 56))])
(.cond (t 57)
.skip
(.exit 2 [3,5,7])))
(S (.block 3 (S wN
(S (S (R [z 70 (mv 10),z 71 (cl 17 #[(t 70)] #[36]),z 72 (bo .neq (t 71) (n 0)),z 73 (mv 72),zF 74 (fa 35 9 3) 73,oF 75 (ld 32 74) 73,zF 76 (len 75 32) 73,zF 77 (fa 27 1 2) 73,oF 78 (ld 24 77) 73,zF 79 (len 78 24) 73,zF 80 (bo .neq (t 76) (t 79)) 73,z 81 (.pick (.tmp 73) (.const (.bool true)) (.tmp 80)),z 82 (mv 81),zF 83 (fa 35 3 3) 82,oF 84 (ld 32 83) 82,zF 85 (len 84 32) 82,zF 86 (fa 27 1 2) 82,oF 87 (ld 24 86) 82,zF 88 (len 87 24) 82,zF 89 (bo .neq (t 85) (t 88)) 82,z 90 (.pick (.tmp 82) (.const (.bool true)) (.tmp 89))])
(.cond (t 90)
(S (R [z 2 (ab false)])
(.ret [2]))
.skip))
(S (R [z 7 (an 0)])
(S (S (R [z 11 (an 0)])
(.block 4 (.loop [1,3,5,7,8,9,11] c3_2)))
(R [o 145 (ld 35 9),⟨none,st 35 3 145,none,true⟩]))))))
(R [z 58 (mv 8),z 59 (bo .add (t 58) (n 1)),z 8 (av 59)])))
def wK:IR:=D [z 154 (mv 16),z 155 (fa 35 3 0),o 156 (ia 30 155 154),o 157 (ld 29 156),z 158 (len 157 29),z 159 (mv 16),o 160 (ia 23 5 159),o 161 (ld 22 160),z 162 (len 161 22),z 163 (bo .neq (t 158) (t 162))] [[],[],[1,0],[2],[3],[],[5],[6],[7],[4,8]]
def wJ:IR:=D [z 172 (mv 16),z 173 (fa 35 3 0),o 174 (ia 30 173 172),o 175 (ld 29 174),z 176 (mv 17),o 177 (ia 29 175 176),z 178 (fa 55 177 0),o 179 (ld 3 178),z 180 (mv 16),o 181 (ia 23 5 180),o 182 (ld 22 181),z 183 (mv 17),o 184 (ia 22 182 183),o 185 (ld 3 184),z 186 (bo .neq (t 179) (t 185))] [[],[],[1,0],[2],[],[3,4],[5],[6],[],[8],[9],[],[10,11],[12],[7,13]]
def c3_4:IR:=(S (S (R [z 164 (mv 17),z 165 (mv 16),o 166 (ia 23 5 165),o 167 (ld 22 166),z 168 (len 167 22),z 169 (bo .lss (t 164) (t 168))])
(.cond (t 169)
.skip
(.exit 8 [3,5,7,16])))
(S (.block 9 (S wJ
(.cond (t 186)
(S (R [z 2 (ab false)])
(.ret [2]))
.skip)))
(R [z 170 (mv 17),z 171 (bo .add (t 170) (n 1)),z 17 (av 171)])))
def c3_5:IR:=(S (S (R [z 146 (mv 16),z 147 (bo .lss (t 146) (n 4)),z 148 (mv 147),zT 149 (mv 7) 148,zT 150 (bo .eql (t 149) (n 0)) 148,z 151 (.pick (.tmp 148) (.tmp 150) (.const (.bool false)))])
(.cond (t 151)
.skip
(.exit 6 [])))
(S (.block 7 (S (S wK
(.cond (t 163)
(S (R [z 2 (ab false)])
(.ret [2]))
.skip))
(S (R [z 17 (an 0)])
(.block 8 (.loop [3,5,7,16,17] c3_4)))))
(R [z 152 (mv 16),z 153 (bo .add (t 152) (n 1)),z 16 (av 153)])))
def c3:IR:=(S (R [z 1 (bx 27 0),z 2 (ab false)])
(S (S (R [z 18 (cl 15 #[] #[]),z 19 (.unOp .not 4 (.tmp 18))])
(.cond (t 19)
(S (R [z 2 (ab false)])
(.ret [2]))
.skip))
(S (R [o 21 (ld 27 1),z 22 (cl 16 #[(t 21)] #[27]),z 20 (mv 22),z 23 (xt 20 0),z 24 (xt 20 1),z 3 (al 35),⟨none,st 35 3 23,none,true⟩,z 4 (av 24)])
(S (S (R [z 25 (mv 4),z 26 (cl 17 #[(t 25)] #[36]),z 27 (bo .neq (t 26) (n 0)),z 28 (mv 27),oF 29 (ld 27 1) 28,zF 30 (cl 18 #[(t 29)] #[27]) 28,zF 31 (.unOp .not 4 (.tmp 30)) 28,z 32 (.pick (.tmp 28) (.const (.bool true)) (.tmp 31))])
(.cond (t 32)
(S (R [o 33 (ld 35 3),z 34 (.build 35 #[]),z 35 (cl 19 #[(t 33),(t 34)] #[35,35]),z 36 (mv 35),oF 37 (ld 27 1) 36,zF 38 (cl 18 #[(t 37)] #[27]) 36,zF 39 (.unOp .not 4 (.tmp 38)) 36,z 40 (.pick (.tmp 36) (.const (.bool true)) (.tmp 39)),z 2 (av 40)])
(.ret [2]))
.skip))
(S (R [z 5 (al 23)])
(S (S (R [z 6 (an 0)])
(.block 0 (.loop [1,3,5,6] c3_1)))
(S (R [z 7 (an 0)])
(S (S (R [z 8 (an 0)])
(.block 2 (.loop [1,3,5,7,8] c3_3)))
(S (S (R [z 16 (an 0)])
(.block 6 (.loop [3,5,7,16] c3_5)))
(S (R [z 2 (ab true)])
(.ret [2])))))))))))
def g3:IFn:=⟨187,[.tmp 2],[4],c3,[],false,none⟩
def wI:IR:=D [o 47 (ld 35 3),z 48 (fa 27 1 3),o 49 (ld 25 48),z 50 (mv 5),o 51 (ia 25 49 50),o 52 (ld 44 51),z 53 (cl 22 #[(t 47),(t 52)] #[35,44]),z 46 (mv 53),z 54 (xt 46 0),z 55 (xt 46 1),z 56 (xt 46 2),z 6 (av 54),z 7 (av 55),z 8 (av 56)] [[],[],[1],[],[2,3],[4],[0,5],[6],[7],[7],[7],[8,6,0,1,2,3,4,5,6,7,8],[9,11,0,1,2,3,4,5,6,7,8,9,11],[10,12,0,1,2,3,4,5,6,7,8,9,10,11,12]]
def wH:IR:=D [o 58 (ld 35 3),z 59 (fa 27 1 3),o 60 (ld 25 59),z 61 (mv 5),o 62 (ia 25 60 61),o 63 (ld 44 62),z 64 (cl 20 #[(t 58),(t 63)] #[35,44]),z 57 (mv 64),z 65 (xt 57 0),z 66 (xt 57 1),z 9 (al 35),⟨none,st 35 9 65,none,true⟩,z 10 (av 66)] [[],[],[1],[],[2,3],[4],[0,5],[6],[7],[7],[],[10,8,6,0,1,2,3,4,5,6,7,8,10],[9,11,0,1,2,3,4,5,6,7,8,9,10,11]]
def wG:IR:=D [z 103 (mv 12),z 104 (fa 35 9 0),o 105 (ia 30 104 103),o 106 (ld 29 105),z 107 (len 106 29),z 108 (mv 12),z 109 (fa 35 3 0),o 110 (ia 30 109 108),o 111 (ld 29 110),z 112 (len 111 29),z 113 (bo .neq (t 107) (t 112))] [[],[],[1,0],[2],[3],[],[],[6,5],[7],[8],[4,9]]
def wF:IR:=D [z 123 (mv 12),z 124 (fa 35 3 0),o 125 (ia 30 124 123),o 126 (ld 29 125),z 127 (mv 13),o 128 (ia 29 126 127),o 129 (ld 55 128),z 130 (mv 12),z 131 (fa 35 9 0),o 132 (ia 30 131 130),o 133 (ld 29 132),z 134 (mv 13),o 135 (ia 29 133 134),o 136 (ld 55 135),z 14 (al 55),z 15 (al 55),⟨none,st 55 14 129,none,true⟩,⟨none,st 55 15 136,none,true⟩] [[],[],[1,0],[2],[],[3,4],[5],[],[],[8,7],[9],[],[10,11],[12],[],[],[14,6,0,1,2,3,4,5,6,14,15],[15,13,16,0,1,2,3,4,5,6,7,8,9,10,11,12,13,14,15,16]]
def Wl:IR:=(S (S (R [z 114 (mv 13),z 115 (mv 12),z 116 (fa 35 9 0),o 117 (ia 30 116 115),o 118 (ld 29 117),z 119 (len 118 29),z 120 (bo .lss (t 114) (t 119))])
(.cond (t 120)
.skip
(.exit 4 [1,3,5,9,11,12])))
(S (.block 5 (S wF
(S (S (R [z 137 (mv 11),z 138 (.unOp .not 4 (.tmp 137)),z 139 (mv 138),zT 140 (fa 55 14 0) 139,oT 141 (ld 3 140) 139,zT 142 (fa 55 15 0) 139,oT 143 (ld 3 142) 139,zT 144 (bo .neq (t 141) (t 143)) 139,zT 145 (mv 144) 139,zF 146 (fa 55 14 1) 145,oF 147 (ld 3 146) 145,zF 148 (fa 55 15 1) 145,oF 149 (ld 3 148) 145,zF 150 (bo .neq (t 147) (t 149)) 145,zT 151 (.pick (.tmp 145) (.const (.bool true)) (.tmp 150)) 139,z 152 (.pick (.tmp 139) (.tmp 151) (.const (.bool false))),z 153 (mv 152),zF 154 (fa 55 15 1) 153,oF 155 (ld 3 154) 153,zF 156 (fa 55 14 1) 153,oF 157 (ld 3 156) 153,zF 158 (bo .lss (t 155) (t 157)) 153,z 159 (.pick (.tmp 153) (.const (.bool true)) (.tmp 158))])
(.cond (t 159)
(S (R [z 2 (ab false)])
(.ret [2]))
.skip))
(S (R [z 160 (fa 55 15 2),o 161 (ld 3 160),z 162 (bo .neq (t 161) (n 0)),z 163 (mv 162),oT 164 (ld 35 9) 163,zT 165 (mv 12) 163,zT 166 (mv 13) 163,zT 167 (cl 23 #[(t 164),(t 165),(t 166)] #[35,3,3]) 163,zT 168 (.unOp .not 4 (.tmp 167)) 163,z 169 (.pick (.tmp 163) (.tmp 168) (.const (.bool false)))])
(.cond (t 169)
(S (R [z 2 (ab false)])
(.ret [2]))
.skip)))))
(R [z 121 (mv 13),z 122 (bo .add (t 121) (n 1)),z 13 (av 122)])))
def Wk:IR:=(S (S (R [z 99 (mv 12),z 100 (bo .lss (t 99) (n 4))])
(.cond (t 100)
.skip
(.exit 2 [1,3,5,9])))
(S (.block 3 (S (S wG
(.cond (t 113)
(S (R [z 2 (ab false)])
(.ret [2]))
.skip))
(S (R [z 13 (an 0)])
(.block 4 (.loop [1,3,5,9,11,12,13] Wl)))))
(R [z 101 (mv 12),z 102 (bo .add (t 101) (n 1)),z 12 (av 102)])))
def XZ:IR:=(S (S (R [z 39 (mv 5),z 40 (fa 27 1 3),o 41 (ld 25 40),z 42 (len 41 25),z 43 (bo .lss (t 39) (t 42))])
(.cond (t 43)
.skip
(.exit 0 [])))
(S (.block 1 (S wI
(S wH
(S (S (R [z 67 (mv 8),z 68 (cl 17 #[(t 67)] #[36]),z 69 (bo .neq (t 68) (n 0)),z 70 (mv 69),zF 71 (mv 10) 70,zF 72 (cl 17 #[(t 71)] #[36]) 70,zF 73 (bo .neq (t 72) (n 0)) 70,z 74 (.pick (.tmp 70) (.const (.bool true)) (.tmp 73)),z 75 (mv 74),zF 76 (mv 7) 75,zF 77 (mv 76) 75,zT 78 (mv 6) 77,zT 79 (bo .lss (t 78) (n 0)) 77,zT 80 (mv 79) 77,zF 81 (mv 6) 80,zF 82 (fa 35 3 3) 80,oF 83 (ld 32 82) 80,zF 84 (len 83 32) 80,zF 85 (bo .geq (t 81) (t 84)) 80,zT 86 (.pick (.tmp 80) (.const (.bool true)) (.tmp 85)) 77,zF 87 (.pick (.tmp 77) (.tmp 86) (.const (.bool false))) 75,z 88 (.pick (.tmp 75) (.const (.bool true)) (.tmp 87))])
(.cond (t 88)
(S (R [z 2 (ab false)])
(.ret [2]))
.skip))
(S (R [z 89 (mv 7),z 90 (mv 89),zT 91 (fa 35 3 3) 90,oT 92 (ld 32 91) 90,zT 93 (mv 6) 90,oT 94 (ia 32 92 93) 90,zT 95 (fa 49 94 4) 90,oT 96 (ld 3 95) 90,zT 97 (bo .eql (t 96) (n 4)) 90,z 98 (.pick (.tmp 90) (.tmp 97) (.const (.bool false))),z 11 (av 98)])
(S (S (R [z 12 (an 0)])
(.block 2 (.loop [1,3,5,9,11,12] Wk)))
(R [o 170 (ld 35 9),⟨none,st 35 3 170,none,true⟩])))))))
(R [z 44 (mv 5),z 45 (bo .add (t 44) (n 1)),z 5 (av 45)])))
def c4:IR:=(S (R [z 1 (bx 27 0),z 2 (ab false)])
(S (S (R [z 16 (cl 15 #[] #[]),z 17 (.unOp .not 4 (.tmp 16))])
(.cond (t 17)
(S (R [z 2 (ab false)])
(.ret [2]))
.skip))
(S (R [o 19 (ld 27 1),z 20 (cl 16 #[(t 19)] #[27]),z 18 (mv 20),z 21 (xt 18 0),z 22 (xt 18 1),z 3 (al 35),⟨none,st 35 3 21,none,true⟩,z 4 (av 22)])
(S (S (R [z 23 (mv 4),z 24 (cl 17 #[(t 23)] #[36]),z 25 (bo .neq (t 24) (n 0)),z 26 (mv 25),oF 27 (ld 27 1) 26,zF 28 (cl 18 #[(t 27)] #[27]) 26,zF 29 (.unOp .not 4 (.tmp 28)) 26,z 30 (.pick (.tmp 26) (.const (.bool true)) (.tmp 29))])
(.cond (t 30)
(S (R [o 31 (ld 35 3),z 32 (.build 35 #[]),z 33 (cl 19 #[(t 31),(t 32)] #[35,35]),z 34 (mv 33),oF 35 (ld 27 1) 34,zF 36 (cl 18 #[(t 35)] #[27]) 34,zF 37 (.unOp .not 4 (.tmp 36)) 34,z 38 (.pick (.tmp 34) (.const (.bool true)) (.tmp 37)),z 2 (av 38)])
(.ret [2]))
.skip))
(S (S (R [z 5 (an 0)])
(.block 0 (.loop [1,3,5] XZ)))
(S (R [z 2 (ab true)])
(.ret [2])))))))
def g4:IFn:=⟨171,[.tmp 2],[4],c4,[],false,none⟩
def wE:IR:=D [o 48 (ld 35 3),z 49 (fa 27 1 3),o 50 (ld 25 49),z 51 (mv 5),o 52 (ia 25 50 51),o 53 (ld 44 52),z 54 (cl 22 #[(t 48),(t 53)] #[35,44]),z 47 (mv 54),z 55 (xt 47 0),z 56 (xt 47 1),z 57 (xt 47 2),z 6 (av 55),z 7 (av 56),z 8 (av 57)] [[],[],[1],[],[2,3],[4],[0,5],[6],[7],[7],[7],[8,6,0,1,2,3,4,5,6,7,8],[9,11,0,1,2,3,4,5,6,7,8,9,11],[10,12,0,1,2,3,4,5,6,7,8,9,10,11,12]]
def wD:IR:=D [o 59 (ld 35 3),z 60 (fa 27 1 3),o 61 (ld 25 60),z 62 (mv 5),o 63 (ia 25 61 62),o 64 (ld 44 63),z 65 (cl 20 #[(t 59),(t 64)] #[35,44]),z 58 (mv 65),z 66 (xt 58 0),z 67 (xt 58 1),z 9 (al 35),⟨none,st 35 9 66,none,true⟩,z 10 (av 67)] [[],[],[1],[],[2,3],[4],[0,5],[6],[7],[7],[],[10,8,6,0,1,2,3,4,5,6,7,8,10],[9,11,0,1,2,3,4,5,6,7,8,9,10,11]]
def wC:IR:=D [z 106 (fa 35 3 3),o 107 (ld 32 106),z 108 (mv 11),o 109 (ia 32 107 108),o 110 (ld 49 109),z 111 (fa 35 9 3),o 112 (ld 32 111),z 113 (mv 11),o 114 (ia 32 112 113),o 115 (ld 49 114),z 12 (al 49),z 13 (al 49),⟨none,st 49 12 110,none,true⟩,⟨none,st 49 13 115,none,true⟩] [[],[0],[],[1,2],[3],[],[5],[],[6,7],[8],[],[],[10,4,0,1,2,3,4,10,11],[11,9,12,0,1,2,3,4,5,6,7,8,9,10,11,12]]
def Uc:IR:=(S (S (R [z 99 (mv 11),z 100 (fa 35 3 3),o 101 (ld 32 100),z 102 (len 101 32),z 103 (bo .lss (t 99) (t 102))])
(.cond (t 103)
.skip
(.exit 2 [1,3,5,9])))
(S (.block 3 (S wC
(S (S (R [z 116 (fa 49 12 4),o 117 (ld 3 116),z 118 (bo .neq (t 117) (n 5))])
(.cond (t 118)
(.exit 3 [1,3,5,6,7,9,11])
.skip))
(S (R [z 120 (fa 35 3 0),o 121 (ld 30 120),z 122 (fa 49 12 7),o 123 (ld 46 122),z 124 (cl 24 #[(t 121),(t 123)] #[30,46]),z 119 (mv 124),z 125 (xt 119 0),z 126 (xt 119 1),z 14 (av 125),z 15 (av 126)])
(S (R [z 127 (fa 49 13 4),o 128 (ld 3 127),z 129 (bo .eql (t 128) (n 0)),z 16 (av 129)])
(S (R [z 130 (mv 15),z 131 (bo .neq (t 130) (n 0)),z 132 (mv 131),zF 133 (mv 16) 132,zF 134 (mv 7) 132,zF 135 (mv 134) 132,zT 136 (mv 6) 135,zT 137 (mv 11) 135,zT 138 (bo .eql (t 136) (t 137)) 135,zF 139 (.pick (.tmp 135) (.tmp 138) (.const (.bool false))) 132,zF 140 (mv 139) 132,zT 141 (mv 14) 140,zF 142 (.pick (.tmp 140) (.tmp 141) (.const (.bool false))) 132,zF 143 (.binOp .neq 4 (.tmp 133) (.tmp 142) 4) 132,z 144 (.pick (.tmp 132) (.const (.bool true)) (.tmp 143)),z 145 (mv 144),zF 146 (mv 16) 145,zF 147 (.unOp .not 4 (.tmp 146)) 145,zF 148 (mv 147) 145,oT 149 (ld 49 12) 148,oT 150 (ld 49 13) 148,zT 151 (cl 25 #[(t 149),(t 150)] #[49,49]) 148,zT 152 (.unOp .not 4 (.tmp 151)) 148,zF 153 (.pick (.tmp 148) (.tmp 152) (.const (.bool false))) 145,z 154 (.pick (.tmp 145) (.const (.bool true)) (.tmp 153))])
(.cond (t 154)
(S (R [z 2 (ab false)])
(.ret [2]))
.skip)))))))
(R [z 104 (mv 11),z 105 (bo .add (t 104) (n 1)),z 11 (av 105)])))
def fE:IR:=(S (S (R [z 40 (mv 5),z 41 (fa 27 1 3),o 42 (ld 25 41),z 43 (len 42 25),z 44 (bo .lss (t 40) (t 43))])
(.cond (t 44)
.skip
(.exit 0 [])))
(S (.block 1 (S wE
(S wD
(S (S (R [z 68 (mv 8),z 69 (cl 17 #[(t 68)] #[36]),z 70 (bo .neq (t 69) (n 0)),z 71 (mv 70),zF 72 (mv 10) 71,zF 73 (cl 17 #[(t 72)] #[36]) 71,zF 74 (bo .neq (t 73) (n 0)) 71,z 75 (.pick (.tmp 71) (.const (.bool true)) (.tmp 74)),z 76 (mv 75),zF 77 (fa 35 9 3) 76,oF 78 (ld 32 77) 76,zF 79 (len 78 32) 76,zF 80 (fa 35 3 3) 76,oF 81 (ld 32 80) 76,zF 82 (len 81 32) 76,zF 83 (bo .neq (t 79) (t 82)) 76,z 84 (.pick (.tmp 76) (.const (.bool true)) (.tmp 83)),z 85 (mv 84),zF 86 (mv 7) 85,zF 87 (mv 86) 85,zT 88 (mv 6) 87,zT 89 (bo .lss (t 88) (n 0)) 87,zT 90 (mv 89) 87,zF 91 (mv 6) 90,zF 92 (fa 35 3 3) 90,oF 93 (ld 32 92) 90,zF 94 (len 93 32) 90,zF 95 (bo .geq (t 91) (t 94)) 90,zT 96 (.pick (.tmp 90) (.const (.bool true)) (.tmp 95)) 87,zF 97 (.pick (.tmp 87) (.tmp 96) (.const (.bool false))) 85,z 98 (.pick (.tmp 85) (.const (.bool true)) (.tmp 97))])
(.cond (t 98)
(S (R [z 2 (ab false)])
(.ret [2]))
.skip))
(S (S (R [z 11 (an 0)])
(.block 2 (.loop [1,3,5,6,7,9,11] Uc)))
(R [o 155 (ld 35 9),⟨none,st 35 3 155,none,true⟩]))))))
(R [z 45 (mv 5),z 46 (bo .add (t 45) (n 1)),z 5 (av 46)])))
def c5:IR:=(S (R [z 1 (bx 27 0),z 2 (ab false)])
(S (S (R [z 17 (cl 15 #[] #[]),z 18 (.unOp .not 4 (.tmp 17))])
(.cond (t 18)
(S (R [z 2 (ab false)])
(.ret [2]))
.skip))
(S (R [o 20 (ld 27 1),z 21 (cl 16 #[(t 20)] #[27]),z 19 (mv 21),z 22 (xt 19 0),z 23 (xt 19 1),z 3 (al 35),⟨none,st 35 3 22,none,true⟩,z 4 (av 23)])
(S (S (R [z 24 (mv 4),z 25 (cl 17 #[(t 24)] #[36]),z 26 (bo .neq (t 25) (n 0)),z 27 (mv 26),oF 28 (ld 27 1) 27,zF 29 (cl 18 #[(t 28)] #[27]) 27,zF 30 (.unOp .not 4 (.tmp 29)) 27,z 31 (.pick (.tmp 27) (.const (.bool true)) (.tmp 30))])
(.cond (t 31)
(S (R [o 32 (ld 35 3),z 33 (.build 35 #[]),z 34 (cl 19 #[(t 32),(t 33)] #[35,35]),z 35 (mv 34),oF 36 (ld 27 1) 35,zF 37 (cl 18 #[(t 36)] #[27]) 35,zF 38 (.unOp .not 4 (.tmp 37)) 35,z 39 (.pick (.tmp 35) (.const (.bool true)) (.tmp 38)),z 2 (av 39)])
(.ret [2]))
.skip))
(S (S (R [z 5 (an 0)])
(.block 0 (.loop [1,3,5] fE)))
(S (R [z 2 (ab true)])
(.ret [2])))))))
def g5:IFn:=⟨156,[.tmp 2],[4],c5,[],false,none⟩
def wB:IR:=D [z 44 (fa 35 5 3),o 45 (ld 32 44),z 46 (mv 7),o 47 (ia 32 45 46),z 48 (fa 49 47 3),o 49 (ld 45 48),z 50 (len 49 45),z 51 (bo .mul (n 2) (t 50)),z 52 (fa 35 5 3),o 53 (ld 32 52),z 54 (mv 7),o 55 (ia 32 53 54),z 56 (fa 49 55 3),o 57 (ld 45 56),z 58 (len 57 45),z 59 (bo .mul (n 2) (t 58)),z 60 (bo .add (t 51) (t 59)),z 61 (bo .add (t 60) (n 4)),z 8 (av 61)] [[],[0],[],[1,2],[3],[4],[5],[6],[],[8],[],[9,10],[11],[12],[13],[14],[7,15],[16],[17,0,1,2,3,4,5,6,7,8,9,10,11,12,13,14,15,16,17]]
def oK:IR:=(S (S (R [z 62 (mv 9),z 63 (mv 8),z 64 (bo .lss (t 62) (t 63))])
(.cond (t 64)
.skip
(.exit 0 [5,7])))
(S (.block 1 (S (R [o 68 (ld 35 5),z 69 (mv 7),z 70 (cl 26 #[(t 68),(t 69)] #[35,3]),z 67 (mv 70),z 71 (xt 67 0),z 72 (xt 67 1),z 10 (al 35),⟨none,st 35 10 71,none,true⟩,z 11 (av 72)])
(S (S (R [z 73 (mv 11),z 74 (cl 17 #[(t 73)] #[36]),z 75 (bo .neq (t 74) (n 0)),z 76 (mv 75),zF 77 (fa 35 10 3) 76,oF 78 (ld 32 77) 76,zF 79 (len 78 32) 76,zF 80 (fa 35 5 3) 76,oF 81 (ld 32 80) 76,zF 82 (len 81 32) 76,zF 83 (bo .neq (t 79) (t 82)) 76,z 84 (.pick (.tmp 76) (.const (.bool true)) (.tmp 83)),z 85 (mv 84),zF 86 (fa 35 10 3) 85,oF 87 (ld 32 86) 85,zF 88 (mv 7) 85,oF 89 (ia 32 87 88) 85,zF 90 (fa 49 89 11) 85,oF 91 (ld 3 90) 85,zF 92 (bo .neq (t 91) (n 0)) 85,z 93 (.pick (.tmp 85) (.const (.bool true)) (.tmp 92))])
(.cond (t 93)
(S (R [z 4 (ab false)])
(.ret [4]))
.skip))
(R [o 94 (ld 35 10),⟨none,st 35 5 94,none,true⟩]))))
(R [z 65 (mv 9),z 66 (bo .add (t 65) (n 1)),z 9 (av 66)])))
def c6:IR:=(S (R [z 2 (bx 27 0),z 4 (ab false)])
(S (S (R [z 12 (cl 15 #[] #[]),z 13 (.unOp .not 4 (.tmp 12))])
(.cond (t 13)
(S (R [z 4 (ab false)])
(.ret [4]))
.skip))
(S (R [o 15 (ld 27 2),z 16 (cl 16 #[(t 15)] #[27]),z 14 (mv 16),z 17 (xt 14 0),z 18 (xt 14 1),z 5 (al 35),⟨none,st 35 5 17,none,true⟩,z 6 (av 18)])
(S (S (R [z 19 (mv 6),z 20 (cl 17 #[(t 19)] #[36]),z 21 (bo .neq (t 20) (n 0)),z 22 (mv 21),zF 23 (fa 35 5 3) 22,oF 24 (ld 32 23) 22,zF 25 (len 24 32) 22,zF 26 (bo .eql (t 25) (n 0)) 22,z 27 (.pick (.tmp 22) (.const (.bool true)) (.tmp 26))])
(.cond (t 27)
(S (R [z 28 (mv 6),z 29 (cl 17 #[(t 28)] #[36]),z 30 (bo .eql (t 29) (n 0)),z 31 (mv 30),oF 32 (ld 35 5) 31,zF 33 (.build 35 #[]) 31,zF 34 (cl 19 #[(t 32),(t 33)] #[35,35]) 31,z 35 (.pick (.tmp 31) (.const (.bool true)) (.tmp 34)),z 4 (av 35)])
(.ret [4]))
.skip))
(S (R [z 36 (mv 1),z 37 (.convert 3 62 (.tmp 36)),z 38 (fa 35 5 3),o 39 (ld 32 38),z 40 (len 39 32),z 41 (.convert 3 62 (.tmp 40)),z 42 (.binOp .rem 62 (.tmp 37) (.tmp 41) 62),z 43 (.convert 62 3 (.tmp 42)),z 7 (av 43)])
(S wB
(S (S (R [z 9 (an 0)])
(.block 0 (.loop [5,7,8,9] oK)))
(S (R [z 95 (fa 35 5 3),o 96 (ld 32 95),z 97 (mv 7),o 98 (ia 32 96 97),z 99 (fa 49 98 4),o 100 (ld 3 99),z 101 (bo .eql (t 100) (n 6)),z 102 (mv 101),zF 103 (fa 35 5 3) 102,oF 104 (ld 32 103) 102,zF 105 (mv 7) 102,oF 106 (ia 32 104 105) 102,zF 107 (fa 49 106 4) 102,oF 108 (ld 3 107) 102,zF 109 (bo .eql (t 108) (n 5)) 102,z 110 (.pick (.tmp 102) (.const (.bool true)) (.tmp 109)),z 4 (av 110)])
(.ret [4])))))))))
def g6:IFn:=⟨111,[.tmp 4],[4],c6,[],false,none⟩
def wA:IR:=D [z 25 (mv 5),z 26 (fa 35 3 0),o 27 (ia 30 26 25),o 28 (ld 29 27),z 29 (len 28 29),z 30 (mv 5),z 31 (fa 27 1 0),o 32 (ia 23 31 30),o 33 (ld 22 32),z 34 (len 33 22),z 35 (bo .neq (t 29) (t 34)),z 36 (mv 35),zF 37 (mv 5) 36,zF 38 (fa 35 3 1) 36,oF 39 (ia 31 38 37) 36,oF 40 (ld 3 39) 36,zF 41 (fa 27 1 1) 36,oF 42 (ld 3 41) 36,zF 43 (bo .gtr (t 40) (t 42)) 36,z 44 (.pick (.tmp 36) (.const (.bool true)) (.tmp 43))] [[],[],[1,0],[2],[3],[],[],[6,5],[7],[8],[4,9],[10],[11],[11],[13,12,11],[14,11],[11],[16,11],[15,17,11],[11,18]]
def vZ:IR:=D [z 61 (fa 55 7 1),o 62 (ld 3 61),z 63 (mv 5),z 64 (fa 35 3 1),o 65 (ia 31 64 63),o 66 (ld 3 65),z 67 (bo .gtr (t 62) (t 66)),z 68 (mv 67),zF 69 (fa 55 7 1) 68,oF 70 (ld 3 69) 68,zF 71 (bo .eql (t 70) (n 0)) 68,zF 72 (mv 71) 68,zT 73 (fa 55 7 0) 72,oT 74 (ld 3 73) 72,zT 75 (mv 5) 72,zT 76 (fa 27 1 0) 72,oT 77 (ia 23 76 75) 72,oT 78 (ld 22 77) 72,zT 79 (mv 6) 72,oT 80 (ia 22 78 79) 72,oT 81 (ld 3 80) 72,zT 82 (bo .neq (t 74) (t 81)) 72,zF 83 (.pick (.tmp 72) (.tmp 82) (.const (.bool false))) 68,z 84 (.pick (.tmp 68) (.const (.bool true)) (.tmp 83))] [[],[0],[],[],[3,2],[4],[1,5],[6],[7],[8,7],[9,7],[10,7,7],[11],[12,11],[11],[11],[15,14,11],[16,11],[11],[17,18,11],[19,11],[13,20,11],[11,21,7],[7,22]]
def fD:IR:=(S (S (R [z 45 (mv 6),z 46 (mv 5),z 47 (fa 35 3 0),o 48 (ia 30 47 46),o 49 (ld 29 48),z 50 (len 49 29),z 51 (bo .lss (t 45) (t 50))])
(.cond (t 51)
.skip
(.exit 2 [1,3,5])))
(S (.block 3 (S (R [z 54 (mv 5),z 55 (fa 35 3 0),o 56 (ia 30 55 54),o 57 (ld 29 56),z 58 (mv 6),o 59 (ia 29 57 58),o 60 (ld 55 59),z 7 (al 55),⟨none,st 55 7 60,none,true⟩])
(S vZ
(.cond (t 84)
(S (R [z 2 (ab false)])
(.ret [2]))
.skip))))
(R [z 52 (mv 6),z 53 (bo .add (t 52) (n 1)),z 6 (av 53)])))
def fC:IR:=(S (S (R [z 21 (mv 5),z 22 (bo .lss (t 21) (n 4))])
(.cond (t 22)
.skip
(.exit 0 [3])))
(S (.block 1 (S (S wA
(.cond (t 44)
(S (R [z 2 (ab false)])
(.ret [2]))
.skip))
(S (R [z 6 (an 0)])
(.block 2 (.loop [1,3,5,6] fD)))))
(R [z 23 (mv 5),z 24 (bo .add (t 23) (n 1)),z 5 (av 24)])))
def c7:IR:=(S (R [z 1 (bx 27 0),z 2 (ab false)])
(S (S (R [z 8 (cl 15 #[] #[]),z 9 (.unOp .not 4 (.tmp 8))])
(.cond (t 9)
(S (R [z 2 (ab false)])
(.ret [2]))
.skip))
(S (R [o 11 (ld 27 1),z 12 (cl 27 #[(t 11)] #[27]),z 10 (mv 12),z 13 (xt 10 0),z 14 (xt 10 1),z 3 (al 35),⟨none,st 35 3 13,none,true⟩,z 4 (av 14)])
(S (S (R [z 15 (mv 4),z 16 (cl 17 #[(t 15)] #[36]),z 17 (bo .neq (t 16) (n 0))])
(.cond (t 17)
(S (R [o 18 (ld 35 3),z 19 (.build 35 #[]),z 20 (cl 19 #[(t 18),(t 19)] #[35,35]),z 2 (av 20)])
(.ret [2]))
.skip))
(S (S (R [z 5 (an 0)])
(.block 0 (.loop [1,3,5] fC)))
(S (R [o 85 (ld 35 3),z 86 (cl 28 #[(t 85)] #[35]),z 2 (av 86)])
(.ret [2])))))))
def g7:IFn:=⟨87,[.tmp 2],[4],c7,[],false,none⟩
def JU:IR:=(S (S (R [z 39 (mv 10),z 40 (fa 35 3 4),o 41 (ld 33 40),z 42 (len 41 33),z 43 (bo .lss (t 39) (t 42))])
(.cond (t 43)
.skip
(.exit 2 [3,5,6,7,8,9])))
(S (.block 3 (S (R [z 46 (fa 35 3 4),o 47 (ld 33 46),z 48 (mv 10),o 49 (ia 33 47 48),o 50 (ld 67 49),z 11 (al 67),⟨none,st 67 11 50,none,true⟩])
(S (S (R [z 51 (fa 67 11 0),o 52 (ld 3 51),z 53 (fa 49 6 0),o 54 (ld 3 53),z 55 (bo .neq (t 52) (t 54))])
(.cond (t 55)
(.exit 3 [3,5,6,7,8,9,10])
.skip))
(S (S (R [z 56 (mv 8),z 57 (bo .gtr (t 56) (n 0))])
(.cond (t 57)
(S (R [z 2 (ab false)])
(.ret [2]))
.skip))
(S (R [z 58 (mv 7),z 59 (fa 67 11 1),o 60 (ld 3 59),z 61 (.buildSlice 22 1 #[(0,(.tmp 60))]),z 62 (.call { callee:=(.builtin .append),args:=#[(.tmp 58),(.tmp 61)],argTypes:=#[22,22] }),z 7 (av 62)])
(S (S (R [z 63 (fa 67 11 2),o 64 (ld 3 63),z 65 (bo .eql (t 64) (n 6))])
(.cond (t 65)
(S (R [z 66 (mv 8),z 67 (bo .add (t 66) (n 1)),z 8 (av 67)])
(S (R [z 68 (fa 67 11 3),o 69 (ld 3 68),z 70 (fa 49 6 12),o 71 (ld 3 70),z 72 (bo .neq (t 69) (t 71))])
(.cond (t 72)
(S (R [z 2 (ab false)])
(.ret [2]))
.skip)))
.skip))
(S (R [z 73 (fa 67 11 2),o 74 (ld 3 73),z 75 (bo .eql (t 74) (n 3)),z 76 (mv 75),zF 77 (fa 67 11 2) 76,oF 78 (ld 3 77) 76,zF 79 (bo .eql (t 78) (n 5)) 76,z 80 (.pick (.tmp 76) (.const (.bool true)) (.tmp 79))])
(.cond (t 80)
(S (R [z 81 (mv 9),z 82 (bo .add (t 81) (n 1)),z 9 (av 82)])
(S (R [z 83 (fa 67 11 3),o 84 (ld 3 83),z 85 (mv 9),z 86 (bo .neq (t 84) (t 85))])
(.cond (t 86)
(S (R [z 2 (ab false)])
(.ret [2]))
.skip)))
.skip))))))))
(R [z 44 (mv 10),z 45 (bo .add (t 44) (n 1)),z 10 (av 45)])))
def c8_2:IR:=(S (S (R [z 27 (mv 5),z 28 (fa 35 3 3),o 29 (ld 32 28),z 30 (len 29 32),z 31 (bo .lss (t 27) (t 30))])
(.cond (t 31)
.skip
(.exit 0 [])))
(S (.block 1 (S (R [z 34 (fa 35 3 3),o 35 (ld 32 34),z 36 (mv 5),o 37 (ia 32 35 36),o 38 (ld 49 37),z 6 (al 49),⟨none,st 49 6 38,none,true⟩])
(S (R [z 7 (.assign (.const (.slice none 0 0)))])
(S (R [z 8 (an 0),z 9 (an 0)])
(S (S (R [z 10 (an 0)])
(.block 2 (.loop [3,5,6,7,8,9,10] JU)))
(S (R [z 87 (mv 7),z 88 (fa 49 6 1),o 89 (ld 3 88),z 90 (.buildSlice 22 1 #[(0,(.tmp 89))]),z 91 (.call { callee:=(.builtin .append),args:=#[(.tmp 87),(.tmp 90)],argTypes:=#[22,22] }),z 7 (av 91)])
(S (R [z 93 (mv 7),z 94 (cl 29 #[(t 93)] #[22]),z 92 (mv 94),z 95 (xt 92 0),z 96 (xt 92 1),z 12 (av 95),z 13 (av 96)])
(S (R [z 97 (mv 12),z 98 (.unOp .not 4 (.tmp 97)),z 99 (mv 98),zF 100 (mv 13) 99,zF 101 (cl 17 #[(t 100)] #[36]) 99,zF 102 (bo .neq (t 101) (n 0)) 99,z 103 (.pick (.tmp 99) (.const (.bool true)) (.tmp 102)),z 104 (mv 103),zF 105 (mv 9) 104,zF 106 (fa 49 6 11) 104,oF 107 (ld 3 106) 104,zF 108 (bo .neq (t 105) (t 107)) 104,z 109 (.pick (.tmp 104) (.const (.bool true)) (.tmp 108)),z 110 (mv 109),zF 111 (mv 8) 110,zF 112 (bo .eql (t 111) (n 1)) 110,zF 113 (fa 49 6 4) 110,oF 114 (ld 3 113) 110,zF 115 (bo .eql (t 114) (n 6)) 110,zF 116 (.binOp .neq 4 (.tmp 112) (.tmp 115) 4) 110,z 117 (.pick (.tmp 110) (.const (.bool true)) (.tmp 116))])
(.cond (t 117)
(S (R [z 2 (ab false)])
(.ret [2]))
.skip)))))))))
(R [z 32 (mv 5),z 33 (bo .add (t 32) (n 1)),z 5 (av 33)])))
def c8:IR:=(S (R [z 1 (bx 27 0),z 2 (ab false)])
(S (S (R [z 14 (cl 15 #[] #[]),z 15 (.unOp .not 4 (.tmp 14))])
(.cond (t 15)
(S (R [z 2 (ab false)])
(.ret [2]))
.skip))
(S (R [o 17 (ld 27 1),z 18 (cl 27 #[(t 17)] #[27]),z 16 (mv 18),z 19 (xt 16 0),z 20 (xt 16 1),z 3 (al 35),⟨none,st 35 3 19,none,true⟩,z 4 (av 20)])
(S (S (R [z 21 (mv 4),z 22 (cl 17 #[(t 21)] #[36]),z 23 (bo .neq (t 22) (n 0))])
(.cond (t 23)
(S (R [o 24 (ld 35 3),z 25 (.build 35 #[]),z 26 (cl 19 #[(t 24),(t 25)] #[35,35]),z 2 (av 26)])
(.ret [2]))
.skip))
(S (S (R [z 5 (an 0)])
(.block 0 (.loop [3,5] c8_2)))
(S (R [z 2 (ab true)])
(.ret [2])))))))
def g8:IFn:=⟨118,[.tmp 2],[4],c8,[],false,none⟩
def vY:IR:=D [z 62 (mv 15),z 63 (fa 27 14 0),o 64 (ia 23 63 62),o 65 (ld 22 64),z 66 (mv 16),z 67 (mv 15),z 68 (fa 27 14 0),o 69 (ia 23 68 67),o 70 (ld 22 69),z 71 (mv 16),o 72 (ia 22 70 71),o 73 (ld 3 72),z 74 (mv 2),z 75 (bo .add (t 73) (t 74)),z 76 (bo .and (t 75) (n 255)),o 77 (ia 22 65 66),⟨none,st 3 77 76,none,true⟩] [[],[],[1,0],[2],[],[],[],[6,5],[7],[],[8,9],[10],[],[11,12],[13],[3,4,0,1,2,3,4,5,6,7,8,9,10,11,12,13,14],[15,14,0,1,2,3,4,5,6,7,8,9,10,11,12,13,14]]
def Lp:IR:=(S (S (R [z 47 (mv 16),z 48 (mv 15),z 49 (fa 27 14 0),o 50 (ia 23 49 48),o 51 (ld 22 50),z 52 (len 51 22),z 53 (bo .lss (t 47) (t 52)),z 54 (mv 53),zT 55 (mv 15) 54,zT 56 (mv 11) 54,zT 57 (cl 31 #[(t 55),(t 56)] #[3,3]) 54,zT 58 (.unOp .not 4 (.tmp 57)) 54,z 59 (.pick (.tmp 54) (.tmp 58) (.const (.bool false)))])
(.cond (t 59)
.skip
(.exit 2 [2,3,4,5,11,12,14,15])))
(S (.block 3 vY)
(R [z 60 (mv 16),z 61 (bo .add (t 60) (n 1)),z 16 (av 61)])))
def c9_2:IR:=(S (S (R [z 43 (mv 15),z 44 (bo .lss (t 43) (n 4))])
(.cond (t 44)
.skip
(.exit 0 [3,4,5,11,12,14])))
(S (.block 1 (S (R [z 16 (an 0)])
(.block 2 (.loop [2,3,4,5,11,12,14,15,16] Lp))))
(R [z 45 (mv 15),z 46 (bo .add (t 45) (n 1)),z 15 (av 46)])))
def fB:IR:=(S (S (R [z 78 (mv 17),z 79 (fa 27 14 2),o 80 (ld 24 79),z 81 (len 80 24),z 82 (bo .lss (t 78) (t 81))])
(.cond (t 82)
.skip
(.exit 4 [4,5,11,12,14])))
(S (.block 5 (S (R [z 85 (fa 27 14 2),o 86 (ld 24 85),z 87 (mv 17),o 88 (ia 24 86 87),z 89 (fa 53 88 1),o 90 (ld 3 89),z 91 (mv 11),z 92 (cl 31 #[(t 90),(t 91)] #[3,3]),z 93 (.unOp .not 4 (.tmp 92))])
(.cond (t 93)
(R [z 94 (fa 27 14 2),o 95 (ld 24 94),z 96 (mv 17),z 97 (mv 3),o 98 (ia 24 95 96),z 99 (fa 53 98 3),⟨none,st 45 99 97,none,true⟩])
.skip)))
(R [z 83 (mv 17),z 84 (bo .add (t 83) (n 1)),z 17 (av 84)])))
def vX:IR:=D [z 121 (mv 18),z 122 (mv 4),z 123 (mv 19),o 124 (ia 22 122 123),o 125 (ld 3 124),z 126 (bo .and (t 125) (n 3)),z 127 (mv 4),z 128 (mv 19),o 129 (ia 22 127 128),o 130 (ld 3 129),z 131 (.binOp .shr 3 (.tmp 130) (.const (.int .u64 2)) 62),z 132 (bo .and (t 131) (n 255)),z 133 (.build 44 #[(0,(.tmp 126)),(1,(.tmp 132))]),z 134 (.buildSlice 25 1 #[(0,(.tmp 133))]),z 135 (.call { callee:=(.builtin .append),args:=#[(.tmp 121),(.tmp 134)],argTypes:=#[25,25] }),z 18 (av 135)] [[],[],[],[1,2],[3],[4],[],[],[6,7],[8],[9],[10],[5,11],[12],[0,13],[14,14,0,1,2,3,4,5,6,7,8,9,10,11,12,13,14]]
def IX:IR:=(S (S (R [z 100 (mv 19),z 101 (fa 27 5 3),o 102 (ld 25 101),z 103 (len 102 25),z 104 (bo .lss (t 100) (t 103))])
(.cond (t 104)
.skip
(.exit 6 [11,12,14,18])))
(S (.block 7 (S (S (R [z 107 (mv 19),z 108 (mv 4),z 109 (len 108 22),z 110 (bo .lss (t 107) (t 109)),z 111 (mv 110),zT 112 (mv 4) 111,zT 113 (mv 19) 111,oT 114 (ia 22 112 113) 111,oT 115 (ld 3 114) 111,zT 116 (bo .and (t 115) (n 3)) 111,zT 117 (mv 11) 111,zT 118 (cl 31 #[(t 116),(t 117)] #[3,3]) 111,zT 119 (.unOp .not 4 (.tmp 118)) 111,z 120 (.pick (.tmp 111) (.tmp 119) (.const (.bool false)))])
(.cond (t 120)
vX
.skip))
(S (R [z 136 (fa 27 5 3),o 137 (ld 25 136),z 138 (mv 19),o 139 (ia 25 137 138),z 140 (fa 44 139 0),o 141 (ld 3 140),z 142 (mv 11),z 143 (cl 31 #[(t 141),(t 142)] #[3,3])])
(.cond (t 143)
(R [z 144 (mv 18),z 145 (fa 27 5 3),o 146 (ld 25 145),z 147 (mv 19),o 148 (ia 25 146 147),o 149 (ld 44 148),z 150 (.buildSlice 25 1 #[(0,(.tmp 149))]),z 151 (.call { callee:=(.builtin .append),args:=#[(.tmp 144),(.tmp 150)],argTypes:=#[25,25] }),z 18 (av 151)])
.skip))))
(R [z 105 (mv 19),z 106 (bo .add (t 105) (n 1)),z 19 (av 106)])))
def c9:IR:=(S (R [z 5 (bx 27 0),z 10 (ab false)])
(S (S (R [z 26 (cl 15 #[] #[]),z 27 (.unOp .not 4 (.tmp 26))])
(.cond (t 27)
(S (R [z 10 (ab false)])
(.ret [10]))
.skip))
(S (R [z 28 (mv 1),z 29 (bo .and (t 28) (n 3)),z 11 (av 29)])
(S (R [o 31 (ld 27 5),z 32 (cl 27 #[(t 31)] #[27]),z 30 (mv 32),z 33 (xt 30 0),z 34 (xt 30 1),z 12 (al 35),⟨none,st 35 12 33,none,true⟩,z 13 (av 34)])
(S (S (R [z 35 (mv 13),z 36 (cl 17 #[(t 35)] #[36]),z 37 (bo .neq (t 36) (n 0))])
(.cond (t 37)
(S (R [o 38 (ld 35 12),z 39 (.build 35 #[]),z 40 (cl 19 #[(t 38),(t 39)] #[35,35]),z 10 (av 40)])
(.ret [10]))
.skip))
(S (R [o 41 (ld 27 5),o 42 (cl 30 #[(t 41)] #[27]),z 14 (al 27),⟨none,st 27 14 42,none,true⟩])
(S (S (R [z 15 (an 0)])
(.block 0 (.loop [2,3,4,5,11,12,14,15] c9_2)))
(S (S (R [z 17 (an 0)])
(.block 4 (.loop [3,4,5,11,12,14,17] fB)))
(S (R [z 18 (.assign (.const (.slice none 0 0)))])
(S (S (R [z 19 (an 0)])
(.block 6 (.loop [4,5,11,12,14,18,19] IX)))
(S (R [z 152 (mv 18),z 153 (fa 27 14 3),⟨none,st 25 153 152,none,true⟩])
(S (R [o 155 (ld 27 14),z 156 (cl 27 #[(t 155)] #[27]),z 154 (mv 156),z 157 (xt 154 0),z 158 (xt 154 1),z 20 (al 35),⟨none,st 35 20 157,none,true⟩,z 21 (av 158)])
(S (S (R [z 159 (mv 21),z 160 (cl 17 #[(t 159)] #[36]),z 161 (bo .neq (t 160) (n 0))])
(.cond (t 161)
(S (R [o 162 (ld 27 14),z 163 (cl 18 #[(t 162)] #[27]),z 164 (.unOp .not 4 (.tmp 163)),z 10 (av 164)])
(.ret [10]))
.skip))
(S (R [o 166 (ld 35 12),z 167 (mv 11),z 168 (cl 32 #[(t 166),(t 167)] #[35,3]),z 165 (mv 168),z 169 (xt 165 0),z 170 (xt 165 1),z 22 (al 35),⟨none,st 35 22 169,none,true⟩,z 23 (av 170)])
(S (R [o 172 (ld 35 20),z 173 (mv 11),z 174 (cl 32 #[(t 172),(t 173)] #[35,3]),z 171 (mv 174),z 175 (xt 171 0),z 176 (xt 171 1),z 24 (al 35),⟨none,st 35 24 175,none,true⟩,z 25 (av 176)])
(S (R [z 177 (mv 23),z 178 (cl 17 #[(t 177)] #[36]),z 179 (bo .eql (t 178) (n 0)),z 180 (mv 179),zT 181 (mv 25) 180,zT 182 (cl 17 #[(t 181)] #[36]) 180,zT 183 (bo .eql (t 182) (n 0)) 180,z 184 (.pick (.tmp 180) (.tmp 183) (.const (.bool false))),z 185 (mv 184),oT 186 (ld 35 22) 185,oT 187 (ld 35 24) 185,zT 188 (cl 19 #[(t 186),(t 187)] #[35,35]) 185,z 189 (.pick (.tmp 185) (.tmp 188) (.const (.bool false))),z 10 (av 189)])
(.ret [10])))))))))))))))))
def g9:IFn:=⟨190,[.tmp 10],[4],c9,[],false,none⟩
def aF:IR:=D [z 52 (mv 12),z 53 (fa 27 15 0),o 54 (ia 23 53 52),o 55 (ld 22 54),z 56 (mv 3),z 57 (.convert 3 62 (.tmp 56)),z 58 (mv 12),z 59 (fa 27 15 0),o 60 (ia 23 59 58),o 61 (ld 22 60),z 62 (len 61 22),z 63 (.convert 3 62 (.tmp 62)),z 64 (.binOp .rem 62 (.tmp 57) (.tmp 63) 62),z 65 (.convert 62 3 (.tmp 64)),z 66 (mv 4),z 67 (bo .and (t 66) (n 255)),o 68 (ia 22 55 65),⟨none,st 3 68 67,none,true⟩] [[],[],[1,0],[2],[],[4],[],[],[7,6],[8],[9],[10],[5,11],[12],[],[14],[3,13,0,1,2,3,4,5,6,7,8,9,10,11,12,13,14,15],[16,15,0,1,2,3,4,5,6,7,8,9,10,11,12,13,14,15]]
def c10:IR:=(S (R [z 5 (bx 27 0),z 10 (ab false)])
(S (S (R [z 22 (cl 15 #[] #[]),z 23 (.unOp .not 4 (.tmp 22))])
(.cond (t 23)
(S (R [z 10 (ab false)])
(.ret [10]))
.skip))
(S (R [z 24 (mv 1),z 25 (bo .and (t 24) (n 3)),z 26 (mv 2),z 27 (bo .and (t 26) (n 3)),z 11 (av 25),z 12 (av 27)])
(S (R [o 29 (ld 27 5),z 30 (cl 27 #[(t 29)] #[27]),z 28 (mv 30),z 31 (xt 28 0),z 32 (xt 28 1),z 13 (al 35),⟨none,st 35 13 31,none,true⟩,z 14 (av 32)])
(S (S (R [z 33 (mv 14),z 34 (cl 17 #[(t 33)] #[36]),z 35 (bo .neq (t 34) (n 0))])
(.cond (t 35)
(S (R [o 36 (ld 35 13),z 37 (.build 35 #[]),z 38 (cl 19 #[(t 36),(t 37)] #[35,35]),z 10 (av 38)])
(.ret [10]))
.skip))
(S (S (R [z 39 (mv 12),z 40 (mv 11),z 41 (cl 31 #[(t 39),(t 40)] #[3,3]),z 42 (mv 41),zF 43 (mv 12) 42,zF 44 (fa 27 5 0) 42,oF 45 (ia 23 44 43) 42,oF 46 (ld 22 45) 42,zF 47 (len 46 22) 42,zF 48 (bo .eql (t 47) (n 0)) 42,z 49 (.pick (.tmp 42) (.const (.bool true)) (.tmp 48))])
(.cond (t 49)
(S (R [z 10 (ab true)])
(.ret [10]))
.skip))
(S (R [o 50 (ld 27 5),o 51 (cl 30 #[(t 50)] #[27]),z 15 (al 27),⟨none,st 27 15 51,none,true⟩])
(S aF
(S (R [o 70 (ld 27 15),z 71 (cl 27 #[(t 70)] #[27]),z 69 (mv 71),z 72 (xt 69 0),z 73 (xt 69 1),z 16 (al 35),⟨none,st 35 16 72,none,true⟩,z 17 (av 73)])
(S (R [o 75 (ld 35 13),z 76 (mv 11),z 77 (cl 32 #[(t 75),(t 76)] #[35,3]),z 74 (mv 77),z 78 (xt 74 0),z 79 (xt 74 1),z 18 (al 35),⟨none,st 35 18 78,none,true⟩,z 19 (av 79)])
(S (R [o 81 (ld 35 16),z 82 (mv 11),z 83 (cl 32 #[(t 81),(t 82)] #[35,3]),z 80 (mv 83),z 84 (xt 80 0),z 85 (xt 80 1),z 20 (al 35),⟨none,st 35 20 84,none,true⟩,z 21 (av 85)])
(S (R [z 86 (mv 17),z 87 (cl 17 #[(t 86)] #[36]),z 88 (bo .eql (t 87) (n 0)),z 89 (mv 88),zT 90 (mv 19) 89,zT 91 (cl 17 #[(t 90)] #[36]) 89,zT 92 (bo .eql (t 91) (n 0)) 89,z 93 (.pick (.tmp 89) (.tmp 92) (.const (.bool false))),z 94 (mv 93),zT 95 (mv 21) 94,zT 96 (cl 17 #[(t 95)] #[36]) 94,zT 97 (bo .eql (t 96) (n 0)) 94,z 98 (.pick (.tmp 94) (.tmp 97) (.const (.bool false))),z 99 (mv 98),oT 100 (ld 35 18) 99,oT 101 (ld 35 20) 99,zT 102 (cl 19 #[(t 100),(t 101)] #[35,35]) 99,z 103 (.pick (.tmp 99) (.tmp 102) (.const (.bool false))),z 10 (av 103)])
(.ret [10])))))))))))))
def g10:IFn:=⟨104,[.tmp 10],[4],c10,[],false,none⟩
def c11:IR:=(S (R [z 3 (bx 27 0),z 4 (bx 27 1),z 6 (ab false)])
(S (S (R [z 20 (cl 15 #[] #[]),z 21 (.unOp .not 4 (.tmp 20))])
(.cond (t 21)
(S (R [z 6 (ab false)])
(.ret [6]))
.skip))
(S (R [z 22 (mv 2),z 23 (bo .and (t 22) (n 3)),z 7 (av 23)])
(S (R [o 25 (ld 27 3),z 26 (mv 7),z 27 (cl 33 #[(t 25),(t 26)] #[27,3]),z 24 (mv 27),z 28 (xt 24 0),z 29 (xt 24 1),z 8 (al 27),⟨none,st 27 8 28,none,true⟩,z 9 (av 29)])
(S (R [o 31 (ld 27 4),z 32 (mv 7),z 33 (cl 33 #[(t 31),(t 32)] #[27,3]),z 30 (mv 33),z 34 (xt 30 0),z 35 (xt 30 1),z 10 (al 27),⟨none,st 27 10 34,none,true⟩,z 11 (av 35)])
(S (S (R [z 36 (mv 9),z 37 (cl 17 #[(t 36)] #[36]),z 38 (bo .neq (t 37) (n 0)),z 39 (mv 38),zF 40 (mv 11) 39,zF 41 (cl 17 #[(t 40)] #[36]) 39,zF 42 (bo .neq (t 41) (n 0)) 39,z 43 (.pick (.tmp 39) (.const (.bool true)) (.tmp 42)),z 44 (mv 43),oF 45 (ld 27 8) 44,oF 46 (ld 27 10) 44,zF 47 (cl 34 #[(t 45),(t 46)] #[27,27]) 44,zF 48 (.unOp .not 4 (.tmp 47)) 44,z 49 (.pick (.tmp 44) (.const (.bool true)) (.tmp 48))])
(.cond (t 49)
(S (R [z 6 (ab true)])
(.ret [6]))
.skip))
(S (R [o 51 (ld 27 3),z 52 (cl 27 #[(t 51)] #[27]),z 50 (mv 52),z 53 (xt 50 0),z 54 (xt 50 1),z 12 (al 35),⟨none,st 35 12 53,none,true⟩,z 13 (av 54)])
(S (R [o 56 (ld 27 4),z 57 (cl 27 #[(t 56)] #[27]),z 55 (mv 57),z 58 (xt 55 0),z 59 (xt 55 1),z 14 (al 35),⟨none,st 35 14 58,none,true⟩,z 15 (av 59)])
(S (R [o 61 (ld 35 12),z 62 (mv 7),z 63 (cl 32 #[(t 61),(t 62)] #[35,3]),z 60 (mv 63),z 64 (xt 60 0),z 65 (xt 60 1),z 16 (al 35),⟨none,st 35 16 64,none,true⟩,z 17 (av 65)])
(S (R [o 67 (ld 35 14),z 68 (mv 7),z 69 (cl 32 #[(t 67),(t 68)] #[35,3]),z 66 (mv 69),z 70 (xt 66 0),z 71 (xt 66 1),z 18 (al 35),⟨none,st 35 18 70,none,true⟩,z 19 (av 71)])
(S (R [z 72 (mv 13),z 73 (cl 17 #[(t 72)] #[36]),z 74 (bo .eql (t 73) (n 0)),z 75 (mv 74),zT 76 (mv 15) 75,zT 77 (cl 17 #[(t 76)] #[36]) 75,zT 78 (bo .eql (t 77) (n 0)) 75,z 79 (.pick (.tmp 75) (.tmp 78) (.const (.bool false))),z 80 (mv 79),zT 81 (mv 17) 80,zT 82 (cl 17 #[(t 81)] #[36]) 80,zT 83 (bo .eql (t 82) (n 0)) 80,z 84 (.pick (.tmp 80) (.tmp 83) (.const (.bool false))),z 85 (mv 84),zT 86 (mv 19) 85,zT 87 (cl 17 #[(t 86)] #[36]) 85,zT 88 (bo .eql (t 87) (n 0)) 85,z 89 (.pick (.tmp 85) (.tmp 88) (.const (.bool false))),z 90 (mv 89),oT 91 (ld 35 16) 90,oT 92 (ld 35 18) 90,zT 93 (cl 19 #[(t 91),(t 92)] #[35,35]) 90,z 94 (.pick (.tmp 90) (.tmp 93) (.const (.bool false))),z 6 (av 94)])
(.ret [6]))))))))))))
def g11:IFn:=⟨95,[.tmp 6],[4],c11,[],false,none⟩
def aE:IR:=D [z 80 (mv 13),z 81 (mv 2),z 82 (mv 14),o 83 (ia 22 81 82),o 84 (ld 3 83),z 85 (bo .and (t 84) (n 3)),z 86 (mv 2),z 87 (mv 14),o 88 (ia 22 86 87),o 89 (ld 3 88),z 90 (.binOp .shr 3 (.tmp 89) (.const (.int .u64 2)) 62),z 91 (bo .and (t 90) (n 255)),z 92 (.build 44 #[(0,(.tmp 85)),(1,(.tmp 91))]),z 93 (.buildSlice 25 1 #[(0,(.tmp 92))]),z 94 (.call { callee:=(.builtin .append),args:=#[(.tmp 80),(.tmp 93)],argTypes:=#[25,25] }),z 13 (av 94)] [[],[],[],[1,2],[3],[4],[],[],[6,7],[8],[9],[10],[5,11],[12],[0,13],[14,14,0,1,2,3,4,5,6,7,8,9,10,11,12,13,14]]
def Fp:IR:=(S (S (R [z 44 (mv 14),z 45 (fa 27 3 3),o 46 (ld 25 45),z 47 (len 46 25),z 48 (bo .lss (t 44) (t 47))])
(.cond (t 48)
.skip
(.exit 0 [7,10,11,12,13])))
(S (.block 1 (S (S (R [z 51 (fa 27 3 3),o 52 (ld 25 51),z 53 (mv 14),o 54 (ia 25 52 53),z 55 (fa 44 54 0),o 56 (ld 3 55),z 57 (mv 7),z 58 (cl 31 #[(t 56),(t 57)] #[3,3]),z 59 (.unOp .not 4 (.tmp 58))])
(.cond (t 59)
(.exit 1 [2,3,7,10,11,12,13,14])
.skip))
(S (S (R [z 60 (mv 14),z 61 (mv 2),z 62 (len 61 22),z 63 (bo .lss (t 60) (t 62)),z 64 (mv 63),zT 65 (mv 2) 64,zT 66 (mv 14) 64,oT 67 (ia 22 65 66) 64,oT 68 (ld 3 67) 64,zT 69 (bo .and (t 68) (n 3)) 64,zT 70 (mv 7) 64,zT 71 (cl 31 #[(t 69),(t 70)] #[3,3]) 64,zT 72 (.unOp .not 4 (.tmp 71)) 64,z 73 (.pick (.tmp 64) (.tmp 72) (.const (.bool false))),z 74 (mv 73),zT 75 (fa 27 3 3) 74,oT 76 (ld 25 75) 74,zT 77 (len 76 25) 74,zT 78 (bo .lss (t 77) (n 100)) 74,z 79 (.pick (.tmp 74) (.tmp 78) (.const (.bool false)))])
(.cond (t 79)
aE
.skip))
(R [z 95 (mv 13),z 96 (fa 27 3 3),o 97 (ld 25 96),z 98 (mv 14),o 99 (ia 25 97 98),o 100 (ld 44 99),z 101 (.buildSlice 25 1 #[(0,(.tmp 100))]),z 102 (.call { callee:=(.builtin .append),args:=#[(.tmp 95),(.tmp 101)],argTypes:=#[25,25] }),z 13 (av 102)]))))
(R [z 49 (mv 14),z 50 (bo .add (t 49) (n 1)),z 14 (av 50)])))
def c12:IR:=(S (R [z 3 (bx 27 0),z 6 (ab false)])
(S (S (R [z 21 (cl 15 #[] #[]),z 22 (.unOp .not 4 (.tmp 21))])
(.cond (t 22)
(S (R [z 6 (ab false)])
(.ret [6]))
.skip))
(S (R [z 23 (mv 1),z 24 (bo .and (t 23) (n 3)),z 7 (av 24)])
(S (R [o 26 (ld 27 3),z 27 (mv 7),z 28 (cl 33 #[(t 26),(t 27)] #[27,3]),z 25 (mv 28),z 29 (xt 25 0),z 30 (xt 25 1),z 8 (al 27),⟨none,st 27 8 29,none,true⟩,z 9 (av 30)])
(S (S (R [z 31 (mv 9),z 32 (cl 17 #[(t 31)] #[36]),z 33 (bo .neq (t 32) (n 0))])
(.cond (t 33)
(S (R [o 34 (ld 27 3),z 35 (cl 35 #[(t 34)] #[27]),z 36 (.unOp .not 4 (.tmp 35)),z 6 (av 36)])
(.ret [6]))
.skip))
(S (R [o 38 (ld 27 8),z 39 (cl 27 #[(t 38)] #[27]),z 37 (mv 39),z 40 (xt 37 0),z 41 (xt 37 1),z 10 (al 35),⟨none,st 35 10 40,none,true⟩,z 11 (av 41)])
(S (R [o 42 (ld 27 3),z 43 (cl 30 #[(t 42)] #[27]),z 12 (al 27),⟨none,st 27 12 43,none,true⟩])
(S (R [z 13 (.assign (.const (.slice none 0 0)))])
(S (S (R [z 14 (an 0)])
(.block 0 (.loop [2,3,7,10,11,12,13,14] Fp)))
(S (R [z 103 (mv 13),z 104 (fa 27 12 3),⟨none,st 25 104 103,none,true⟩])
(S (R [o 106 (ld 27 12),z 107 (cl 27 #[(t 106)] #[27]),z 105 (mv 107),z 108 (xt 105 0),z 109 (xt 105 1),z 15 (al 35),⟨none,st 35 15 108,none,true⟩,z 16 (av 109)])
(S (R [o 111 (ld 35 10),z 112 (mv 7),z 113 (cl 32 #[(t 111),(t 112)] #[35,3]),z 110 (mv 113),z 114 (xt 110 0),z 115 (xt 110 1),z 17 (al 35),⟨none,st 35 17 114,none,true⟩,z 18 (av 115)])
(S (R [o 117 (ld 35 15),z 118 (mv 7),z 119 (cl 32 #[(t 117),(t 118)] #[35,3]),z 116 (mv 119),z 120 (xt 116 0),z 121 (xt 116 1),z 19 (al 35),⟨none,st 35 19 120,none,true⟩,z 20 (av 121)])
(S (R [z 122 (mv 11),z 123 (cl 17 #[(t 122)] #[36]),z 124 (bo .eql (t 123) (n 0)),z 125 (mv 124),zT 126 (mv 16) 125,zT 127 (cl 17 #[(t 126)] #[36]) 125,zT 128 (bo .eql (t 127) (n 0)) 125,z 129 (.pick (.tmp 125) (.tmp 128) (.const (.bool false))),z 130 (mv 129),zT 131 (mv 18) 130,zT 132 (cl 17 #[(t 131)] #[36]) 130,zT 133 (bo .eql (t 132) (n 0)) 130,z 134 (.pick (.tmp 130) (.tmp 133) (.const (.bool false))),z 135 (mv 134),zT 136 (mv 20) 135,zT 137 (cl 17 #[(t 136)] #[36]) 135,zT 138 (bo .eql (t 137) (n 0)) 135,z 139 (.pick (.tmp 135) (.tmp 138) (.const (.bool false))),z 140 (mv 139),oT 141 (ld 35 17) 140,oT 142 (ld 35 19) 140,zT 143 (cl 19 #[(t 141),(t 142)] #[35,35]) 140,z 144 (.pick (.tmp 140) (.tmp 143) (.const (.bool false))),z 6 (av 144)])
(.ret [6])))))))))))))))
def g12:IFn:=⟨145,[.tmp 6],[4],c12,[],false,none⟩
def c13:IR:=(S (R [z 2 (bx 27 0),z 4 (ab false)])
(S (S (R [z 14 (cl 15 #[] #[]),z 15 (.unOp .not 4 (.tmp 14))])
(.cond (t 15)
(S (R [z 4 (ab false)])
(.ret [4]))
.skip))
(S (R [o 16 (ld 27 2),z 17 (cl 30 #[(t 16)] #[27]),z 5 (al 27),⟨none,st 27 5 17,none,true⟩])
(S (R [o 19 (ld 27 5),z 20 (cl 27 #[(t 19)] #[27]),z 18 (mv 20),z 21 (xt 18 0),z 22 (xt 18 1),z 6 (al 35),⟨none,st 35 6 21,none,true⟩,z 7 (av 22)])
(S (R [o 24 (ld 27 5),z 25 (mv 1),z 26 (bo .and (t 25) (n 3)),o 27 (cl 33 #[(t 24),(t 26)] #[27,3]),z 23 (mv 27),z 28 (xt 23 0),z 29 (xt 23 1),z 8 (al 27),⟨none,st 27 8 28,none,true⟩,z 9 (av 29)])
(S (R [o 31 (ld 35 6),z 32 (mv 1),z 33 (bo .and (t 32) (n 3)),o 34 (cl 32 #[(t 31),(t 33)] #[35,3]),z 30 (mv 34),z 35 (xt 30 0),z 36 (xt 30 1),z 10 (al 35),⟨none,st 35 10 35,none,true⟩,z 11 (av 36)])
(S (R [o 37 (ld 27 8),z 38 (cl 36 #[(t 37)] #[27])])
(S (R [o 39 (ld 35 10),z 40 (cl 37 #[(t 39)] #[35])])
(S (R [o 42 (ld 27 5),z 43 (cl 27 #[(t 42)] #[27]),z 41 (mv 43),z 44 (xt 41 0),z 45 (xt 41 1),z 12 (al 35),⟨none,st 35 12 44,none,true⟩,z 13 (av 45)])
(S (S (R [z 46 (mv 7),z 47 (cl 17 #[(t 46)] #[36]),z 48 (bo .neq (t 47) (n 0))])
(.cond (t 48)
(S (R [z 49 (mv 13),z 50 (cl 17 #[(t 49)] #[36]),z 51 (mv 7),z 52 (cl 17 #[(t 51)] #[36]),z 53 (bo .eql (t 50) (t 52)),z 54 (mv 53),zT 55 (mv 9) 54,zT 56 (cl 17 #[(t 55)] #[36]) 54,zT 57 (bo .neq (t 56) (n 0)) 54,z 58 (.pick (.tmp 54) (.tmp 57) (.const (.bool false))),z 59 (mv 58),oT 60 (ld 27 5) 59,oT 61 (ld 27 2) 59,zT 62 (cl 34 #[(t 60),(t 61)] #[27,27]) 59,z 63 (.pick (.tmp 59) (.tmp 62) (.const (.bool false))),z 4 (av 63)])
(.ret [4]))
.skip))
(S (R [z 64 (mv 9),z 65 (cl 17 #[(t 64)] #[36]),z 66 (bo .eql (t 65) (n 0)),z 67 (mv 66),zT 68 (mv 11) 67,zT 69 (cl 17 #[(t 68)] #[36]) 67,zT 70 (bo .eql (t 69) (n 0)) 67,z 71 (.pick (.tmp 67) (.tmp 70) (.const (.bool false))),z 72 (mv 71),zT 73 (mv 13) 72,zT 74 (cl 17 #[(t 73)] #[36]) 72,zT 75 (bo .eql (t 74) (n 0)) 72,z 76 (.pick (.tmp 72) (.tmp 75) (.const (.bool false))),z 77 (mv 76),oT 78 (ld 35 6) 77,oT 79 (ld 35 12) 77,zT 80 (cl 19 #[(t 78),(t 79)] #[35,35]) 77,z 81 (.pick (.tmp 77) (.tmp 80) (.const (.bool false))),z 82 (mv 81),oT 83 (ld 27 5) 82,oT 84 (ld 27 2) 82,zT 85 (cl 34 #[(t 83),(t 84)] #[27,27]) 82,z 86 (.pick (.tmp 82) (.tmp 85) (.const (.bool false))),z 4 (av 86)])
(.ret [4]))))))))))))
def g13:IFn:=⟨87,[.tmp 4],[4],c13,[],false,none⟩
def c14:IR:=(S (R [z 2 (bx 27 0),z 4 (ab false)])
(S (S (R [z 15 (cl 15 #[] #[]),z 16 (.unOp .not 4 (.tmp 15))])
(.cond (t 16)
(S (R [z 4 (ab false)])
(.ret [4]))
.skip))
(S (R [o 18 (ld 27 2),z 19 (cl 27 #[(t 18)] #[27]),z 17 (mv 19),z 20 (xt 17 0),z 21 (xt 17 1),z 5 (al 35),⟨none,st 35 5 20,none,true⟩,z 6 (av 21)])
(S (S (R [z 22 (mv 6),z 23 (cl 17 #[(t 22)] #[36]),z 24 (bo .neq (t 23) (n 0)),z 25 (mv 24),zF 26 (fa 27 2 2) 25,oF 27 (ld 24 26) 25,zF 28 (len 27 24) 25,zF 29 (bo .eql (t 28) (n 0)) 25,z 30 (.pick (.tmp 25) (.const (.bool true)) (.tmp 29))])
(.cond (t 30)
(S (R [z 31 (mv 6),z 32 (cl 17 #[(t 31)] #[36]),z 33 (bo .eql (t 32) (n 0)),z 34 (mv 33),oF 35 (ld 35 5) 34,zF 36 (.build 35 #[]) 34,zF 37 (cl 19 #[(t 35),(t 36)] #[35,35]) 34,z 38 (.pick (.tmp 34) (.const (.bool true)) (.tmp 37)),z 4 (av 38)])
(.ret [4]))
.skip))
(S (R [o 39 (ld 27 2),o 40 (cl 30 #[(t 39)] #[27]),z 7 (al 27),⟨none,st 27 7 40,none,true⟩])
(S (R [z 41 (mv 1),z 42 (.convert 3 62 (.tmp 41)),z 43 (fa 27 2 2),o 44 (ld 24 43),z 45 (len 44 24),z 46 (.convert 3 62 (.tmp 45)),z 47 (.binOp .rem 62 (.tmp 42) (.tmp 46) 62),z 48 (.convert 62 3 (.tmp 47)),z 8 (av 48)])
(S (R [z 50 (fa 27 2 2),o 51 (ld 24 50),z 52 (mv 8),o 53 (ia 24 51 52),z 54 (fa 53 53 3),o 55 (ld 45 54),z 56 (cl 38 #[(t 55)] #[45]),z 49 (mv 56),z 57 (xt 49 0),z 58 (xt 49 1),z 9 (av 57),z 10 (av 58)])
(S (R [z 60 (mv 9),z 61 (cl 39 #[(t 60)] #[9]),z 59 (mv 61),z 62 (xt 59 0),z 63 (xt 59 1),z 11 (av 62),z 12 (av 63)])
(S (R [z 64 (fa 27 7 2),o 65 (ld 24 64),z 66 (mv 8),z 67 (mv 11),o 68 (ia 24 65 66),z 69 (fa 53 68 3),⟨none,st 45 69 67,none,true⟩])
(S (R [o 71 (ld 27 7),z 72 (cl 27 #[(t 71)] #[27]),z 70 (mv 72),z 73 (xt 70 0),z 74 (xt 70 1),z 13 (al 35),⟨none,st 35 13 73,none,true⟩,z 14 (av 74)])
(S (R [z 75 (mv 10),z 76 (cl 17 #[(t 75)] #[36]),z 77 (bo .eql (t 76) (n 0)),z 78 (mv 77),zT 79 (mv 12) 78,zT 80 (cl 17 #[(t 79)] #[36]) 78,zT 81 (bo .eql (t 80) (n 0)) 78,z 82 (.pick (.tmp 78) (.tmp 81) (.const (.bool false))),z 83 (mv 82),zT 84 (mv 14) 83,zT 85 (cl 17 #[(t 84)] #[36]) 83,zT 86 (bo .eql (t 85) (n 0)) 83,z 87 (.pick (.tmp 83) (.tmp 86) (.const (.bool false))),z 88 (mv 87),oT 89 (ld 35 13) 88,oT 90 (ld 35 5) 88,zT 91 (cl 19 #[(t 89),(t 90)] #[35,35]) 88,z 92 (.pick (.tmp 88) (.tmp 91) (.const (.bool false))),z 93 (mv 92),zT 94 (fa 27 7 2) 93,oT 95 (ld 24 94) 93,zT 96 (mv 8) 93,oT 97 (ia 24 95 96) 93,oT 98 (ld 53 97) 93,zT 99 (cl 40 #[(t 98)] #[53]) 93,z 100 (.pick (.tmp 93) (.tmp 99) (.const (.bool false))),z 4 (av 100)])
(.ret [4]))))))))))))
def g14:IFn:=⟨101,[.tmp 4],[4],c14,[],false,none⟩
def c15:IR:=(S (R [z 0 (ab false)])
(S (R [z 15 (cl 41 #[] #[]),z 16 (cl 27 #[(t 15)] #[27]),z 14 (mv 16),z 17 (xt 14 0),z 18 (xt 14 1),z 1 (al 35),⟨none,st 35 1 17,none,true⟩,z 2 (av 18)])
(S (R [z 20 (cl 42 #[(n 1),(n 3)] #[3,3]),z 19 (mv 20),z 21 (xt 19 0),z 22 (xt 19 1),z 3 (av 21),z 4 (av 22)])
(S (R [z 24 (cl 41 #[] #[]),z 25 (cl 16 #[(t 24)] #[27]),z 23 (mv 25),z 26 (xt 23 0),z 27 (xt 23 1),z 5 (al 35),⟨none,st 35 5 26,none,true⟩,z 6 (av 27)])
(S (R [o 29 (ld 35 5),z 30 (.build 44 #[]),z 31 (cl 20 #[(t 29),(t 30)] #[35,44]),z 28 (mv 31),z 32 (xt 28 0),z 33 (xt 28 1),z 7 (al 35),⟨none,st 35 7 32,none,true⟩,z 8 (av 33)])
(S (R [o 35 (ld 35 5),z 36 (cl 26 #[(t 35),(n 0)] #[35,3]),z 34 (mv 36),z 37 (xt 34 0),z 38 (xt 34 1),z 9 (al 35),⟨none,st 35 9 37,none,true⟩,z 10 (av 38)])
(S (R [o 40 (ld 35 5),z 41 (.build 44 #[(0,(.const (.int .i64 1)))]),z 42 (cl 22 #[(t 40),(t 41)] #[35,44]),z 39 (mv 42),z 43 (xt 39 0),z 44 (xt 39 1),z 45 (xt 39 2),z 11 (av 43),z 12 (av 44),z 13 (av 45)])
(S (S (R [z 46 (fa 35 1 0),o 47 (.indexAddr 30 (.tmp 46) (.const (.int .i64 0))),o 48 (ld 29 47),z 49 (len 48 29),z 50 (bo .neq (t 49) (n 1)),z 51 (mv 50),zF 52 (fa 35 7 3) 51,oF 53 (ld 32 52) 51,zF 54 (len 53 32) 51,zF 55 (bo .neq (t 54) (n 2)) 51,z 56 (.pick (.tmp 51) (.const (.bool true)) (.tmp 55))])
(.cond (t 56)
(S (R [z 0 (ab false)])
(.ret [0]))
.skip))
(S (R [z 57 (fa 35 1 0),o 58 (.indexAddr 30 (.tmp 57) (.const (.int .i64 0))),o 59 (ld 29 58),o 60 (.indexAddr 29 (.tmp 59) (.const (.int .i64 0))),o 61 (ld 55 60),z 62 (.build 55 #[(0,(.const (.int .i64 10))),(1,(.const (.int .i64 1)))]),z 63 (.binOp .eql 55 (.tmp 61) (.tmp 62) 55),z 64 (mv 63),zT 65 (mv 2) 64,zT 66 (cl 17 #[(t 65)] #[36]) 64,zT 67 (bo .eql (t 66) (n 0)) 64,z 68 (.pick (.tmp 64) (.tmp 67) (.const (.bool false))),z 69 (mv 68),zT 70 (mv 3) 69,z 71 (.pick (.tmp 69) (.tmp 70) (.const (.bool false))),z 72 (mv 71),zT 73 (mv 4) 72,zT 74 (cl 17 #[(t 73)] #[36]) 72,zT 75 (bo .eql (t 74) (n 0)) 72,z 76 (.pick (.tmp 72) (.tmp 75) (.const (.bool false))),z 77 (mv 76),zT 78 (mv 6) 77,zT 79 (cl 17 #[(t 78)] #[36]) 77,zT 80 (bo .eql (t 79) (n 0)) 77,z 81 (.pick (.tmp 77) (.tmp 80) (.const (.bool false))),z 82 (mv 81),zT 83 (fa 35 7 3) 82,oT 84 (ld 32 83) 82,oT 85 (.indexAddr 32 (.tmp 84) (.const (.int .i64 0))) 82,zT 86 (fa 49 85 5) 82,oT 87 (ld 3 86) 82,zT 88 (bo .eql (t 87) (n 1)) 82,z 89 (.pick (.tmp 82) (.tmp 88) (.const (.bool false))),z 90 (mv 89),zT 91 (mv 8) 90,zT 92 (cl 17 #[(t 91)] #[36]) 90,zT 93 (bo .eql (t 92) (n 0)) 90,z 94 (.pick (.tmp 90) (.tmp 93) (.const (.bool false))),z 95 (mv 94),oT 96 (ld 35 7) 95,oT 97 (ld 35 9) 95,zT 98 (cl 19 #[(t 96),(t 97)] #[35,35]) 95,z 99 (.pick (.tmp 95) (.tmp 98) (.const (.bool false))),z 100 (mv 99),zT 101 (mv 10) 100,zT 102 (cl 17 #[(t 101)] #[36]) 100,zT 103 (bo .eql (t 102) (n 0)) 100,z 104 (.pick (.tmp 100) (.tmp 103) (.const (.bool false))),z 105 (mv 104),zT 106 (mv 11) 105,zT 107 (bo .eql (t 106) (n 1)) 105,z 108 (.pick (.tmp 105) (.tmp 107) (.const (.bool false))),z 109 (mv 108),zT 110 (mv 12) 109,z 111 (.pick (.tmp 109) (.tmp 110) (.const (.bool false))),z 112 (mv 111),zT 113 (mv 13) 112,zT 114 (cl 17 #[(t 113)] #[36]) 112,zT 115 (bo .eql (t 114) (n 0)) 112,z 116 (.pick (.tmp 112) (.tmp 115) (.const (.bool false))),z 0 (av 116)])
(.ret [0]))))))))))
def g15:IFn:=⟨117,[.tmp 0],[4],c15,[],false,none⟩
def Hy:IR:=(S (R [o 25 (bo .lss (t 24) (t 23))])
(S (.cond (t 25)
.skip
(.exit 0 [2,5,6]))
(S (.block 1 (S (R [o 26 (ia 24 22 24),o 27 (ld 53 26),o 8 (al 53),w (st 53 8 27)])
(S (R [o 29 (ld 53 8),o 30 (cl 44 #[(t 29)] #[53]),o 28 (mv 30),o 31 (xt 28 0),o 32 (xt 28 1),o 9 (al 49),w (st 49 9 31),o 10 (av 32)])
(S (S (R [o 33 (mv 5),o 34 (mv 10),o 35 (.call { callee:=(.builtin .max),args:=#[(.tmp 33),(.tmp 34)],argTypes:=#[36,36] }),o 5 (av 35)])
(S (R [o 36 (mv 5),o 37 (.binOp .neq 36 (.tmp 36) (.const (.int .i64 0)) 36)])
(.cond (t 37)
(.exit 0 [2,5,6])
.skip)))
(R [o 38 (fa 35 6 3),o 39 (ld 32 38),o 40 (ld 49 9),o 41 (.buildSlice 32 1 #[(0,(.tmp 40))]),o 42 (.call { callee:=(.builtin .append),args:=#[(.tmp 39),(.tmp 41)],argTypes:=#[32,32] }),o 43 (fa 35 6 3),w (st 32 43 42)])))))
(R [o 44 (bo .add (t 24) (n 1)),o 24 (mv 44)]))))
def c16:IR:=(S (R [z 1 (bx 27 0),o 2 (al 35),o 3 (an 0)])
(S (R [o 12 (fa 27 1 0),o 13 (ld 23 12),o 14 (cl 43 #[(t 13)] #[23]),o 11 (mv 14),o 15 (xt 11 0),o 16 (xt 11 1),o 4 (al 30),w (st 30 4 15),o 5 (av 16)])
(S (R [o 17 (ld 30 4),o 18 (fa 27 1 1),o 19 (ld 3 18),o 20 (.build 35 #[(0,(.tmp 17)),(2,(.tmp 19))]),o 6 (al 35),w (st 35 6 20)])
(S (S (R [o 21 (fa 27 1 2),o 22 (ld 24 21),o 23 (len 22 24),o 24 (.move (.const (.int .i64 0)))])
(.block 0 (.loop [2,5,6,22,23,24] Hy)))
(S (S (R [o 45 (mv 5),o 46 (.binOp .neq 36 (.tmp 45) (.const (.int .i64 0)) 36),o 47 (mv 46),oF 48 (ld 35 6) 47,oF 49 (cl 28 #[(t 48)] #[35]) 47,oF 50 (.unOp .not 4 (.tmp 49)) 47,o 51 (.pick (.tmp 47) (.const (.bool true)) (.tmp 50))])
(.cond (t 51)
(S (R [o 52 (.build 35 #[]),w (st 35 2 52),o 3 (an 1200)])
(.ret [2,3]))
.skip))
(S (R [o 53 (ld 35 6),w (st 35 2 53),o 3 (an 0)])
(.ret [2,3])))))))
def g16:IFn:=⟨54,[.cell 2 35,.tmp 3],[35,36],c16,[],false,none⟩
def c17:IR:=(S (R [o 2 (an 0)])
(S (R [o 3 (mv 0),o 2 (av 3)])
(.ret [2])))
def g17:IFn:=⟨4,[.tmp 2],[3],c17,[],false,none⟩
def Kb:IR:=(S (S (R [o 11 (mv 5),o 12 (fa 27 1 3),o 13 (ld 25 12),o 14 (len 13 25),o 15 (bo .lss (t 11) (t 14))])
(.cond (t 15)
.skip
(.exit 0 [1,4])))
(S (.block 1 (S (R [o 18 (fa 27 1 3),o 19 (ld 25 18),o 20 (mv 5),o 21 (ia 25 19 20),o 22 (ld 44 21),o 23 (cl 46 #[(t 22)] #[44]),o 24 (.unOp .not 4 (.tmp 23))])
(.cond (t 24)
(S (R [o 2 (ab false)])
(.ret [2]))
.skip)))
(R [o 16 (mv 5),o 17 (bo .add (t 16) (n 1)),o 5 (av 17)])))
def c18:IR:=(S (R [z 1 (bx 27 0),o 2 (ab false)])
(S (R [o 7 (ld 27 1),o 8 (cl 45 #[(t 7)] #[27]),o 6 (mv 8),o 9 (xt 6 0),o 10 (xt 6 1),o 3 (al 35),w (st 35 3 9),o 4 (av 10)])
(S (S (R [o 5 (an 0)])
(.block 0 (.loop [1,4,5] Kb)))
(S (R [o 25 (mv 4),o 26 (bo .eql (t 25) (n 0)),o 27 (mv 26),oT 28 (fa 27 1 3) 27,oT 29 (ld 25 28) 27,oT 30 (len 29 25) 27,oT 31 (bo .leq (t 30) (n 256)) 27,o 32 (.pick (.tmp 27) (.tmp 31) (.const (.bool false))),o 2 (av 32)])
(.ret [2])))))
def g18:IFn:=⟨33,[.tmp 2],[4],c18,[],false,none⟩
def aD:IR:=D [o 50 (fa 35 2 3),o 51 (ld 32 50),o 52 (mv 5),o 53 (ia 32 51 52),o 54 (ld 49 53),o 55 (fa 35 3 3),o 56 (ld 32 55),o 57 (mv 5),o 58 (ia 32 56 57),o 59 (ld 49 58),o 60 (cl 25 #[(t 54),(t 59)] #[49,49]),o 61 (.unOp .not 4 (.tmp 60))] [[],[0],[],[1,2],[3],[],[5],[],[6,7],[8],[4,9],[10]]
def RS:IR:=(S (S (R [o 43 (mv 5),o 44 (fa 35 2 3),o 45 (ld 32 44),o 46 (len 45 32),o 47 (bo .lss (t 43) (t 46))])
(.cond (t 47)
.skip
(.exit 0 [])))
(S (.block 1 (S aD
(.cond (t 61)
(S (R [o 4 (ab false)])
(.ret [4]))
.skip)))
(R [o 48 (mv 5),o 49 (bo .add (t 48) (n 1)),o 5 (av 49)])))
def c19:IR:=(S (R [z 2 (bx 35 0),z 3 (bx 35 1),o 4 (ab false)])
(S (S (R [o 6 (fa 35 2 0),o 7 (ld 30 6),o 8 (fa 35 3 0),o 9 (ld 30 8),o 10 (cl 47 #[(t 7),(t 9)] #[30,30]),o 11 (.unOp .not 4 (.tmp 10)),o 12 (mv 11),oF 13 (fa 35 2 1) 12,oF 14 (ld 31 13) 12,oF 15 (fa 35 3 1) 12,oF 16 (ld 31 15) 12,oF 17 (.binOp .neq 31 (.tmp 14) (.tmp 16) 31) 12,o 18 (.pick (.tmp 12) (.const (.bool true)) (.tmp 17)),o 19 (mv 18),oF 20 (fa 35 2 2) 19,oF 21 (ld 3 20) 19,oF 22 (fa 35 3 2) 19,oF 23 (ld 3 22) 19,oF 24 (bo .neq (t 21) (t 23)) 19,o 25 (.pick (.tmp 19) (.const (.bool true)) (.tmp 24)),o 26 (mv 25),oF 27 (fa 35 2 3) 26,oF 28 (ld 32 27) 26,oF 29 (len 28 32) 26,oF 30 (fa 35 3 3) 26,oF 31 (ld 32 30) 26,oF 32 (len 31 32) 26,oF 33 (bo .neq (t 29) (t 32)) 26,o 34 (.pick (.tmp 26) (.const (.bool true)) (.tmp 33)),o 35 (mv 34),oF 36 (fa 35 2 4) 35,oF 37 (ld 33 36) 35,oF 38 (fa 35 3 4) 35,oF 39 (ld 33 38) 35,oF 40 (cl 48 #[(t 37),(t 39)] #[33,33]) 35,oF 41 (.unOp .not 4 (.tmp 40)) 35,o 42 (.pick (.tmp 35) (.const (.bool true)) (.tmp 41))])
(.cond (t 42)
(S (R [o 4 (ab false)])
(.ret [4]))
.skip))
(S (S (R [o 5 (an 0)])
(.block 0 (.loop [2,3,5] RS)))
(S (R [o 4 (ab true)])
(.ret [4])))))
def g19:IFn:=⟨62,[.tmp 4],[4],c19,[],false,none⟩
def c20:IR:=(S (R [z 2 (bx 35 0),z 3 (bx 44 1),o 4 (al 35),o 5 (an 0)])
(S (R [o 11 (ld 35 2),o 12 (ld 44 3),o 13 (cl 22 #[(t 11),(t 12)] #[35,44]),o 10 (mv 13),o 14 (xt 10 0),o 15 (xt 10 1),o 16 (xt 10 2),o 6 (av 14),o 7 (av 15),o 8 (av 16)])
(S (.block 0 (S (R [o 18 (mv 8),o 19 (.binOp .neq 36 (.tmp 18) (.const (.int .i64 0)) 36),o 17 (av 19)])
(.cond (t 17)
(S (R [o 20 (.build 35 #[]),w (st 35 4 20),o 5 (an 2400)])
(.ret [4,5]))
(S (R [o 22 (mv 7),o 23 (.unOp .not 4 (.tmp 22)),o 21 (av 23)])
(.cond (t 21)
(S (R [o 24 (ld 35 2),o 25 (cl 49 #[(t 24)] #[35]),w (st 35 4 25),o 5 (an 0)])
(.ret [4,5]))
.skip)))))
(S (R [o 27 (ld 35 2),o 28 (mv 6),o 29 (cl 26 #[(t 27),(t 28)] #[35,3]),o 26 (mv 29),o 30 (xt 26 0),o 31 (xt 26 1),o 9 (al 35),w (st 35 9 30),o 8 (av 31)])
(S (S (R [o 32 (mv 8),o 33 (.binOp .neq 36 (.tmp 32) (.const (.int .i64 0)) 36)])
(.cond (t 33)
(S (R [o 34 (.build 35 #[]),w (st 35 4 34),o 5 (an 2400)])
(.ret [4,5]))
.skip))
(S (R [o 35 (ld 35 9),w (st 35 4 35),o 5 (an 0)])
(.ret [4,5])))))))
def g20:IFn:=⟨36,[.cell 4 35,.tmp 5],[35,36],c20,[],false,none⟩
def a8f:IR:=(S (S (R [o 11 (mv 8),o 12 (bo .lss (t 11) (n 4))])
(.cond (t 12)
.skip
(.exit 0 [1,4,6,7])))
(S (.block 1 (R [o 15 (mv 8),o 16 (.buildSlice 22 0 #[]),o 17 (mv 8),o 18 (ia 23 2 17),o 19 (ld 22 18),o 20 (.call { callee:=(.builtin .append),args:=#[(.tmp 16),(.tmp 19)],argTypes:=#[22,22] }),o 21 (ia 23 7 15),w (st 22 21 20)]))
(R [o 13 (mv 8),o 14 (bo .add (t 13) (n 1)),o 8 (av 14)])))
def aC:IR:=D [o 44 (fa 99 10 1),o 45 (ld 3 44),o 46 (fa 99 10 1),o 47 (ld 3 46),o 48 (ia 31 6 47),o 49 (ld 3 48),o 50 (fa 99 10 2),o 51 (ld 3 50),o 52 (ia 31 6 51),o 53 (ld 3 52),o 54 (bo .add (t 49) (t 53)),o 55 (bo .and (t 54) (n 255)),o 56 (ia 31 6 45),w (st 3 56 55)] [[],[0],[],[2],[3],[4],[],[6],[7],[8],[5,9],[10],[1,0,1,2,3,4,5,6,7,8,9,10,11],[12,11,0,1,2,3,4,5,6,7,8,9,10,11]]
def aB:IR:=D [o 59 (fa 99 10 1),o 60 (ld 3 59),o 61 (fa 99 10 2),o 62 (ld 3 61),o 63 (ia 23 7 62),o 64 (ld 22 63),o 65 (fa 99 10 3),o 66 (ld 3 65),o 67 (ia 22 64 66),o 68 (ld 3 67),o 69 (ia 31 6 60),w (st 3 69 68)] [[],[0],[],[2],[3],[4],[],[6],[5,7],[8],[1,0,1,2,3,4,5,6,7,8,9],[10,9,0,1,2,3,4,5,6,7,8,9]]
def aA:IR:=D [o 72 (fa 99 10 2),o 73 (ld 3 72),o 74 (ia 23 7 73),o 75 (ld 22 74),o 76 (fa 99 10 3),o 77 (ld 3 76),o 78 (fa 99 10 1),o 79 (ld 3 78),o 80 (ia 31 6 79),o 81 (ld 3 80),o 82 (ia 22 75 77),w (st 3 82 81)] [[],[0],[1],[2],[],[4],[],[6],[7],[8],[3,5,0,1,2,3,4,5,6,7,8,9],[10,9,0,1,2,3,4,5,6,7,8,9]]
def a8e:IR:=(S (S (R [o 22 (mv 9),o 23 (mv 1),o 24 (len 23 45),o 25 (bo .lss (t 22) (t 24))])
(.cond (t 25)
.skip
(.exit 2 [4,7])))
(.block 3 (S (R [o 26 (mv 1),o 27 (mv 9),o 28 (ia 45 26 27),o 29 (ld 99 28),o 10 (al 99),w (st 99 10 29)])
(S (R [o 30 (mv 9),o 31 (bo .add (t 30) (n 1)),o 9 (av 31)])
(S (R [o 32 (fa 99 10 0),o 33 (ld 3 32)])
(.block 4 (S (R [o 36 (bo .eql (t 33) (n 0)),o 35 (av 36)])
(.cond (t 35)
(R [o 37 (fa 99 10 1),o 38 (ld 3 37),o 39 (fa 99 10 2),o 40 (ld 3 39),o 41 (ia 31 6 38),w (st 3 41 40)])
(S (R [o 43 (bo .eql (t 33) (n 1)),o 42 (av 43)])
(.cond (t 42)
aC
(S (R [o 58 (bo .eql (t 33) (n 2)),o 57 (av 58)])
(.cond (t 57)
aB
(S (R [o 71 (bo .eql (t 33) (n 3)),o 70 (av 71)])
(.cond (t 70)
aA
(S (R [o 84 (bo .eql (t 33) (n 4)),o 83 (av 84)])
(.cond (t 83)
(S (R [o 85 (fa 99 10 1),o 86 (ld 3 85),o 87 (ia 31 6 86),o 88 (ld 3 87),o 89 (bo .eql (t 88) (n 0))])
(.cond (t 89)
(R [o 90 (fa 99 10 2),o 91 (ld 3 90),o 9 (av 91)])
.skip))
(S (R [o 34 (ld 23 7),w (st 23 4 34),o 5 (ab false)])
(.ret [4,5]))))))))))))))))))
def c21:IR:=(S (R [z 2 (bx 23 0),o 4 (al 23),o 5 (ab false)])
(S (R [o 6 (al 31)])
(S (R [o 7 (al 23)])
(S (S (R [o 8 (an 0)])
(.block 0 (.loop [1,2,4,6,7,8] a8f)))
(S (S (R [o 9 (an 0)])
(.block 2 (.loop [1,4,6,7,9] a8e)))
(S (R [o 92 (ld 23 7),w (st 23 4 92),o 5 (ab true)])
(.ret [4,5])))))))
def g21:IFn:=⟨93,[.cell 4 23,.tmp 5],[23,4],c21,[],false,none⟩
def Iv:IR:=(S (R [o 22 (bo .lss (t 21) (t 20))])
(S (.cond (t 22)
.skip
(.exit 0 [3,7]))
(S (.block 1 (S (R [o 23 (mv 21),o 24 (ia 32 19 21),o 25 (ld 49 24),o 9 (al 49),o 8 (av 23),w (st 49 9 25)])
(S (R [o 26 (fa 49 9 1),o 27 (ld 3 26),o 28 (fa 44 3 0),o 29 (ld 3 28),o 30 (bo .eql (t 27) (t 29)),o 31 (mv 30),oT 32 (fa 49 9 4) 31,oT 33 (ld 3 32) 31,oT 34 (bo .neq (t 33) (n 6)) 31,o 35 (.pick (.tmp 31) (.tmp 34) (.const (.bool false)))])
(.cond (t 35)
(R [o 36 (mv 7),o 37 (mv 8),o 38 (.buildSlice 22 1 #[(0,(.tmp 37))]),o 39 (.call { callee:=(.builtin .append),args:=#[(.tmp 36),(.tmp 38)],argTypes:=#[22,22] }),o 7 (av 39)])
.skip))))
(R [o 40 (bo .add (t 21) (n 1)),o 21 (mv 40)]))))
def c22:IR:=(S (R [z 2 (bx 35 0),z 3 (bx 44 1),o 4 (an 0),o 5 (ab false),o 6 (an 0)])
(S (S (R [o 10 (ld 35 2),o 11 (cl 28 #[(t 10)] #[35]),o 12 (.unOp .not 4 (.tmp 11)),o 13 (mv 12),oF 14 (ld 44 3) 13,oF 15 (cl 50 #[(t 14)] #[44]) 13,oF 16 (.unOp .not 4 (.tmp 15)) 13,o 17 (.pick (.tmp 13) (.const (.bool true)) (.tmp 16))])
(.cond (t 17)
(S (R [o 4 (an 0),o 5 (ab false),o 6 (an 2400)])
(.ret [4,5,6]))
.skip))
(S (R [o 7 (.assign (.const (.slice none 0 0)))])
(S (S (R [o 18 (fa 35 2 3),o 19 (ld 32 18),o 20 (len 19 32),o 21 (.move (.const (.int .i64 0)))])
(.block 0 (.loop [3,7,19,20,21] Iv)))
(S (S (R [o 41 (mv 7),o 42 (len 41 22),o 43 (bo .eql (t 42) (n 0))])
(.cond (t 43)
(S (R [o 4 (an 0),o 5 (ab false),o 6 (an 0)])
(.ret [4,5,6]))
.skip))
(S (R [o 44 (mv 7),o 45 (fa 44 3 1),o 46 (ld 3 45),o 47 (mv 7),o 48 (len 47 22),o 49 (bo .rem (t 46) (t 48)),o 50 (ia 22 44 49),o 51 (ld 3 50),o 4 (av 51),o 5 (ab true),o 6 (an 0)])
(.ret [4,5,6])))))))
def g22:IFn:=⟨52,[.tmp 4,.tmp 5,.tmp 6],[3,4,36],c22,[],false,none⟩
def ZZ:IR:=D [z 23 (mv 1),z 24 (fa 35 3 0),o 25 (ia 30 24 23),o 26 (ld 29 25),z 27 (mv 2),o 28 (ia 29 26 27),z 29 (fa 55 28 2),o 30 (ld 3 29),z 31 (fa 49 8 0),o 32 (ld 3 31),z 33 (bo .add (t 32) (n 1)),z 34 (bo .neq (t 30) (t 33))] [[],[],[1,0],[2],[],[3,4],[5],[6],[],[8],[9],[7,10]]
def RR:IR:=(S (S (R [z 11 (mv 7),z 12 (fa 35 3 3),o 13 (ld 32 12),z 14 (len 13 32),z 15 (bo .lss (t 11) (t 14))])
(.cond (t 15)
.skip
(.exit 0 [])))
(S (.block 1 (S (R [z 18 (fa 35 3 3),o 19 (ld 32 18),z 20 (mv 7),o 21 (ia 32 19 20),o 22 (ld 49 21),z 8 (al 49),⟨none,st 49 8 22,none,true⟩])
(S (S ZZ
(.cond (t 34)
(.exit 1 [1,2,3,7])
.skip))
(S (R [z 36 (fa 49 8 8),o 37 (ld 47 36),z 38 (mv 1),z 39 (mv 2),z 40 (cl 51 #[(t 37),(t 38),(t 39)] #[47,3,3]),z 35 (mv 40),z 41 (xt 35 0),z 42 (xt 35 1),z 9 (av 41),z 10 (av 42)])
(S (R [z 43 (mv 10),z 44 (mv 43),zT 45 (fa 49 8 1) 44,oT 46 (ld 3 45) 44,zT 47 (mv 1) 44,zT 48 (bo .eql (t 46) (t 47)) 44,z 49 (.pick (.tmp 44) (.tmp 48) (.const (.bool false))),z 50 (mv 49),zT 51 (fa 49 8 4) 50,oT 52 (ld 3 51) 50,zT 53 (bo .eql (t 52) (n 1)) 50,zT 54 (mv 53) 50,zF 55 (fa 49 8 4) 54,oF 56 (ld 3 55) 54,zF 57 (bo .eql (t 56) (n 2)) 54,zT 58 (.pick (.tmp 54) (.const (.bool true)) (.tmp 57)) 50,zT 59 (mv 58) 50,zF 60 (fa 49 8 4) 59,oF 61 (ld 3 60) 59,zF 62 (bo .eql (t 61) (n 3)) 59,zT 63 (.pick (.tmp 59) (.const (.bool true)) (.tmp 62)) 50,zT 64 (mv 63) 50,zF 65 (fa 49 8 4) 64,oF 66 (ld 3 65) 64,zF 67 (bo .eql (t 66) (n 4)) 64,zT 68 (.pick (.tmp 64) (.const (.bool true)) (.tmp 67)) 50,z 69 (.pick (.tmp 50) (.tmp 68) (.const (.bool false))),z 6 (av 69)])
(.ret [6]))))))
(R [z 16 (mv 7),z 17 (bo .add (t 16) (n 1)),z 7 (av 17)])))
def c23:IR:=(S (R [z 3 (bx 35 0),z 6 (ab false)])
(S (S (R [z 7 (an 0)])
(.block 0 (.loop [1,2,3,7] RR)))
(S (R [z 6 (ab false)])
(.ret [6]))))
def g23:IFn:=⟨70,[.tmp 6],[4],c23,[],false,none⟩
def ZY:IR:=D [o 27 (mv 1),o 28 (mv 6),o 29 (ia 46 27 28),o 30 (fa 106 29 0),o 31 (ld 3 30),o 32 (ia 30 2 31),o 33 (ld 29 32),o 34 (mv 1),o 35 (mv 6),o 36 (ia 46 34 35),o 37 (fa 106 36 1),o 38 (ld 3 37),o 39 (ia 29 33 38),o 40 (fa 55 39 1),o 41 (ld 3 40),o 42 (mv 1),o 43 (mv 6),o 44 (ia 46 42 43),o 45 (fa 106 44 2),o 46 (ld 3 45),o 47 (bo .neq (t 41) (t 46))] [[],[],[0,1],[2],[3],[4],[5],[],[],[7,8],[9],[10],[6,11],[12],[13],[],[],[15,16],[17],[18],[14,19]]
def KV:IR:=(S (S (R [o 21 (mv 6),o 22 (mv 1),o 23 (len 22 46),o 24 (bo .lss (t 21) (t 23))])
(.cond (t 24)
.skip
(.exit 0 [])))
(S (.block 1 (S ZY
(.cond (t 47)
(S (R [o 4 (ab true),o 5 (an 0)])
(.ret [4,5]))
.skip)))
(R [o 25 (mv 6),o 26 (bo .add (t 25) (n 1)),o 6 (av 26)])))
def c24:IR:=(S (R [z 2 (bx 30 0),o 4 (ab false),o 5 (an 0)])
(S (S (R [o 7 (ld 30 2),o 8 (cl 52 #[(t 7)] #[30]),o 9 (.unOp .not 4 (.tmp 8)),o 10 (mv 9),oF 11 (mv 1) 10,oF 12 (cl 53 #[(t 11)] #[46]) 10,oF 13 (.unOp .not 4 (.tmp 12)) 10,o 14 (.pick (.tmp 10) (.const (.bool true)) (.tmp 13)),o 15 (mv 14),oF 16 (ld 30 2) 15,oF 17 (mv 1) 15,oF 18 (cl 54 #[(t 16),(t 17)] #[30,46]) 15,oF 19 (.unOp .not 4 (.tmp 18)) 15,o 20 (.pick (.tmp 15) (.const (.bool true)) (.tmp 19))])
(.cond (t 20)
(S (R [o 4 (ab false),o 5 (an 900)])
(.ret [4,5]))
.skip))
(S (S (R [o 6 (an 0)])
(.block 0 (.loop [1,2,6] KV)))
(S (R [o 4 (ab false),o 5 (an 0)])
(.ret [4,5])))))
def g24:IFn:=⟨48,[.tmp 4,.tmp 5],[4,3],c24,[],false,none⟩
def c25:IR:=(S (R [z 2 (bx 49 0),z 3 (bx 49 1),o 4 (ab false)])
(S (R [o 5 (fa 49 2 0),o 6 (ld 3 5),o 7 (fa 49 3 0),o 8 (ld 3 7),o 9 (bo .eql (t 6) (t 8)),o 10 (mv 9),oT 11 (fa 49 2 1) 10,oT 12 (ld 3 11) 10,oT 13 (fa 49 3 1) 10,oT 14 (ld 3 13) 10,oT 15 (bo .eql (t 12) (t 14)) 10,o 16 (.pick (.tmp 10) (.tmp 15) (.const (.bool false))),o 17 (mv 16),oT 18 (fa 49 2 2) 17,oT 19 (ld 3 18) 17,oT 20 (fa 49 3 2) 17,oT 21 (ld 3 20) 17,oT 22 (bo .eql (t 19) (t 21)) 17,o 23 (.pick (.tmp 17) (.tmp 22) (.const (.bool false))),o 24 (mv 23),oT 25 (fa 49 2 3) 24,oT 26 (ld 45 25) 24,oT 27 (fa 49 3 3) 24,oT 28 (ld 45 27) 24,oT 29 (cl 55 #[(t 26),(t 28)] #[45,45]) 24,o 30 (.pick (.tmp 24) (.tmp 29) (.const (.bool false))),o 31 (mv 30),oT 32 (fa 49 2 4) 31,oT 33 (ld 3 32) 31,oT 34 (fa 49 3 4) 31,oT 35 (ld 3 34) 31,oT 36 (bo .eql (t 33) (t 35)) 31,o 37 (.pick (.tmp 31) (.tmp 36) (.const (.bool false))),o 38 (mv 37),oT 39 (fa 49 2 5) 38,oT 40 (ld 3 39) 38,oT 41 (fa 49 3 5) 38,oT 42 (ld 3 41) 38,oT 43 (bo .eql (t 40) (t 42)) 38,o 44 (.pick (.tmp 38) (.tmp 43) (.const (.bool false))),o 45 (mv 44),oT 46 (fa 49 2 6) 45,oT 47 (ld 31 46) 45,oT 48 (fa 49 3 6) 45,oT 49 (ld 31 48) 45,oT 50 (.binOp .eql 31 (.tmp 47) (.tmp 49) 31) 45,o 51 (.pick (.tmp 45) (.tmp 50) (.const (.bool false))),o 52 (mv 51),oT 53 (fa 49 2 7) 52,oT 54 (ld 46 53) 52,oT 55 (fa 49 3 7) 52,oT 56 (ld 46 55) 52,oT 57 (cl 56 #[(t 54),(t 56)] #[46,46]) 52,o 58 (.pick (.tmp 52) (.tmp 57) (.const (.bool false))),o 59 (mv 58),oT 60 (fa 49 2 8) 59,oT 61 (ld 47 60) 59,oT 62 (fa 49 3 8) 59,oT 63 (ld 47 62) 59,oT 64 (cl 57 #[(t 61),(t 63)] #[47,47]) 59,o 65 (.pick (.tmp 59) (.tmp 64) (.const (.bool false))),o 66 (mv 65),oT 67 (fa 49 2 9) 66,oT 68 (ld 3 67) 66,oT 69 (fa 49 3 9) 66,oT 70 (ld 3 69) 66,oT 71 (bo .eql (t 68) (t 70)) 66,o 72 (.pick (.tmp 66) (.tmp 71) (.const (.bool false))),o 73 (mv 72),oT 74 (fa 49 2 10) 73,oT 75 (ld 3 74) 73,oT 76 (fa 49 3 10) 73,oT 77 (ld 3 76) 73,oT 78 (bo .eql (t 75) (t 77)) 73,o 79 (.pick (.tmp 73) (.tmp 78) (.const (.bool false))),o 80 (mv 79),oT 81 (fa 49 2 11) 80,oT 82 (ld 3 81) 80,oT 83 (fa 49 3 11) 80,oT 84 (ld 3 83) 80,oT 85 (bo .eql (t 82) (t 84)) 80,o 86 (.pick (.tmp 80) (.tmp 85) (.const (.bool false))),o 87 (mv 86),oT 88 (fa 49 2 12) 87,oT 89 (ld 3 88) 87,oT 90 (fa 49 3 12) 87,oT 91 (ld 3 90) 87,oT 92 (bo .eql (t 89) (t 91)) 87,o 93 (.pick (.tmp 87) (.tmp 92) (.const (.bool false))),o 94 (mv 93),oT 95 (fa 49 2 13) 94,oT 96 (ld 3 95) 94,oT 97 (fa 49 3 13) 94,oT 98 (ld 3 97) 94,oT 99 (bo .eql (t 96) (t 98)) 94,o 100 (.pick (.tmp 94) (.tmp 99) (.const (.bool false))),o 4 (av 100)])
(.ret [4])))
def g25:IFn:=⟨101,[.tmp 4],[4],c25,[],false,none⟩
def c26:IR:=(S (R [z 2 (bx 35 0),o 4 (al 35),o 5 (an 0)])
(S (S (R [o 8 (mv 1),o 9 (cl 58 #[(t 2),(t 8)] #[111,3]),o 10 (.unOp .not 4 (.tmp 9))])
(.cond (t 10)
(S (R [o 11 (.build 35 #[]),w (st 35 4 11),o 5 (an 2300)])
(.ret [4,5]))
.skip))
(S (R [o 13 (ld 35 2),o 14 (mv 1),o 15 (.build 113 #[(0,(.tmp 13)),(1,(.tmp 14))]),o 16 (cl 59 #[(t 15)] #[113]),o 12 (mv 16),o 17 (xt 12 0),o 18 (xt 12 1),o 6 (al 35),w (st 35 6 17),o 7 (av 18)])
(S (S (R [o 19 (mv 7),o 20 (.binOp .neq 36 (.tmp 19) (.const (.int .i64 0)) 36)])
(.cond (t 20)
(S (R [o 21 (.build 35 #[]),w (st 35 4 21),o 5 (an 2300)])
(.ret [4,5]))
.skip))
(S (R [o 22 (ld 35 6),w (st 35 4 22),o 5 (an 0)])
(.ret [4,5]))))))
def g26:IFn:=⟨23,[.cell 4 35,.tmp 5],[35,36],c26,[],false,none⟩
def Ka:IR:=(S (R [o 23 (bo .lss (t 22) (t 21))])
(S (.cond (t 23)
.skip
(.exit 0 [2,4]))
(S (.block 1 (S (R [o 24 (ia 25 20 22),o 25 (ld 44 24),o 7 (al 44),w (st 44 7 25)])
(S (R [o 27 (ld 35 4),o 28 (ld 44 7),o 29 (cl 20 #[(t 27),(t 28)] #[35,44]),o 26 (mv 29),o 30 (xt 26 0),o 31 (xt 26 1),o 8 (al 35),w (st 35 8 30),o 9 (av 31)])
(S (S (R [o 32 (mv 9),o 33 (.binOp .neq 36 (.tmp 32) (.const (.int .i64 0)) 36)])
(.cond (t 33)
(S (R [o 34 (.build 35 #[]),w (st 35 2 34),o 3 (an 2500)])
(.ret [2,3]))
.skip))
(R [o 35 (ld 35 8),w (st 35 4 35)])))))
(R [o 36 (bo .add (t 22) (n 1)),o 22 (mv 36)]))))
def c27:IR:=(S (R [z 1 (bx 27 0),o 2 (al 35),o 3 (an 0)])
(S (S (R [o 10 (ld 27 1),o 11 (cl 35 #[(t 10)] #[27]),o 12 (.unOp .not 4 (.tmp 11))])
(.cond (t 12)
(S (R [o 13 (.build 35 #[]),w (st 35 2 13),o 3 (an 2500)])
(.ret [2,3]))
.skip))
(S (R [o 15 (ld 27 1),o 16 (cl 16 #[(t 15)] #[27]),o 14 (mv 16),o 17 (xt 14 0),o 18 (xt 14 1),o 4 (al 35),w (st 35 4 17),o 5 (av 18)])
(S (S (R [o 19 (fa 27 1 3),o 20 (ld 25 19),o 21 (len 20 25),o 22 (.move (.const (.int .i64 0)))])
(.block 0 (.loop [2,4,20,21,22] Ka)))
(S (R [o 37 (ld 35 4),w (st 35 2 37),o 3 (an 0)])
(.ret [2,3]))))))
def g27:IFn:=⟨38,[.cell 2 35,.tmp 3],[35,36],c27,[],false,none⟩
def ZX:IR:=D [o 5 (fa 35 1 0),o 6 (ld 30 5),o 7 (cl 60 #[(t 6)] #[30]),o 8 (.unOp .not 4 (.tmp 7)),o 9 (mv 8),oF 10 (fa 35 1 1) 9,oF 11 (fa 35 1 2) 9,oF 12 (ld 3 11) 9,oF 13 (cl 61 #[(t 10),(t 12)] #[116,3]) 9,oF 14 (.unOp .not 4 (.tmp 13)) 9,o 15 (.pick (.tmp 9) (.const (.bool true)) (.tmp 14)),o 16 (mv 15),oF 17 (fa 35 1 1) 16,oF 18 (.slice 31 (.tmp 17) none none none) 16,oF 19 (cl 62 #[(t 18)] #[22]) 16,oF 20 (fa 35 1 2) 16,oF 21 (ld 3 20) 16,oF 22 (bo .gtr (t 19) (t 21)) 16,o 23 (.pick (.tmp 16) (.const (.bool true)) (.tmp 22)),o 24 (mv 23),oF 25 (fa 35 1 3) 24,oF 26 (ld 32 25) 24,oF 27 (len 26 32) 24,oF 28 (bo .gtr (t 27) (n 4)) 24,o 29 (.pick (.tmp 24) (.const (.bool true)) (.tmp 28)),o 30 (mv 29),oF 31 (fa 35 1 4) 30,oF 32 (ld 33 31) 30,oF 33 (len 32 33) 30,oF 34 (bo .gtr (t 33) (n 512)) 30,o 35 (.pick (.tmp 30) (.const (.bool true)) (.tmp 34))] [[],[0],[1],[2],[3,2],[4],[4],[6,4],[5,7,4,4],[8,4],[4,9],[10,8],[11],[12,11],[13,11,11],[11],[15,11],[14,16,11],[11,17],[18,14],[19],[20,19],[21,19],[22,19],[19,23],[24,19],[25],[26,25],[27,25],[28,25],[25,29]]
def ZW:IR:=D [o 42 (mv 3),o 43 (bo .gtr (t 42) (n 0)),o 44 (mv 43),oT 45 (fa 35 1 3) 44,oT 46 (ld 32 45) 44,oT 47 (mv 3) 44,oT 48 (bo .sub (t 47) (n 1)) 44,oT 49 (ia 32 46 48) 44,oT 50 (fa 49 49 0) 44,oT 51 (ld 3 50) 44,oT 52 (fa 35 1 3) 44,oT 53 (ld 32 52) 44,oT 54 (mv 3) 44,oT 55 (ia 32 53 54) 44,oT 56 (fa 49 55 0) 44,oT 57 (ld 3 56) 44,oT 58 (bo .geq (t 51) (t 57)) 44,o 59 (.pick (.tmp 44) (.tmp 58) (.const (.bool false)))] [[],[0],[1],[2],[3,2],[2],[5,2],[4,6,2],[7,2],[8,2],[2],[10,2],[2],[11,12,2],[13,2],[14,2],[9,15,2],[2,16]]
def PY:IR:=(S (R [o 40 (bo .lss (t 39) (t 38))])
(S (.cond (t 40)
.skip
(.exit 0 [1]))
(S (.block 1 (S (R [o 41 (mv 39),o 3 (av 41)])
(S ZW
(.cond (t 59)
(S (R [o 2 (ab false)])
(.ret [2]))
.skip))))
(R [o 60 (bo .add (t 39) (n 1)),o 39 (mv 60)]))))
def c28:IR:=(S (R [z 1 (bx 35 0),o 2 (ab false)])
(S (S ZX
(.cond (t 35)
(S (R [o 2 (ab false)])
(.ret [2]))
.skip))
(S (S (R [o 36 (fa 35 1 3),o 37 (ld 32 36),o 38 (len 37 32),o 39 (.move (.const (.int .i64 0)))])
(.block 0 (.loop [1,38,39] PY)))
(S (R [o 4 (.assign (.func 63))])
(S (R [o 61 (fa 35 1 3),o 62 (ld 32 61),o 63 (fa 35 1 0),o 64 (.build 124 #[(0,(.tmp 63))]),o 65 (.makeFunc (Go.Fn.func 66) #[(.tmp 64)] #[]),o 66 (cl 65 #[(t 62),(t 65)] #[32,121]),o 67 (mv 66),oT 68 (fa 35 1 4) 67,oT 69 (ld 33 68) 67,oT 70 (mv 4) 67,oT 71 (cl 67 #[(t 69),(t 70)] #[33,119]) 67,o 72 (.pick (.tmp 67) (.tmp 71) (.const (.bool false))),o 2 (av 72)])
(.ret [2]))))))
def g28:IFn:=⟨73,[.tmp 2],[4],c28,[],false,none⟩
def ZV:IR:=D [o 12 (mv 4),o 13 (bo .gtr (t 12) (n 0)),o 14 (mv 13),oT 15 (mv 0) 14,oT 16 (mv 4) 14,oT 17 (bo .sub (t 16) (n 1)) 14,oT 18 (ia 22 15 17) 14,oT 19 (ld 3 18) 14,oT 20 (mv 0) 14,oT 21 (mv 4) 14,oT 22 (ia 22 20 21) 14,oT 23 (ld 3 22) 14,oT 24 (cl 69 #[(t 19),(t 23)] #[3,3]) 14,oT 25 (.unOp .not 4 (.tmp 24)) 14,o 26 (.pick (.tmp 14) (.tmp 25) (.const (.bool false)))] [[],[0],[1],[2],[2],[4,2],[3,5,2],[6,2],[2],[2],[8,9,2],[10,2],[7,11,2,2],[12,2],[2,13]]
def aK:IR:=(S (R [o 10 (bo .lss (t 9) (t 8))])
(S (.cond (t 10)
.skip
(.exit 0 []))
(S (.block 1 (S (R [o 11 (mv 9),o 4 (av 11)])
(S ZV
(.cond (t 26)
(S (R [o 2 (ab false),o 3 (an 0)])
(.ret [2,3]))
.skip))))
(R [o 27 (bo .add (t 9) (n 1)),o 9 (mv 27)]))))
def c29:IR:=(S (R [o 2 (ab false),o 3 (an 0)])
(S (S (R [o 5 (mv 0),o 6 (cl 68 #[(t 5)] #[22])])
(.cond (t 6)
(S (R [o 2 (ab false),o 3 (an 200)])
(.ret [2,3]))
.skip))
(S (S (R [o 7 (mv 0),o 8 (len 7 22),o 9 (.move (.const (.int .i64 0)))])
(.block 0 (.loop [0,8,9] aK)))
(S (R [o 2 (ab true),o 3 (an 0)])
(.ret [2,3])))))
def g29:IFn:=⟨28,[.tmp 2,.tmp 3],[4,36],c29,[],false,none⟩
def ZU:IR:=D [o 7 (fa 27 1 1),o 8 (ld 3 7),o 9 (.buildSlice 25 0 #[]),o 10 (fa 27 1 3),o 11 (ld 25 10),o 12 (.call { callee:=(.builtin .append),args:=#[(.tmp 9),(.tmp 11)],argTypes:=#[25,25] }),o 13 (.build 27 #[(1,(.tmp 8)),(3,(.tmp 12))]),o 3 (al 27),w (st 27 3 13)] [[],[0],[],[],[3],[2,4],[1,5],[],[7,6,5,0,1,2,3,4,5,6,7]]
def zB:IR:=(S (S (R [o 14 (mv 4),o 15 (bo .lss (t 14) (n 4))])
(.cond (t 15)
.skip
(.exit 0 [1,2,3])))
(S (.block 1 (R [o 18 (mv 4),o 19 (.buildSlice 22 0 #[]),o 20 (mv 4),o 21 (fa 27 1 0),o 22 (ia 23 21 20),o 23 (ld 22 22),o 24 (.call { callee:=(.builtin .append),args:=#[(.tmp 19),(.tmp 23)],argTypes:=#[22,22] }),o 25 (fa 27 3 0),o 26 (ia 23 25 18),w (st 22 26 24)]))
(R [o 16 (mv 4),o 17 (bo .add (t 16) (n 1)),o 4 (av 17)])))
def Ws:IR:=(S (S (R [o 27 (mv 5),o 28 (fa 27 1 2),o 29 (ld 24 28),o 30 (len 29 24),o 31 (bo .lss (t 27) (t 30))])
(.cond (t 31)
.skip
(.exit 2 [2,3])))
(S (.block 3 (S (R [o 34 (fa 27 1 2),o 35 (ld 24 34),o 36 (mv 5),o 37 (ia 24 35 36),o 38 (ld 53 37),o 6 (al 53),w (st 53 6 38)])
(S (R [o 39 (.buildSlice 45 0 #[]),o 40 (fa 53 6 3),o 41 (ld 45 40),o 42 (.call { callee:=(.builtin .append),args:=#[(.tmp 39),(.tmp 41)],argTypes:=#[45,45] }),o 43 (fa 53 6 3),w (st 45 43 42)])
(R [o 44 (fa 27 3 2),o 45 (ld 24 44),o 46 (ld 53 6),o 47 (.buildSlice 24 1 #[(0,(.tmp 46))]),o 48 (.call { callee:=(.builtin .append),args:=#[(.tmp 45),(.tmp 47)],argTypes:=#[24,24] }),o 49 (fa 27 3 2),w (st 24 49 48)]))))
(R [o 32 (mv 5),o 33 (bo .add (t 32) (n 1)),o 5 (av 33)])))
def c30:IR:=(S (R [z 1 (bx 27 0),o 2 (al 27)])
(S ZU
(S (S (R [o 4 (an 0)])
(.block 0 (.loop [1,2,3,4] zB)))
(S (S (R [o 5 (an 0)])
(.block 2 (.loop [1,2,3,5] Ws)))
(S (R [o 50 (ld 27 3),w (st 27 2 50)])
(.ret [2]))))))
def g30:IFn:=⟨51,[.cell 2 27],[27],c30,[],false,none⟩
def c31:IR:=(S (R [o 4 (ab false)])
(S (R [o 5 (mv 0),o 6 (mv 1),o 7 (bo .or (t 5) (t 6)),o 8 (mv 1),o 9 (bo .eql (t 7) (t 8)),o 4 (av 9)])
(.ret [4])))
def g31:IFn:=⟨10,[.tmp 4],[4],c31,[],false,none⟩
def zA:IR:=(S (R [o 20 (bo .lss (t 19) (n 4))])
(S (.cond (t 20)
.skip
(.exit 0 [1,4,6]))
(S (.block 1 (S (R [o 21 (mv 19),o 7 (av 21)])
(S (R [o 22 (mv 7),o 23 (mv 1),o 24 (cl 69 #[(t 22),(t 23)] #[3,3]),o 25 (.unOp .not 4 (.tmp 24))])
(.cond (t 25)
(R [o 26 (mv 7),o 27 (mv 7),o 28 (fa 35 6 0),o 29 (ia 30 28 26),w (.store 29 (.tmp 29) (.const (.slice none 0 0))),o 30 (fa 35 6 1),o 31 (ia 31 30 27),w (.store 3 (.tmp 31) (.const (.int .i64 0)))])
.skip))))
(R [o 32 (bo .add (t 19) (n 1)),o 19 (mv 32)]))))
def c32:IR:=(S (R [z 2 (bx 35 0),o 4 (al 35),o 5 (an 0)])
(S (S (R [o 8 (ld 35 2),o 9 (cl 28 #[(t 8)] #[35]),o 10 (.unOp .not 4 (.tmp 9)),o 11 (mv 10),oF 12 (mv 1) 11,oF 13 (cl 64 #[(t 12)] #[3]) 11,oF 14 (.unOp .not 4 (.tmp 13)) 11,o 15 (.pick (.tmp 11) (.const (.bool true)) (.tmp 14))])
(.cond (t 15)
(S (R [o 16 (.build 35 #[]),w (st 35 4 16),o 5 (an 2500)])
(.ret [4,5]))
.skip))
(S (R [o 17 (ld 35 2),o 18 (cl 49 #[(t 17)] #[35]),o 6 (al 35),w (st 35 6 18)])
(S (S (R [o 19 (.move (.const (.int .i64 0)))])
(.block 0 (.loop [1,4,6,19] zA)))
(S (R [o 33 (fa 35 6 3),o 34 (ld 32 33),o 35 (mv 1),o 36 (cl 70 #[(t 34),(t 35),(f 71)] #[32,3,128]),o 37 (fa 35 6 3),w (st 32 37 36)])
(S (R [o 38 (fa 35 6 4),o 39 (ld 33 38),o 40 (mv 1),o 41 (cl 72 #[(t 39),(t 40),(f 73)] #[33,3,130]),o 42 (fa 35 6 4),w (st 33 42 41)])
(S (R [o 43 (ld 35 6),w (st 35 4 43),o 5 (an 0)])
(.ret [4,5]))))))))
def g32:IFn:=⟨44,[.cell 4 35,.tmp 5],[35,36],c32,[],false,none⟩
def yZ:IR:=(S (R [o 26 (bo .lss (t 25) (n 4))])
(S (.cond (t 26)
.skip
(.exit 0 [1,2,4,6]))
(S (.block 1 (S (R [o 27 (mv 25),o 28 (.index 23 (.tmp 24) (.tmp 25)),o 7 (av 27),o 8 (av 28)])
(S (R [o 29 (mv 7),o 30 (mv 8),o 31 (len 30 22),o 32 (.makeSlice 22 (.tmp 31) (.tmp 31)),o 33 (fa 27 6 0),o 34 (ia 23 33 29),w (st 22 34 32)])
(S (R [o 35 (mv 7),o 36 (mv 1),o 37 (cl 69 #[(t 35),(t 36)] #[3,3])])
(.cond (t 37)
(R [o 38 (mv 7),o 39 (fa 27 6 0),o 40 (ia 23 39 38),o 41 (ld 22 40),o 42 (mv 8),o 43 (.call { callee:=(.builtin .copy),args:=#[(.tmp 41),(.tmp 42)],argTypes:=#[22,22] })])
.skip)))))
(R [o 44 (bo .add (t 25) (n 1)),o 25 (mv 44)]))))
def ZT:IR:=D [o 63 (fa 27 6 2),o 64 (ld 24 63),o 65 (mv 9),o 66 (fa 53 10 3),o 67 (ld 45 66),o 68 (cl 78 #[(t 67)] #[45]),o 69 (ia 24 64 65),o 70 (fa 53 69 3),w (st 45 70 68)] [[],[0],[],[],[3],[4],[1,2,0,1,2,3,4,5],[6,0,1,2,3,4,5],[7,5,5,0,1,2,3,4,5]]
def Wr:IR:=(S (R [o 59 (bo .lss (t 58) (t 57))])
(S (.cond (t 59)
.skip
(.exit 2 [4,6]))
(S (.block 3 (S (R [o 60 (mv 58),o 61 (ia 24 56 58),o 62 (ld 53 61),o 10 (al 53),o 9 (av 60),w (st 53 10 62)])
ZT))
(R [o 71 (bo .add (t 58) (n 1)),o 58 (mv 71)]))))
def c33:IR:=(S (R [z 2 (bx 27 0),o 4 (al 27),o 5 (an 0)])
(S (S (R [o 11 (ld 27 2),o 12 (cl 35 #[(t 11)] #[27]),o 13 (.unOp .not 4 (.tmp 12)),o 14 (mv 13),oF 15 (mv 1) 14,oF 16 (cl 64 #[(t 15)] #[3]) 14,oF 17 (.unOp .not 4 (.tmp 16)) 14,o 18 (.pick (.tmp 14) (.const (.bool true)) (.tmp 17))])
(.cond (t 18)
(S (R [o 19 (.build 27 #[]),w (st 27 4 19),o 5 (an 2500)])
(.ret [4,5]))
.skip))
(S (R [o 20 (fa 27 2 1),o 21 (ld 3 20),o 22 (.build 27 #[(1,(.tmp 21))]),o 6 (al 27),w (st 27 6 22)])
(S (S (R [o 23 (fa 27 2 0),o 24 (ld 23 23),o 25 (.move (.const (.int .i64 0)))])
(.block 0 (.loop [1,2,4,6,24,25] yZ)))
(S (R [o 45 (fa 27 2 2),o 46 (ld 24 45),o 47 (mv 1),o 48 (cl 74 #[(t 46),(t 47),(f 75)] #[24,3,132]),o 49 (fa 27 6 2),w (st 24 49 48)])
(S (R [o 50 (fa 27 2 3),o 51 (ld 25 50),o 52 (mv 1),o 53 (cl 76 #[(t 51),(t 52),(f 77)] #[25,3,134]),o 54 (fa 27 6 3),w (st 25 54 53)])
(S (S (R [o 55 (fa 27 6 2),o 56 (ld 24 55),o 57 (len 56 24),o 58 (.move (.const (.int .i64 0)))])
(.block 2 (.loop [4,6,56,57,58] Wr)))
(S (R [o 72 (ld 27 6),w (st 27 4 72),o 5 (an 0)])
(.ret [4,5])))))))))
def g33:IFn:=⟨73,[.cell 4 27,.tmp 5],[27,36],c33,[],false,none⟩
def ZS:IR:=D [o 13 (mv 5),o 14 (fa 27 2 0),o 15 (ia 23 14 13),o 16 (ld 22 15),o 17 (mv 5),o 18 (fa 27 3 0),o 19 (ia 23 18 17),o 20 (ld 22 19),o 21 (cl 79 #[(t 16),(t 20)] #[22,22]),o 22 (.unOp .not 4 (.tmp 21))] [[],[],[1,0],[2],[],[],[5,4],[6],[3,7],[8]]
def Mu:IR:=(S (S (R [o 9 (mv 5),o 10 (bo .lss (t 9) (n 4))])
(.cond (t 10)
.skip
(.exit 0 [2,3])))
(S (.block 1 (S ZS
(.cond (t 22)
(S (R [o 4 (ab false)])
(.ret [4]))
.skip)))
(R [o 11 (mv 5),o 12 (bo .add (t 11) (n 1)),o 5 (av 12)])))
def ZR:IR:=D [o 52 (fa 27 2 2),o 53 (ld 24 52),o 54 (mv 6),o 55 (ia 24 53 54),o 56 (ld 53 55),o 57 (fa 27 3 2),o 58 (ld 24 57),o 59 (mv 6),o 60 (ia 24 58 59),o 61 (ld 53 60),o 7 (al 53),o 8 (al 53),w (st 53 7 56),w (st 53 8 61)] [[],[0],[],[1,2],[3],[],[5],[],[6,7],[8],[],[],[10,4,0,1,2,3,4,10,11],[11,9,12,0,1,2,3,4,5,6,7,8,9,10,11,12]]
def Mt:IR:=(S (S (R [o 45 (mv 6),o 46 (fa 27 2 2),o 47 (ld 24 46),o 48 (len 47 24),o 49 (bo .lss (t 45) (t 48))])
(.cond (t 49)
.skip
(.exit 2 [])))
(S (.block 3 (S ZR
(S (R [o 62 (fa 53 7 0),o 63 (ld 3 62),o 64 (fa 53 8 0),o 65 (ld 3 64),o 66 (bo .neq (t 63) (t 65)),o 67 (mv 66),oF 68 (fa 53 7 1) 67,oF 69 (ld 3 68) 67,oF 70 (fa 53 8 1) 67,oF 71 (ld 3 70) 67,oF 72 (bo .neq (t 69) (t 71)) 67,o 73 (.pick (.tmp 67) (.const (.bool true)) (.tmp 72)),o 74 (mv 73),oF 75 (fa 53 7 2) 74,oF 76 (ld 3 75) 74,oF 77 (fa 53 8 2) 74,oF 78 (ld 3 77) 74,oF 79 (bo .neq (t 76) (t 78)) 74,o 80 (.pick (.tmp 74) (.const (.bool true)) (.tmp 79)),o 81 (mv 80),oF 82 (fa 53 7 3) 81,oF 83 (ld 45 82) 81,oF 84 (fa 53 8 3) 81,oF 85 (ld 45 84) 81,oF 86 (cl 55 #[(t 83),(t 85)] #[45,45]) 81,oF 87 (.unOp .not 4 (.tmp 86)) 81,o 88 (.pick (.tmp 81) (.const (.bool true)) (.tmp 87))])
(.cond (t 88)
(S (R [o 4 (ab false)])
(.ret [4]))
.skip))))
(R [o 50 (mv 6),o 51 (bo .add (t 50) (n 1)),o 6 (av 51)])))
def c34:IR:=(S (R [z 2 (bx 27 0),z 3 (bx 27 1),o 4 (ab false)])
(S (S (R [o 5 (an 0)])
(.block 0 (.loop [2,3,5] Mu)))
(S (S (R [o 23 (fa 27 2 1),o 24 (ld 3 23),o 25 (fa 27 3 1),o 26 (ld 3 25),o 27 (bo .neq (t 24) (t 26)),o 28 (mv 27),oF 29 (fa 27 2 2) 28,oF 30 (ld 24 29) 28,oF 31 (len 30 24) 28,oF 32 (fa 27 3 2) 28,oF 33 (ld 24 32) 28,oF 34 (len 33 24) 28,oF 35 (bo .neq (t 31) (t 34)) 28,o 36 (.pick (.tmp 28) (.const (.bool true)) (.tmp 35)),o 37 (mv 36),oF 38 (fa 27 2 3) 37,oF 39 (ld 25 38) 37,oF 40 (fa 27 3 3) 37,oF 41 (ld 25 40) 37,oF 42 (cl 80 #[(t 39),(t 41)] #[25,25]) 37,oF 43 (.unOp .not 4 (.tmp 42)) 37,o 44 (.pick (.tmp 37) (.const (.bool true)) (.tmp 43))])
(.cond (t 44)
(S (R [o 4 (ab false)])
(.ret [4]))
.skip))
(S (S (R [o 6 (an 0)])
(.block 2 (.loop [2,3,6] Mt)))
(S (R [o 4 (ab true)])
(.ret [4]))))))
def g34:IFn:=⟨89,[.tmp 4],[4],c34,[],false,none⟩
def c35:IR:=(S (R [z 1 (bx 27 0),o 2 (ab false)])
(S (R [o 7 (ld 27 1),o 8 (cl 16 #[(t 7)] #[27]),o 6 (mv 8),o 9 (xt 6 0),o 10 (xt 6 1),o 3 (al 35),w (st 35 3 9),o 4 (av 10)])
(S (R [o 5 (.assign (.func 81))])
(S (R [o 11 (mv 4),o 12 (.binOp .eql 36 (.tmp 11) (.const (.int .i64 0)) 36),o 13 (mv 12),oT 14 (fa 27 1 3) 13,oT 15 (ld 25 14) 13,oT 16 (len 15 25) 13,oT 17 (bo .leq (t 16) (n 256)) 13,o 18 (.pick (.tmp 13) (.tmp 17) (.const (.bool false))),o 19 (mv 18),oT 20 (fa 27 1 3) 19,oT 21 (ld 25 20) 19,oT 22 (mv 5) 19,oT 23 (cl 82 #[(t 21),(t 22)] #[25,94]) 19,oT 24 (.unOp .not 4 (.tmp 23)) 19,o 25 (.pick (.tmp 19) (.tmp 24) (.const (.bool false))),o 2 (av 25)])
(.ret [2])))))
def g35:IFn:=⟨26,[.tmp 2],[4],c35,[],false,none⟩
def yY:IR:=(S (S (R [o 4 (mv 2),o 5 (bo .lss (t 4) (n 4))])
(.cond (t 5)
.skip
(.exit 0 [1])))
(S (.block 1 (R [o 8 (mv 2),o 9 (fa 27 1 0),o 10 (ia 23 9 8),o 11 (ld 22 10),o 12 (cl 83 #[(t 11)] #[22])]))
(R [o 6 (mv 2),o 7 (bo .add (t 6) (n 1)),o 2 (av 7)])))
def ZQ:IR:=D [o 27 (fa 27 1 2),o 28 (ld 24 27),o 29 (mv 3),o 30 (fa 27 1 2),o 31 (ld 24 30),o 32 (mv 3),o 33 (ia 24 31 32),o 34 (fa 53 33 0),o 35 (ld 3 34),o 36 (bo .xor (t 35) (n 90)),o 37 (ia 24 28 29),o 38 (fa 53 37 0),w (st 3 38 36)] [[],[0],[],[],[3],[],[4,5],[6],[7],[8],[1,2,0,1,2,3,4,5,6,7,8,9],[10,0,1,2,3,4,5,6,7,8,9],[11,9,0,1,2,3,4,5,6,7,8,9]]
def Wq:IR:=(S (S (R [o 13 (mv 3),o 14 (fa 27 1 2),o 15 (ld 24 14),o 16 (len 15 24),o 17 (bo .lss (t 13) (t 16))])
(.cond (t 17)
.skip
(.exit 2 [1])))
(S (.block 3 (S (R [o 20 (fa 27 1 2),o 21 (ld 24 20),o 22 (mv 3),o 23 (ia 24 21 22),o 24 (fa 53 23 3),o 25 (ld 45 24),o 26 (cl 84 #[(t 25)] #[45])])
ZQ))
(R [o 18 (mv 3),o 19 (bo .add (t 18) (n 1)),o 3 (av 19)])))
def c36:IR:=(S (R [o 1 (bx 27 0)])
(S (S (R [o 2 (an 0)])
(.block 0 (.loop [1,2] yY)))
(S (S (R [o 3 (an 0)])
(.block 2 (.loop [1,3] Wq)))
(R [o 39 (fa 27 1 3),o 40 (ld 25 39),o 41 (cl 85 #[(t 40)] #[25])]))))
def g36:IFn:=⟨42,[],[],c36,[true],false,none⟩
def ZP:IR:=D [o 19 (fa 35 1 3),o 20 (ld 32 19),o 21 (mv 2),o 22 (fa 35 1 3),o 23 (ld 32 22),o 24 (mv 2),o 25 (ia 32 23 24),o 26 (fa 49 25 0),o 27 (ld 3 26),o 28 (bo .xor (t 27) (n 90)),o 29 (ia 32 20 21),o 30 (fa 49 29 0),w (st 3 30 28)] [[],[0],[],[],[3],[],[4,5],[6],[7],[8],[1,2,0,1,2,3,4,5,6,7,8,9],[10,0,1,2,3,4,5,6,7,8,9],[11,9,0,1,2,3,4,5,6,7,8,9]]
def Wp:IR:=(S (S (R [o 6 (mv 2),o 7 (fa 35 1 3),o 8 (ld 32 7),o 9 (len 8 32),o 10 (bo .lss (t 6) (t 9))])
(.cond (t 10)
.skip
(.exit 0 [1])))
(S (.block 1 (S (R [o 13 (fa 35 1 3),o 14 (ld 32 13),o 15 (mv 2),o 16 (ia 32 14 15),o 17 (ld 49 16),o 18 (cl 87 #[(t 17)] #[49])])
ZP))
(R [o 11 (mv 2),o 12 (bo .add (t 11) (n 1)),o 2 (av 12)])))
def c37:IR:=(S (R [o 1 (bx 35 0)])
(S (R [o 3 (fa 35 1 0),o 4 (ld 30 3),o 5 (cl 86 #[(t 4)] #[30])])
(S (S (R [o 2 (an 0)])
(.block 0 (.loop [1,2] Wp)))
(R [o 31 (fa 35 1 4),o 32 (ld 33 31),o 33 (cl 88 #[(t 32)] #[33])]))))
def g37:IFn:=⟨34,[],[],c37,[true],false,none⟩
def c40:IR:=(S (R [z 1 (bx 53 0),o 2 (ab false)])
(S (R [o 3 (fa 53 1 0),o 4 (ld 3 3),o 5 (cl 92 #[(t 4)] #[3]),o 6 (mv 5),oT 7 (fa 53 1 1) 6,oT 8 (ld 3 7) 6,oT 9 (cl 64 #[(t 8)] #[3]) 6,o 10 (.pick (.tmp 6) (.tmp 9) (.const (.bool false))),o 11 (mv 10),oT 12 (fa 53 1 2) 11,oT 13 (ld 3 12) 11,oT 14 (cl 64 #[(t 13)] #[3]) 11,o 15 (.pick (.tmp 11) (.tmp 14) (.const (.bool false))),o 16 (mv 15),oT 17 (fa 53 1 1) 16,oT 18 (ld 3 17) 16,oT 19 (fa 53 1 2) 16,oT 20 (ld 3 19) 16,oT 21 (cl 69 #[(t 18),(t 20)] #[3,3]) 16,o 22 (.pick (.tmp 16) (.tmp 21) (.const (.bool false))),o 23 (mv 22),oT 24 (fa 53 1 3) 23,oT 25 (ld 45 24) 23,oT 26 (cl 89 #[(t 25)] #[45]) 23,o 27 (.pick (.tmp 23) (.tmp 26) (.const (.bool false))),o 2 (av 27)])
(.ret [2])))
def g40:IFn:=⟨28,[.tmp 2],[4],c40,[],false,none⟩
def c41:IR:=(S (R [o 0 (al 27)])
(S (R [o 1 (.buildSlice 22 1 #[(0,(.const (.int .i64 5)))]),o 2 (.buildSlice 22 1 #[(0,(.const (.int .i64 7)))]),o 3 (.buildSlice 22 1 #[(0,(.const (.int .i64 9)))]),o 4 (.build 23 #[(0,(.tmp 1)),(1,(.tmp 2)),(2,(.const (.slice none 0 0))),(3,(.tmp 3))]),o 5 (.build 99 #[(0,(.const (.int .i64 2)))]),o 6 (.build 99 #[(0,(.const (.int .i64 1)))]),o 7 (.build 99 #[(0,(.const (.int .i64 3)))]),o 8 (.buildSlice 45 3 #[(0,(.tmp 5)),(1,(.tmp 6)),(2,(.tmp 7))]),o 9 (.build 53 #[(0,(.const (.int .i64 3))),(2,(.const (.int .i64 3))),(3,(.tmp 8))]),o 10 (.build 99 #[(0,(.const (.int .i64 2)))]),o 11 (.build 99 #[(0,(.const (.int .i64 3))),(2,(.const (.int .i64 1)))]),o 12 (.buildSlice 45 2 #[(0,(.tmp 10)),(1,(.tmp 11))]),o 13 (.build 53 #[(0,(.const (.int .i64 5))),(1,(.const (.int .i64 1))),(2,(.const (.int .i64 1))),(3,(.tmp 12))]),o 14 (.buildSlice 24 2 #[(0,(.tmp 9)),(1,(.tmp 13))]),o 15 (.build 44 #[]),o 16 (.build 44 #[(0,(.const (.int .i64 1)))]),o 17 (.build 44 #[]),o 18 (.build 44 #[]),o 19 (.build 44 #[(0,(.const (.int .i64 3)))]),o 20 (.build 44 #[]),o 21 (.build 44 #[]),o 22 (.build 44 #[]),o 23 (.build 44 #[]),o 24 (.build 44 #[]),o 25 (.buildSlice 25 10 #[(0,(.tmp 15)),(1,(.tmp 16)),(2,(.tmp 17)),(3,(.tmp 18)),(4,(.tmp 19)),(5,(.tmp 20)),(6,(.tmp 21)),(7,(.tmp 22)),(8,(.tmp 23)),(9,(.tmp 24))]),o 26 (.build 27 #[(0,(.tmp 4)),(1,(.const (.int .i64 9))),(2,(.tmp 14)),(3,(.tmp 25))]),w (st 27 0 26)])
(.ret [0])))
def g41:IFn:=⟨27,[.cell 0 27],[27],c41,[],false,none⟩
def c42:IR:=(S (R [o 4 (ab false),o 5 (an 0)])
(S (S (R [o 6 (mv 0),o 7 (cl 64 #[(t 6)] #[3]),o 8 (.unOp .not 4 (.tmp 7)),o 9 (mv 8),oF 10 (mv 1) 9,oF 11 (cl 64 #[(t 10)] #[3]) 9,oF 12 (.unOp .not 4 (.tmp 11)) 9,o 13 (.pick (.tmp 9) (.const (.bool true)) (.tmp 12))])
(.cond (t 13)
(S (R [o 4 (ab false),o 5 (an 100)])
(.ret [4,5]))
.skip))
(S (R [o 14 (mv 0),o 15 (mv 1),o 16 (cl 69 #[(t 14),(t 15)] #[3,3]),o 4 (av 16),o 5 (an 0)])
(.ret [4,5]))))
def g42:IFn:=⟨17,[.tmp 4,.tmp 5],[4,36],c42,[],false,none⟩
def Wo:IR:=(S (R [o 17 (bo .lss (t 16) (t 15))])
(S (.cond (t 17)
.skip
(.exit 2 [2,4,9,10]))
(S (.block 3 (S (R [o 18 (ia 22 14 16),o 19 (ld 3 18),o 8 (av 19)])
(R [o 20 (mv 5),o 21 (mv 5),o 22 (ia 30 4 21),o 23 (ld 29 22),o 24 (mv 8),o 25 (.build 55 #[(0,(.tmp 24))]),o 26 (.buildSlice 29 1 #[(0,(.tmp 25))]),o 27 (.call { callee:=(.builtin .append),args:=#[(.tmp 23),(.tmp 26)],argTypes:=#[29,29] }),o 28 (ia 30 4 20),w (st 29 28 27)])))
(R [o 29 (bo .add (t 16) (n 1)),o 16 (mv 29)]))))
def RQ:IR:=(S (R [o 11 (bo .lss (t 10) (n 4))])
(S (.cond (t 11)
.skip
(.exit 0 [2,4]))
(S (.block 1 (S (R [o 12 (mv 10),o 13 (.index 23 (.tmp 9) (.tmp 10)),o 5 (av 12),o 6 (av 13)])
(S (R [o 14 (mv 6),o 15 (len 14 22),o 16 (.move (.const (.int .i64 0)))])
(.block 2 (.loop [2,4,5,9,10,14,15,16] Wo)))))
(R [o 30 (bo .add (t 10) (n 1)),o 10 (mv 30)]))))
def c43:IR:=(S (R [z 1 (bx 23 0),o 2 (al 30),o 3 (an 0)])
(S (R [o 4 (al 30)])
(S (S (R [o 9 (ld 23 1),o 10 (.move (.const (.int .i64 0)))])
(.block 0 (.loop [2,4,9,10] RQ)))
(S (S (R [o 31 (ld 30 4),o 32 (cl 60 #[(t 31)] #[30]),o 33 (.unOp .not 4 (.tmp 32))])
(.cond (t 33)
(S (R [o 34 (.build 30 #[]),w (st 30 2 34),o 3 (an 400)])
(.ret [2,3]))
.skip))
(S (R [o 35 (ld 30 4),w (st 30 2 35),o 3 (an 0)])
(.ret [2,3]))))))
def g43:IFn:=⟨36,[.cell 2 30,.tmp 3],[30,36],c43,[],false,none⟩
def ZO:IR:=D [o 8 (fa 53 1 0),o 9 (ld 3 8),o 10 (fa 53 1 1),o 11 (ld 3 10),o 12 (fa 53 1 2),o 13 (ld 3 12),o 14 (fa 53 1 3),o 15 (ld 45 14),o 16 (cl 78 #[(t 15)] #[45]),o 17 (.build 49 #[(0,(.tmp 9)),(1,(.tmp 11)),(2,(.tmp 13)),(3,(.tmp 16))]),w (st 49 2 17),o 3 (an 0)] [[],[0],[],[2],[],[4],[],[6],[7],[1,3,5,8],[9,8,0,1,2,3,4,5,6,7,8,9],[10,0,1,2,3,4,5,6,7,8,9,10]]
def c44:IR:=(S (R [z 1 (bx 53 0),o 2 (al 49),o 3 (an 0)])
(S (S (R [o 4 (ld 53 1),o 5 (cl 40 #[(t 4)] #[53]),o 6 (.unOp .not 4 (.tmp 5))])
(.cond (t 6)
(S (R [o 7 (.build 49 #[]),w (st 49 2 7),o 3 (an 1100)])
(.ret [2,3]))
.skip))
(S ZO
(.ret [2,3]))))
def g44:IFn:=⟨18,[.cell 2 49,.tmp 3],[49,36],c44,[],false,none⟩
def JZ:IR:=(S (S (R [o 20 (mv 7),o 21 (fa 27 1 2),o 22 (ld 24 21),o 23 (len 22 24),o 24 (bo .lss (t 20) (t 23))])
(.cond (t 24)
.skip
(.exit 0 [2,5,6])))
(S (.block 1 (S (R [o 28 (fa 27 1 2),o 29 (ld 24 28),o 30 (mv 7),o 31 (ia 24 29 30),o 32 (ld 53 31),o 33 (cl 94 #[(t 32)] #[53]),o 27 (mv 33),o 34 (xt 27 0),o 35 (xt 27 1),o 8 (al 49),w (st 49 8 34),o 9 (av 35)])
(S (S (R [o 36 (mv 9),o 37 (bo .neq (t 36) (n 0))])
(.cond (t 37)
(S (R [o 38 (.build 35 #[]),w (st 35 2 38),o 3 (an 1200)])
(.ret [2,3]))
.skip))
(R [o 39 (fa 35 6 3),o 40 (ld 32 39),o 41 (ld 49 8),o 42 (.buildSlice 32 1 #[(0,(.tmp 41))]),o 43 (.call { callee:=(.builtin .append),args:=#[(.tmp 40),(.tmp 42)],argTypes:=#[32,32] }),o 44 (fa 35 6 3),w (st 32 44 43)]))))
(R [o 25 (mv 7),o 26 (bo .add (t 25) (n 1)),o 7 (av 26)])))
def c45:IR:=(S (R [z 1 (bx 27 0),o 2 (al 35),o 3 (an 0)])
(S (R [o 11 (fa 27 1 0),o 12 (ld 23 11),o 13 (cl 93 #[(t 12)] #[23]),o 10 (mv 13),o 14 (xt 10 0),o 15 (xt 10 1),o 4 (al 30),w (st 30 4 14),o 5 (av 15)])
(S (R [o 16 (ld 30 4),o 17 (fa 27 1 1),o 18 (ld 3 17),o 19 (.build 35 #[(0,(.tmp 16)),(2,(.tmp 18))]),o 6 (al 35),w (st 35 6 19)])
(S (S (R [o 7 (an 0)])
(.block 0 (.loop [1,2,5,6,7] JZ)))
(S (S (R [o 45 (mv 5),o 46 (bo .neq (t 45) (n 0)),o 47 (mv 46),oF 48 (ld 35 6) 47,oF 49 (cl 95 #[(t 48)] #[35]) 47,oF 50 (.unOp .not 4 (.tmp 49)) 47,o 51 (.pick (.tmp 47) (.const (.bool true)) (.tmp 50))])
(.cond (t 51)
(S (R [o 52 (.build 35 #[]),w (st 35 2 52),o 3 (an 1200)])
(.ret [2,3]))
.skip))
(S (R [o 53 (ld 35 6),w (st 35 2 53),o 3 (an 0)])
(.ret [2,3])))))))
def g45:IFn:=⟨54,[.cell 2 35,.tmp 3],[35,3],c45,[],false,none⟩
def c46:IR:=(S (R [z 1 (bx 44 0),o 2 (ab false)])
(S (R [o 3 (fa 44 1 0),o 4 (ld 3 3),o 5 (cl 96 #[(t 4)] #[3]),o 6 (mv 5),oT 7 (fa 44 1 1) 6,oT 8 (ld 3 7) 6,oT 9 (cl 97 #[(t 8),(n 0),(n 255)] #[3,3,3]) 6,o 10 (.pick (.tmp 6) (.tmp 9) (.const (.bool false))),o 2 (av 10)])
(.ret [2])))
def g46:IFn:=⟨11,[.tmp 2],[4],c46,[],false,none⟩
def ZN:IR:=D [o 10 (mv 5),o 11 (ia 30 2 10),o 12 (ld 29 11),o 13 (mv 5),o 14 (ia 30 3 13),o 15 (ld 29 14),o 16 (cl 98 #[(t 12),(t 15)] #[29,29]),o 17 (.unOp .not 4 (.tmp 16))] [[],[0],[1],[],[3],[4],[2,5],[6]]
def Wn:IR:=(S (S (R [o 6 (mv 5),o 7 (bo .lss (t 6) (n 4))])
(.cond (t 7)
.skip
(.exit 0 [])))
(S (.block 1 (S ZN
(.cond (t 17)
(S (R [o 4 (ab false)])
(.ret [4]))
.skip)))
(R [o 8 (mv 5),o 9 (bo .add (t 8) (n 1)),o 5 (av 9)])))
def c47:IR:=(S (R [z 2 (bx 30 0),z 3 (bx 30 1),o 4 (ab false)])
(S (S (R [o 5 (an 0)])
(.block 0 (.loop [2,3,5] Wn)))
(S (R [o 4 (ab true)])
(.ret [4]))))
def g47:IFn:=⟨18,[.tmp 4],[4],c47,[],false,none⟩
def ZM:IR:=D [o 17 (mv 0),o 18 (mv 5),o 19 (ia 33 17 18),o 20 (ld 67 19),o 21 (mv 1),o 22 (mv 5),o 23 (ia 33 21 22),o 24 (ld 67 23),o 25 (.binOp .neq 67 (.tmp 20) (.tmp 24) 67)] [[],[],[0,1],[2],[],[],[4,5],[6],[3,7]]
def RP:IR:=(S (S (R [o 11 (mv 5),o 12 (mv 0),o 13 (len 12 33),o 14 (bo .lss (t 11) (t 13))])
(.cond (t 14)
.skip
(.exit 0 [])))
(S (.block 1 (S ZM
(.cond (t 25)
(S (R [o 4 (ab false)])
(.ret [4]))
.skip)))
(R [o 15 (mv 5),o 16 (bo .add (t 15) (n 1)),o 5 (av 16)])))
def c48:IR:=(S (R [o 4 (ab false)])
(S (S (R [o 6 (mv 0),o 7 (len 6 33),o 8 (mv 1),o 9 (len 8 33),o 10 (bo .neq (t 7) (t 9))])
(.cond (t 10)
(S (R [o 4 (ab false)])
(.ret [4]))
.skip))
(S (S (R [o 5 (an 0)])
(.block 0 (.loop [0,1,5] RP)))
(S (R [o 4 (ab true)])
(.ret [4])))))
def g48:IFn:=⟨26,[.tmp 4],[4],c48,[],false,none⟩
def ZL:IR:=D [o 5 (fa 35 1 0),o 6 (ld 30 5),o 7 (cl 99 #[(t 6)] #[30]),o 8 (fa 35 1 3),o 9 (ld 32 8),o 10 (cl 100 #[(t 9)] #[32]),o 11 (fa 35 1 4),o 12 (ld 33 11),o 13 (cl 101 #[(t 12)] #[33]),o 14 (fa 35 1 0),w (st 30 14 7),o 15 (fa 35 1 3),w (st 32 15 10),o 16 (fa 35 1 4),w (st 33 16 13)] [[],[0],[1],[],[3],[4,2],[],[6],[7,5],[0,1,2,3,4,6,7],[9,2,8,0,1,2,3,4,6,7],[0,1,2,3,4,5,6,7,9,10],[11,5,10,0,1,2,3,4,5,6,7,9,10],[0,1,2,3,4,5,6,7,8,9,10,11,12],[13,8,12,0,1,2,3,4,5,6,7,8,9,10,11,12]]
def ZK:IR:=D [o 25 (fa 35 1 3),o 26 (ld 32 25),o 27 (mv 3),o 28 (ld 49 4),o 29 (cl 102 #[(t 28)] #[49]),o 30 (ia 32 26 27),w (st 49 30 29)] [[],[0],[],[],[3],[1,2,0,1,2,3,4],[5,4,4,0,1,2,3,4]]
def Wm:IR:=(S (R [o 21 (bo .lss (t 20) (t 19))])
(S (.cond (t 21)
.skip
(.exit 0 [1,2]))
(S (.block 1 (S (R [o 22 (mv 20),o 23 (ia 32 18 20),o 24 (ld 49 23),o 4 (al 49),o 3 (av 22),w (st 49 4 24)])
ZK))
(R [o 31 (bo .add (t 20) (n 1)),o 20 (mv 31)]))))
def c49:IR:=(S (R [o 1 (bx 35 0),o 2 (al 35)])
(S ZL
(S (S (R [o 17 (fa 35 1 3),o 18 (ld 32 17),o 19 (len 18 32),o 20 (.move (.const (.int .i64 0)))])
(.block 0 (.loop [1,2,18,19,20] Wm)))
(S (R [o 32 (ld 35 1),w (st 35 2 32)])
(.ret [2])))))
def g49:IFn:=⟨33,[.cell 2 35],[35],c49,[],false,none⟩
def c50:IR:=(S (R [z 1 (bx 44 0),o 2 (ab false)])
(S (R [o 3 (fa 44 1 0),o 4 (ld 3 3),o 5 (cl 64 #[(t 4)] #[3]),o 6 (mv 5),oT 7 (fa 44 1 1) 6,oT 8 (ld 3 7) 6,oT 9 (bo .geq (t 8) (n 0)) 6,o 10 (.pick (.tmp 6) (.tmp 9) (.const (.bool false))),o 11 (mv 10),oT 12 (fa 44 1 1) 11,oT 13 (ld 3 12) 11,oT 14 (bo .leq (t 13) (n 255)) 11,o 15 (.pick (.tmp 11) (.tmp 14) (.const (.bool false))),o 2 (av 15)])
(.ret [2])))
def g50:IFn:=⟨16,[.tmp 2],[4],c50,[],false,none⟩
def Wj:IR:=(S (S (R [o 9 (mv 8),o 10 (mv 0),o 11 (len 10 47),o 12 (bo .lss (t 9) (t 11)),o 13 (mv 12),oT 14 (mv 0) 13,oT 15 (cl 103 #[(t 14)] #[47]) 13,o 16 (.pick (.tmp 13) (.tmp 15) (.const (.bool false)))])
(.cond (t 16)
.skip
(.exit 0 [])))
(S (.block 1 (S (R [o 19 (mv 0),o 20 (mv 8),o 21 (ia 47 19 20),o 22 (fa 162 21 0),o 23 (ld 3 22),o 24 (mv 1),o 25 (bo .eql (t 23) (t 24)),o 26 (mv 25),oT 27 (mv 0) 26,oT 28 (mv 8) 26,oT 29 (ia 47 27 28) 26,oT 30 (fa 162 29 1) 26,oT 31 (ld 3 30) 26,oT 32 (mv 2) 26,oT 33 (bo .eql (t 31) (t 32)) 26,o 34 (.pick (.tmp 26) (.tmp 33) (.const (.bool false)))])
(.cond (t 34)
(S (R [o 35 (mv 0),o 36 (mv 8),o 37 (ia 47 35 36),o 38 (fa 162 37 2),o 39 (ld 3 38),o 6 (av 39),o 7 (ab true)])
(.ret [6,7]))
.skip)))
(R [o 17 (mv 8),o 18 (bo .add (t 17) (n 1)),o 8 (av 18)])))
def c51:IR:=(S (R [o 6 (an 0),o 7 (ab false)])
(S (S (R [o 8 (an 0)])
(.block 0 (.loop [0,1,2,8] Wj)))
(S (R [o 6 (an 0),o 7 (ab false)])
(.ret [6,7]))))
def g51:IFn:=⟨40,[.tmp 6,.tmp 7],[3,4],c51,[],false,none⟩
def DJ:IR:=(S (S (R [o 9 (mv 4),o 10 (mv 3),o 11 (ia 30 1 10),o 12 (ld 29 11),o 13 (len 12 29),o 14 (bo .lss (t 9) (t 13))])
(.cond (t 14)
.skip
(.exit 2 [1,3])))
(S (.block 3 (S (R [o 17 (mv 4),o 18 (bo .geq (t 17) (n 4)),o 19 (mv 18),oF 20 (mv 3) 19,oF 21 (ia 30 1 20) 19,oF 22 (ld 29 21) 19,oF 23 (mv 4) 19,oF 24 (ia 29 22 23) 19,oF 25 (ld 55 24) 19,oF 26 (cl 104 #[(t 25)] #[55]) 19,oF 27 (.unOp .not 4 (.tmp 26)) 19,o 28 (.pick (.tmp 19) (.const (.bool true)) (.tmp 27))])
(.cond (t 28)
(S (R [o 2 (ab false)])
(.ret [2]))
.skip)))
(R [o 15 (mv 4),o 16 (bo .add (t 15) (n 1)),o 4 (av 16)])))
def PX:IR:=(S (S (R [o 5 (mv 3),o 6 (bo .lss (t 5) (n 4))])
(.cond (t 6)
.skip
(.exit 0 [])))
(S (.block 1 (S (R [o 4 (an 0)])
(.block 2 (.loop [1,3,4] DJ))))
(R [o 7 (mv 3),o 8 (bo .add (t 7) (n 1)),o 3 (av 8)])))
def c52:IR:=(S (R [z 1 (bx 30 0),o 2 (ab false)])
(S (S (R [o 3 (an 0)])
(.block 0 (.loop [1,3] PX)))
(S (R [o 2 (ab true)])
(.ret [2]))))
def g52:IFn:=⟨29,[.tmp 2],[4],c52,[],false,none⟩
def ZJ:IR:=D [o 11 (mv 0),o 12 (mv 3),o 13 (ia 46 11 12),o 14 (fa 106 13 0),o 15 (ld 3 14),o 16 (mv 0),o 17 (mv 3),o 18 (ia 46 16 17),o 19 (fa 106 18 1),o 20 (ld 3 19),o 21 (cl 105 #[(t 15),(t 20)] #[3,3]),o 22 (.unOp .not 4 (.tmp 21)),o 23 (mv 22),oF 24 (mv 0) 23,oF 25 (mv 3) 23,oF 26 (ia 46 24 25) 23,oF 27 (fa 106 26 2) 23,oF 28 (ld 3 27) 23,oF 29 (cl 106 #[(t 28)] #[3]) 23,oF 30 (.unOp .not 4 (.tmp 29)) 23,o 31 (.pick (.tmp 23) (.const (.bool true)) (.tmp 30))] [[],[],[0,1],[2],[3],[],[],[5,6],[7],[8],[4,9],[10],[11,10],[12],[12],[13,14,12],[15,12],[16,12],[17,12,12],[18,12],[12,19]]
def ZI:IR:=D [o 37 (mv 0),o 38 (mv 4),o 39 (ia 46 37 38),o 40 (fa 106 39 0),o 41 (ld 3 40),o 42 (mv 0),o 43 (mv 3),o 44 (ia 46 42 43),o 45 (fa 106 44 0),o 46 (ld 3 45),o 47 (bo .eql (t 41) (t 46)),o 48 (mv 47),oT 49 (mv 0) 48,oT 50 (mv 4) 48,oT 51 (ia 46 49 50) 48,oT 52 (fa 106 51 1) 48,oT 53 (ld 3 52) 48,oT 54 (mv 0) 48,oT 55 (mv 3) 48,oT 56 (ia 46 54 55) 48,oT 57 (fa 106 56 1) 48,oT 58 (ld 3 57) 48,oT 59 (bo .eql (t 53) (t 58)) 48,o 60 (.pick (.tmp 48) (.tmp 59) (.const (.bool false)))] [[],[],[0,1],[2],[3],[],[],[5,6],[7],[8],[4,9],[10],[11],[11],[12,13,11],[14,11],[15,11],[11],[11],[17,18,11],[19,11],[20,11],[16,21,11],[11,22]]
def PW:IR:=(S (S (R [o 32 (mv 4),o 33 (mv 3),o 34 (bo .lss (t 32) (t 33))])
(.cond (t 34)
.skip
(.exit 2 [0,3])))
(S (.block 3 (S ZI
(.cond (t 60)
(S (R [o 2 (ab false)])
(.ret [2]))
.skip)))
(R [o 35 (mv 4),o 36 (bo .add (t 35) (n 1)),o 4 (av 36)])))
def NU:IR:=(S (S (R [o 5 (mv 3),o 6 (mv 0),o 7 (len 6 46),o 8 (bo .lss (t 5) (t 7))])
(.cond (t 8)
.skip
(.exit 0 [0])))
(S (.block 1 (S (S ZJ
(.cond (t 31)
(S (R [o 2 (ab false)])
(.ret [2]))
.skip))
(S (R [o 4 (an 0)])
(.block 2 (.loop [0,3,4] PW)))))
(R [o 9 (mv 3),o 10 (bo .add (t 9) (n 1)),o 3 (av 10)])))
def c53:IR:=(S (R [o 2 (ab false)])
(S (S (R [o 3 (an 0)])
(.block 0 (.loop [0,3] NU)))
(S (R [o 61 (mv 0),o 62 (len 61 46),o 63 (bo .leq (t 62) (n 16)),o 2 (av 63)])
(.ret [2]))))
def g53:IFn:=⟨64,[.tmp 2],[4],c53,[],false,none⟩
def ZH:IR:=D [o 12 (ld 30 2),o 13 (mv 1),o 14 (mv 5),o 15 (ia 46 13 14),o 16 (fa 106 15 0),o 17 (ld 3 16),o 18 (mv 1),o 19 (mv 5),o 20 (ia 46 18 19),o 21 (fa 106 20 1),o 22 (ld 3 21),o 23 (cl 107 #[(t 12),(t 17),(t 22)] #[30,3,3]),o 24 (.unOp .not 4 (.tmp 23))] [[],[],[],[1,2],[3],[4],[],[],[6,7],[8],[9],[0,5,10],[11]]
def RO:IR:=(S (S (R [o 6 (mv 5),o 7 (mv 1),o 8 (len 7 46),o 9 (bo .lss (t 6) (t 8))])
(.cond (t 9)
.skip
(.exit 0 [])))
(S (.block 1 (S ZH
(.cond (t 24)
(S (R [o 4 (ab false)])
(.ret [4]))
.skip)))
(R [o 10 (mv 5),o 11 (bo .add (t 10) (n 1)),o 5 (av 11)])))
def c54:IR:=(S (R [z 2 (bx 30 0),o 4 (ab false)])
(S (S (R [o 5 (an 0)])
(.block 0 (.loop [1,2,5] RO)))
(S (R [o 4 (ab true)])
(.ret [4]))))
def g54:IFn:=⟨25,[.tmp 4],[4],c54,[],false,none⟩
def ZG:IR:=D [o 17 (mv 0),o 18 (mv 5),o 19 (ia 45 17 18),o 20 (ld 99 19),o 21 (mv 1),o 22 (mv 5),o 23 (ia 45 21 22),o 24 (ld 99 23),o 25 (.binOp .neq 99 (.tmp 20) (.tmp 24) 99)] [[],[],[0,1],[2],[],[],[4,5],[6],[3,7]]
def RN:IR:=(S (S (R [o 11 (mv 5),o 12 (mv 0),o 13 (len 12 45),o 14 (bo .lss (t 11) (t 13))])
(.cond (t 14)
.skip
(.exit 0 [])))
(S (.block 1 (S ZG
(.cond (t 25)
(S (R [o 4 (ab false)])
(.ret [4]))
.skip)))
(R [o 15 (mv 5),o 16 (bo .add (t 15) (n 1)),o 5 (av 16)])))
def c55:IR:=(S (R [o 4 (ab false)])
(S (S (R [o 6 (mv 0),o 7 (len 6 45),o 8 (mv 1),o 9 (len 8 45),o 10 (bo .neq (t 7) (t 9))])
(.cond (t 10)
(S (R [o 4 (ab false)])
(.ret [4]))
.skip))
(S (S (R [o 5 (an 0)])
(.block 0 (.loop [0,1,5] RN)))
(S (R [o 4 (ab true)])
(.ret [4])))))
def g55:IFn:=⟨26,[.tmp 4],[4],c55,[],false,none⟩
def ZF:IR:=D [o 17 (mv 0),o 18 (mv 5),o 19 (ia 46 17 18),o 20 (ld 106 19),o 21 (mv 1),o 22 (mv 5),o 23 (ia 46 21 22),o 24 (ld 106 23),o 25 (.binOp .neq 106 (.tmp 20) (.tmp 24) 106)] [[],[],[0,1],[2],[],[],[4,5],[6],[3,7]]
def RM:IR:=(S (S (R [o 11 (mv 5),o 12 (mv 0),o 13 (len 12 46),o 14 (bo .lss (t 11) (t 13))])
(.cond (t 14)
.skip
(.exit 0 [])))
(S (.block 1 (S ZF
(.cond (t 25)
(S (R [o 4 (ab false)])
(.ret [4]))
.skip)))
(R [o 15 (mv 5),o 16 (bo .add (t 15) (n 1)),o 5 (av 16)])))
def c56:IR:=(S (R [o 4 (ab false)])
(S (S (R [o 6 (mv 0),o 7 (len 6 46),o 8 (mv 1),o 9 (len 8 46),o 10 (bo .neq (t 7) (t 9))])
(.cond (t 10)
(S (R [o 4 (ab false)])
(.ret [4]))
.skip))
(S (S (R [o 5 (an 0)])
(.block 0 (.loop [0,1,5] RM)))
(S (R [o 4 (ab true)])
(.ret [4])))))
def g56:IFn:=⟨26,[.tmp 4],[4],c56,[],false,none⟩
def ZE:IR:=D [o 17 (mv 0),o 18 (mv 5),o 19 (ia 47 17 18),o 20 (ld 162 19),o 21 (mv 1),o 22 (mv 5),o 23 (ia 47 21 22),o 24 (ld 162 23),o 25 (.binOp .neq 162 (.tmp 20) (.tmp 24) 162)] [[],[],[0,1],[2],[],[],[4,5],[6],[3,7]]
def RL:IR:=(S (S (R [o 11 (mv 5),o 12 (mv 0),o 13 (len 12 47),o 14 (bo .lss (t 11) (t 13))])
(.cond (t 14)
.skip
(.exit 0 [])))
(S (.block 1 (S ZE
(.cond (t 25)
(S (R [o 4 (ab false)])
(.ret [4]))
.skip)))
(R [o 15 (mv 5),o 16 (bo .add (t 15) (n 1)),o 5 (av 16)])))
def c57:IR:=(S (R [o 4 (ab false)])
(S (S (R [o 6 (mv 0),o 7 (len 6 47),o 8 (mv 1),o 9 (len 8 47),o 10 (bo .neq (t 7) (t 9))])
(.cond (t 10)
(S (R [o 4 (ab false)])
(.ret [4]))
.skip))
(S (S (R [o 5 (an 0)])
(.block 0 (.loop [0,1,5] RL)))
(S (R [o 4 (ab true)])
(.ret [4])))))
def g57:IFn:=⟨26,[.tmp 4],[4],c57,[],false,none⟩
def c58:IR:=(S (R [o 4 (ab false)])
(S (R [o 5 (mv 0),o 6 (nc 5),o 7 (ld 35 6),o 8 (cl 28 #[(t 7)] #[35]),o 9 (mv 8),oT 10 (mv 1) 9,oT 11 (bo .geq (t 10) (n 0)) 9,o 12 (.pick (.tmp 9) (.tmp 11) (.const (.bool false))),o 13 (mv 12),oT 14 (mv 1) 13,oT 15 (mv 0) 13,oT 16 (nc 15) 13,oT 17 (fa 35 16 3) 13,oT 18 (ld 32 17) 13,oT 19 (len 18 32) 13,oT 20 (bo .lss (t 14) (t 19)) 13,o 21 (.pick (.tmp 13) (.tmp 20) (.const (.bool false))),o 4 (av 21)])
(.ret [4])))
def g58:IFn:=⟨22,[.tmp 4],[4],c58,[],false,none⟩
def c59:IR:=(S (R [z 1 (bx 113 0),o 2 (al 35),o 3 (an 0)])
(S (S (R [o 4 (ld 113 1),o 5 (cl 108 #[(t 4)] #[113]),o 6 (nc 5),o 7 (fa 49 6 4),o 8 (ld 3 7)])
(.block 0 (S (R [o 10 (bo .eql (t 8) (n 0)),o 9 (av 10)])
(.cond (t 9)
(S (R [o 11 (ld 113 1),o 12 (cl 109 #[(t 11)] #[113]),o 13 (xt 12 0),o 14 (xt 12 1),w (st 35 2 13),o 3 (av 14)])
(.ret [2,3]))
(S (R [o 16 (bo .eql (t 8) (n 1)),o 15 (av 16)])
(.cond (t 15)
(S (R [o 17 (fa 113 1 0),o 18 (ld 35 17),o 19 (fa 113 1 1),o 20 (ld 3 19),o 21 (cl 110 #[(t 18),(t 20)] #[35,3]),o 22 (xt 21 0),o 23 (xt 21 1),w (st 35 2 22),o 3 (av 23)])
(.ret [2,3]))
(S (R [o 25 (bo .eql (t 8) (n 2)),o 24 (av 25)])
(.cond (t 24)
(S (R [o 26 (fa 113 1 0),o 27 (ld 35 26),o 28 (fa 113 1 1),o 29 (ld 3 28),o 30 (cl 111 #[(t 27),(t 29)] #[35,3]),o 31 (xt 30 0),o 32 (xt 30 1),w (st 35 2 31),o 3 (av 32)])
(.ret [2,3]))
(S (R [o 34 (bo .eql (t 8) (n 3)),o 33 (av 34)])
(.cond (t 33)
(S (R [o 35 (fa 113 1 0),o 36 (ld 35 35),o 37 (fa 113 1 1),o 38 (ld 3 37),o 39 (cl 112 #[(t 36),(t 38)] #[35,3]),o 40 (xt 39 0),o 41 (xt 39 1),w (st 35 2 40),o 3 (av 41)])
(.ret [2,3]))
(S (R [o 43 (bo .eql (t 8) (n 4)),o 42 (av 43)])
(.cond (t 42)
(S (R [o 44 (fa 113 1 0),o 45 (ld 35 44),o 46 (fa 113 1 1),o 47 (ld 3 46),o 48 (cl 113 #[(t 45),(t 47)] #[35,3]),o 49 (xt 48 0),o 50 (xt 48 1),w (st 35 2 49),o 3 (av 50)])
(.ret [2,3]))
(S (R [o 52 (bo .eql (t 8) (n 5)),o 51 (av 52)])
(.cond (t 51)
(S (R [o 53 (fa 113 1 0),o 54 (ld 35 53),o 55 (fa 113 1 1),o 56 (ld 3 55),o 57 (cl 114 #[(t 54),(t 56)] #[35,3]),o 58 (xt 57 0),o 59 (xt 57 1),w (st 35 2 58),o 3 (av 59)])
(.ret [2,3]))
.skip))))))))))))))
(S (R [o 60 (fa 113 1 0),o 61 (ld 35 60),o 62 (cl 49 #[(t 61)] #[35]),w (st 35 2 62),o 3 (an 0)])
(.ret [2,3]))))
def g59:IFn:=⟨63,[.cell 2 35,.tmp 3],[35,36],c59,[],false,none⟩
def yX:IR:=(S (R [o 8 (bo .lss (t 7) (n 4))])
(S (.cond (t 8)
.skip
(.exit 0 []))
(S (.block 1 (S (R [o 9 (.index 30 (.tmp 6) (.tmp 7)),o 5 (av 9)])
(S (R [o 10 (mv 5),o 11 (len 10 29),o 12 (bo .gtr (t 11) (n 4)),o 13 (mv 12),oF 14 (mv 5) 13,oF 15 (mv 3) 13,oF 16 (cl 117 #[(t 14),(t 15)] #[29,163]) 13,o 17 (.pick (.tmp 13) (.const (.bool true)) (.tmp 16))])
(.cond (t 17)
(S (R [o 2 (ab false)])
(.ret [2]))
.skip))))
(R [o 18 (bo .add (t 7) (n 1)),o 7 (mv 18)]))))
def c60:IR:=(S (R [z 1 (bx 30 0),o 2 (ab false)])
(S (R [o 3 (.assign (.func 115))])
(S (S (R [o 6 (ld 30 1),o 7 (.move (.const (.int .i64 0)))])
(.block 0 (.loop [3,6,7] yX)))
(S (R [o 2 (ab true)])
(.ret [2])))))
def g60:IFn:=⟨19,[.tmp 2],[4],c60,[],false,none⟩
def oL:IR:=(S (R [o 9 (bo .lss (t 8) (n 4))])
(S (.cond (t 9)
.skip
(.exit 0 [1]))
(S (.block 1 (S (R [o 10 (nc 7),o 11 (ia 31 10 8),o 12 (ld 3 11),o 6 (av 12)])
(S (R [o 13 (mv 6),o 14 (cl 118 #[(t 13)] #[3]),o 15 (.unOp .not 4 (.tmp 14))])
(.cond (t 15)
(S (R [o 4 (ab false)])
(.ret [4]))
.skip))))
(R [o 16 (bo .add (t 8) (n 1)),o 8 (mv 16)]))))
def c61:IR:=(S (R [o 4 (ab false)])
(S (S (R [o 7 (mv 0),o 8 (.move (.const (.int .i64 0)))])
(.block 0 (.loop [1,7,8] oL)))
(S (R [o 17 (mv 1),o 18 (cl 118 #[(t 17)] #[3]),o 4 (av 18)])
(.ret [4]))))
def g61:IFn:=⟨19,[.tmp 4],[4],c61,[],false,none⟩
def yW:IR:=(S (S (R [o 12 (mv 4),o 13 (mv 0),o 14 (len 13 22),o 15 (bo .lss (t 12) (t 14))])
(.cond (t 15)
.skip
(.exit 0 [3])))
(S (.block 1 (R [o 18 (mv 3),o 19 (mv 0),o 20 (mv 4),o 21 (ia 22 19 20),o 22 (ld 3 21),o 23 (.call { callee:=(.builtin .max),args:=#[(.tmp 18),(.tmp 22)],argTypes:=#[3,3] }),o 3 (av 23)]))
(R [o 16 (mv 4),o 17 (bo .add (t 16) (n 1)),o 4 (av 17)])))
def c62:IR:=(S (R [o 2 (an 0)])
(S (S (R [o 5 (mv 0),o 6 (len 5 22),o 7 (bo .lss (t 6) (n 1))])
(.cond (t 7)
(R [o 8 (.makeInterface 9 (.const (.string { data:=#[115,108,105,99,101,115,46,77,97,120,58,32,101,109,112,116,121,32,108,105,115,116] }))),w (.panic (.tmp 8))])
.skip))
(S (R [o 9 (mv 0),o 10 (.indexAddr 22 (.tmp 9) (.const (.int .i64 0))),o 11 (ld 3 10),o 3 (av 11)])
(S (S (R [o 4 (an 1)])
(.block 0 (.loop [0,3,4] yW)))
(S (R [o 24 (mv 3),o 2 (av 24)])
(.ret [2]))))))
def g62:IFn:=⟨25,[.tmp 2],[3],c62,[],false,none⟩
def c63:IR:=(S (R [z 1 (bx 67 0),o 2 (ab false)])
(S (R [o 3 (fa 67 1 1),o 4 (ld 3 3),o 5 (cl 64 #[(t 4)] #[3]),o 2 (av 5)])
(.ret [2])))
def g63:IFn:=⟨6,[.tmp 2],[4],c63,[],false,none⟩
def c64:IR:=(S (R [o 2 (ab false)])
(S (R [o 3 (mv 0),o 4 (bo .geq (t 3) (n 0)),o 5 (mv 4),oT 6 (mv 0) 5,oT 7 (bo .lss (t 6) (n 4)) 5,o 8 (.pick (.tmp 5) (.tmp 7) (.const (.bool false))),o 2 (av 8)])
(.ret [2])))
def g64:IFn:=⟨9,[.tmp 2],[4],c64,[],false,none⟩
def c65:IR:=(S (R [z 3 (bx 121 1),o 4 (ab false)])
(S (R [o 5 (mv 0),o 6 (.makeFunc (Go.Fn.func 120) #[] #[(.tmp 3)]),o 7 (cl 119 #[(t 5),(t 6)] #[32,121]),o 8 (.unOp .not 4 (.tmp 7)),o 4 (av 8)])
(.ret [4])))
def g65:IFn:=⟨9,[.tmp 4],[4],c65,[],false,none⟩
def c66:IR:=(S (R [z 2 (bx 124 0),z 3 (bx 49 1),o 4 (ab false)])
(S (R [o 8 (fa 49 3 0),o 9 (ld 3 8),o 10 (fa 49 3 1),o 11 (ld 3 10),o 12 (fa 49 3 2),o 13 (ld 3 12),o 14 (fa 49 3 3),o 15 (ld 45 14),o 16 (.build 53 #[(0,(.tmp 9)),(1,(.tmp 11)),(2,(.tmp 13)),(3,(.tmp 15))]),o 17 (cl 40 #[(t 16)] #[53]),o 5 (av 17)])
(S (R [o 18 (fa 49 3 7),o 19 (ld 46 18),o 20 (cl 121 #[(t 19)] #[46]),o 21 (mv 20),oT 22 (fa 49 3 8) 21,oT 23 (ld 47 22) 21,oT 24 (cl 122 #[(t 23)] #[47]) 21,o 25 (.pick (.tmp 21) (.tmp 24) (.const (.bool false))),o 26 (mv 25),oT 27 (fa 49 3 7) 26,oT 28 (ld 46 27) 26,oT 29 (ld 124 2) 26,oT 30 (.makeFunc (Go.Fn.func 124) #[(.tmp 29)] #[]) 26,oT 31 (cl 123 #[(t 28),(t 30)] #[46,169]) 26,o 32 (.pick (.tmp 26) (.tmp 31) (.const (.bool false))),o 33 (mv 32),oT 34 (fa 49 3 8) 33,oT 35 (ld 47 34) 33,oT 36 (ld 124 2) 33,oT 37 (.makeFunc (Go.Fn.func 126) #[(.tmp 36)] #[]) 33,oT 38 (cl 125 #[(t 35),(t 37)] #[47,171]) 33,o 39 (.pick (.tmp 33) (.tmp 38) (.const (.bool false))),o 40 (mv 39),oT 41 (fa 49 3 3) 40,oT 42 (ld 45 41) 40,oT 43 (ld 124 2) 40,oT 44 (.makeFunc (Go.Fn.func 128) #[(.tmp 43)] #[]) 40,oT 45 (cl 127 #[(t 42),(t 44)] #[45,173]) 40,o 46 (.pick (.tmp 40) (.tmp 45) (.const (.bool false))),o 6 (av 46)])
(S (R [o 47 (fa 49 3 5),o 48 (ld 3 47),o 49 (fa 49 3 3),o 50 (ld 45 49),o 51 (len 50 45),o 52 (cl 129 #[(t 48),(t 51)] #[3,3]),o 53 (mv 52),oT 54 (fa 49 3 9) 53,oT 55 (ld 3 54) 53,oT 56 (fa 49 3 8) 53,oT 57 (ld 47 56) 53,oT 58 (len 57 47) 53,oT 59 (cl 129 #[(t 55),(t 58)] #[3,3]) 53,o 60 (.pick (.tmp 53) (.tmp 59) (.const (.bool false))),o 61 (mv 60),oT 62 (fa 49 3 4) 61,oT 63 (ld 3 62) 61,oT 64 (cl 129 #[(t 63),(n 6)] #[3,3]) 61,o 65 (.pick (.tmp 61) (.tmp 64) (.const (.bool false))),o 66 (mv 65),oT 67 (fa 49 3 12) 66,oT 68 (ld 3 67) 66,oT 69 (cl 129 #[(t 68),(n 5)] #[3,3]) 66,o 70 (.pick (.tmp 66) (.tmp 69) (.const (.bool false))),o 7 (av 70)])
(S (R [o 71 (mv 5),o 72 (mv 71),oT 73 (mv 6) 72,o 74 (.pick (.tmp 72) (.tmp 73) (.const (.bool false))),o 75 (mv 74),oT 76 (mv 7) 75,o 77 (.pick (.tmp 75) (.tmp 76) (.const (.bool false))),o 78 (mv 77),oT 79 (fa 49 3 6) 78,oT 80 (cl 130 #[(t 79)] #[116]) 78,o 81 (.pick (.tmp 78) (.tmp 80) (.const (.bool false))),o 82 (mv 81),oT 83 (fa 49 3 10) 82,oT 84 (ld 3 83) 82,oT 85 (cl 118 #[(t 84)] #[3]) 82,o 86 (.pick (.tmp 82) (.tmp 85) (.const (.bool false))),o 87 (mv 86),oT 88 (fa 49 3 11) 87,oT 89 (ld 3 88) 87,oT 90 (cl 118 #[(t 89)] #[3]) 87,o 91 (.pick (.tmp 87) (.tmp 90) (.const (.bool false))),o 92 (mv 91),oT 93 (fa 49 3 13) 92,oT 94 (ld 3 93) 92,oT 95 (cl 131 #[(t 94)] #[3]) 92,o 96 (.pick (.tmp 92) (.tmp 95) (.const (.bool false))),o 4 (av 96)])
(.ret [4]))))))
def g66:IFn:=⟨97,[.tmp 4],[4],c66,[],false,none⟩
def c67:IR:=(S (R [z 3 (bx 119 1),o 4 (ab false)])
(S (R [o 5 (mv 0),o 6 (.makeFunc (Go.Fn.func 133) #[] #[(.tmp 3)]),o 7 (cl 132 #[(t 5),(t 6)] #[33,119]),o 8 (.unOp .not 4 (.tmp 7)),o 4 (av 8)])
(.ret [4])))
def g67:IFn:=⟨9,[.tmp 4],[4],c67,[],false,none⟩
def c68:IR:=(S (R [o 2 (ab false)])
(S (R [o 3 (mv 0),o 4 (cl 134 #[(t 3),(f 135)] #[22,118]),o 2 (av 4)])
(.ret [2])))
def g68:IFn:=⟨5,[.tmp 2],[4],c68,[],false,none⟩
def c69:IR:=(S (R [o 4 (ab false)])
(S (R [o 5 (mv 0),o 6 (mv 1),o 7 (bo .or (t 5) (t 6)),o 8 (mv 1),o 9 (bo .eql (t 7) (t 8)),o 4 (av 9)])
(.ret [4])))
def g69:IFn:=⟨10,[.tmp 4],[4],c69,[],false,none⟩
def JY:IR:=(S (R [o 13 (bo .lss (t 12) (t 11))])
(S (.cond (t 13)
.skip
(.exit 0 [7]))
(S (.block 1 (S (R [o 14 (ia 32 10 12),z 15 (ld 49 14),o 9 (al 49),w (st 49 9 15)])
(S (R [o 16 (mv 2),o 17 (ld 49 9),o 18 (.call { callee:=(.value (.tmp 16)),args:=#[(.tmp 17)],argTypes:=#[49] }),o 19 (mv 1),o 20 (cl 69 #[(t 18),(t 19)] #[3,3])])
(.cond (t 20)
(R [o 21 (mv 7),o 22 (ld 49 9),o 23 (.buildSlice 32 1 #[(0,(.tmp 22))]),o 24 (.call { callee:=(.builtin .append),args:=#[(.tmp 21),(.tmp 23)],argTypes:=#[32,32] }),o 7 (av 24)])
.skip))))
(R [o 25 (bo .add (t 12) (n 1)),o 12 (mv 25)]))))
def c70:IR:=(S (R [o 6 (.assign (.const (.slice none 0 0)))])
(S (R [o 7 (.assign (.const (.slice none 0 0)))])
(S (S (R [o 10 (mv 0),o 11 (len 10 32),o 12 (.move (.const (.int .i64 0)))])
(.block 0 (.loop [1,2,7,10,11,12] JY)))
(S (R [o 26 (mv 7),o 6 (av 26)])
(.ret [6])))))
def g70:IFn:=⟨27,[.tmp 6],[32],c70,[true],false,none⟩
def c71:IR:=(S (R [z 1 (bx 49 0),o 2 (an 0)])
(S (R [o 3 (fa 49 1 1),o 4 (ld 3 3),o 2 (av 4)])
(.ret [2])))
def g71:IFn:=⟨5,[.tmp 2],[3],c71,[],false,none⟩
def JX:IR:=(S (R [o 13 (bo .lss (t 12) (t 11))])
(S (.cond (t 13)
.skip
(.exit 0 [7]))
(S (.block 1 (S (R [o 14 (ia 33 10 12),o 15 (ld 67 14),o 9 (al 67),w (st 67 9 15)])
(S (R [o 16 (mv 2),o 17 (ld 67 9),o 18 (.call { callee:=(.value (.tmp 16)),args:=#[(.tmp 17)],argTypes:=#[67] }),o 19 (mv 1),o 20 (cl 69 #[(t 18),(t 19)] #[3,3])])
(.cond (t 20)
(R [o 21 (mv 7),o 22 (ld 67 9),o 23 (.buildSlice 33 1 #[(0,(.tmp 22))]),o 24 (.call { callee:=(.builtin .append),args:=#[(.tmp 21),(.tmp 23)],argTypes:=#[33,33] }),o 7 (av 24)])
.skip))))
(R [o 25 (bo .add (t 12) (n 1)),o 12 (mv 25)]))))
def c72:IR:=(S (R [o 6 (.assign (.const (.slice none 0 0)))])
(S (R [o 7 (.assign (.const (.slice none 0 0)))])
(S (S (R [o 10 (mv 0),o 11 (len 10 33),o 12 (.move (.const (.int .i64 0)))])
(.block 0 (.loop [1,2,7,10,11,12] JX)))
(S (R [o 26 (mv 7),o 6 (av 26)])
(.ret [6])))))
def g72:IFn:=⟨27,[.tmp 6],[33],c72,[],false,none⟩
def c73:IR:=(S (R [z 1 (bx 67 0),o 2 (an 0)])
(S (R [o 3 (fa 67 1 1),o 4 (ld 3 3),o 2 (av 4)])
(.ret [2])))
def g73:IFn:=⟨5,[.tmp 2],[3],c73,[],false,none⟩
def JW:IR:=(S (R [o 13 (bo .lss (t 12) (t 11))])
(S (.cond (t 13)
.skip
(.exit 0 [7]))
(S (.block 1 (S (R [o 14 (ia 24 10 12),o 15 (ld 53 14),o 9 (al 53),w (st 53 9 15)])
(S (R [o 16 (mv 2),o 17 (ld 53 9),o 18 (.call { callee:=(.value (.tmp 16)),args:=#[(.tmp 17)],argTypes:=#[53] }),o 19 (mv 1),o 20 (cl 69 #[(t 18),(t 19)] #[3,3])])
(.cond (t 20)
(R [o 21 (mv 7),o 22 (ld 53 9),o 23 (.buildSlice 24 1 #[(0,(.tmp 22))]),o 24 (.call { callee:=(.builtin .append),args:=#[(.tmp 21),(.tmp 23)],argTypes:=#[24,24] }),o 7 (av 24)])
.skip))))
(R [o 25 (bo .add (t 12) (n 1)),o 12 (mv 25)]))))
def c74:IR:=(S (R [o 6 (.assign (.const (.slice none 0 0)))])
(S (R [o 7 (.assign (.const (.slice none 0 0)))])
(S (S (R [o 10 (mv 0),o 11 (len 10 24),o 12 (.move (.const (.int .i64 0)))])
(.block 0 (.loop [1,2,7,10,11,12] JW)))
(S (R [o 26 (mv 7),o 6 (av 26)])
(.ret [6])))))
def g74:IFn:=⟨27,[.tmp 6],[24],c74,[],false,none⟩
def c75:IR:=(S (R [z 1 (bx 53 0),o 2 (an 0)])
(S (R [o 3 (fa 53 1 1),o 4 (ld 3 3),o 2 (av 4)])
(.ret [2])))
def g75:IFn:=⟨5,[.tmp 2],[3],c75,[],false,none⟩
def JV:IR:=(S (R [o 13 (bo .lss (t 12) (t 11))])
(S (.cond (t 13)
.skip
(.exit 0 [7]))
(S (.block 1 (S (R [o 14 (ia 25 10 12),o 15 (ld 44 14),o 9 (al 44),w (st 44 9 15)])
(S (R [o 16 (mv 2),o 17 (ld 44 9),o 18 (.call { callee:=(.value (.tmp 16)),args:=#[(.tmp 17)],argTypes:=#[44] }),o 19 (mv 1),o 20 (cl 69 #[(t 18),(t 19)] #[3,3])])
(.cond (t 20)
(R [o 21 (mv 7),o 22 (ld 44 9),o 23 (.buildSlice 25 1 #[(0,(.tmp 22))]),o 24 (.call { callee:=(.builtin .append),args:=#[(.tmp 21),(.tmp 23)],argTypes:=#[25,25] }),o 7 (av 24)])
.skip))))
(R [o 25 (bo .add (t 12) (n 1)),o 12 (mv 25)]))))
def c76:IR:=(S (R [o 6 (.assign (.const (.slice none 0 0)))])
(S (R [o 7 (.assign (.const (.slice none 0 0)))])
(S (S (R [o 10 (mv 0),o 11 (len 10 25),o 12 (.move (.const (.int .i64 0)))])
(.block 0 (.loop [1,2,7,10,11,12] JV)))
(S (R [o 26 (mv 7),o 6 (av 26)])
(.ret [6])))))
def g76:IFn:=⟨27,[.tmp 6],[25],c76,[],false,none⟩
def c77:IR:=(S (R [z 1 (bx 44 0),o 2 (an 0)])
(S (R [o 3 (fa 44 1 0),o 4 (ld 3 3),o 2 (av 4)])
(.ret [2])))
def g77:IFn:=⟨5,[.tmp 2],[3],c77,[],false,none⟩
def c78:IR:=(S (R [o 2 (.assign (.const (.slice none 0 0)))])
(S (S (R [o 3 (mv 0),o 4 (.binOp .eql 45 (.tmp 3) (.const (.slice none 0 0)) 45)])
(.cond (t 4)
(S (R [o 2 (.assign (.const (.slice none 0 0)))])
(.ret [2]))
.skip))
(S (R [o 5 (.buildSlice 45 0 #[]),o 6 (mv 0),o 7 (.call { callee:=(.builtin .append),args:=#[(.tmp 5),(.tmp 6)],argTypes:=#[45,45] }),o 2 (av 7)])
(.ret [2]))))
def g78:IFn:=⟨8,[.tmp 2],[45],c78,[],false,some (4,32)⟩
def ZD:IR:=D [o 17 (mv 0),o 18 (mv 5),o 19 (ia 22 17 18),o 20 (ld 3 19),o 21 (mv 1),o 22 (mv 5),o 23 (ia 22 21 22),o 24 (ld 3 23),o 25 (bo .neq (t 20) (t 24))] [[],[],[0,1],[2],[],[],[4,5],[6],[3,7]]
def RK:IR:=(S (S (R [o 11 (mv 5),o 12 (mv 0),o 13 (len 12 22),o 14 (bo .lss (t 11) (t 13))])
(.cond (t 14)
.skip
(.exit 0 [])))
(S (.block 1 (S ZD
(.cond (t 25)
(S (R [o 4 (ab false)])
(.ret [4]))
.skip)))
(R [o 15 (mv 5),o 16 (bo .add (t 15) (n 1)),o 5 (av 16)])))
def c79:IR:=(S (R [o 4 (ab false)])
(S (S (R [o 6 (mv 0),o 7 (len 6 22),o 8 (mv 1),o 9 (len 8 22),o 10 (bo .neq (t 7) (t 9))])
(.cond (t 10)
(S (R [o 4 (ab false)])
(.ret [4]))
.skip))
(S (S (R [o 5 (an 0)])
(.block 0 (.loop [0,1,5] RK)))
(S (R [o 4 (ab true)])
(.ret [4])))))
def g79:IFn:=⟨26,[.tmp 4],[4],c79,[],false,none⟩
def ZC:IR:=D [o 17 (mv 0),o 18 (mv 5),o 19 (ia 25 17 18),o 20 (ld 44 19),o 21 (mv 1),o 22 (mv 5),o 23 (ia 25 21 22),o 24 (ld 44 23),o 25 (.binOp .neq 44 (.tmp 20) (.tmp 24) 44)] [[],[],[0,1],[2],[],[],[4,5],[6],[3,7]]
def RJ:IR:=(S (S (R [o 11 (mv 5),o 12 (mv 0),o 13 (len 12 25),o 14 (bo .lss (t 11) (t 13))])
(.cond (t 14)
.skip
(.exit 0 [])))
(S (.block 1 (S ZC
(.cond (t 25)
(S (R [o 4 (ab false)])
(.ret [4]))
.skip)))
(R [o 15 (mv 5),o 16 (bo .add (t 15) (n 1)),o 5 (av 16)])))
def c80:IR:=(S (R [o 4 (ab false)])
(S (S (R [o 6 (mv 0),o 7 (len 6 25),o 8 (mv 1),o 9 (len 8 25),o 10 (bo .neq (t 7) (t 9))])
(.cond (t 10)
(S (R [o 4 (ab false)])
(.ret [4]))
.skip))
(S (S (R [o 5 (an 0)])
(.block 0 (.loop [0,1,5] RJ)))
(S (R [o 4 (ab true)])
(.ret [4])))))
def g80:IFn:=⟨26,[.tmp 4],[4],c80,[],false,none⟩
def c81:IR:=(S (R [z 1 (bx 44 0),o 2 (ab false)])
(S (R [o 3 (ld 44 1),o 4 (cl 50 #[(t 3)] #[44]),o 5 (.unOp .not 4 (.tmp 4)),o 2 (av 5)])
(.ret [2])))
def g81:IFn:=⟨6,[.tmp 2],[4],c81,[],false,none⟩
def c82:IR:=(S (R [o 4 (ab false)])
(S (R [o 5 (mv 0),o 6 (mv 1),o 7 (cl 136 #[(t 5),(t 6)] #[25,94]),o 8 (bo .geq (t 7) (n 0)),o 4 (av 8)])
(.ret [4])))
def g82:IFn:=⟨9,[.tmp 4],[4],c82,[],false,none⟩
def Wi:IR:=(S (S (R [o 3 (mv 2),o 4 (mv 0),o 5 (len 4 22),o 6 (bo .lss (t 3) (t 5))])
(.cond (t 6)
.skip
(.exit 0 [])))
(S (.block 1 (R [o 9 (mv 0),o 10 (mv 2),o 11 (mv 0),o 12 (mv 2),o 13 (ia 22 11 12),o 14 (ld 3 13),o 15 (bo .sub (n (-9)) (t 14)),o 16 (ia 22 9 10),w (st 3 16 15)]))
(R [o 7 (mv 2),o 8 (bo .add (t 7) (n 1)),o 2 (av 8)])))
def c83:IR:=(S (R [o 2 (an 0)])
(.block 0 (.loop [0,2] Wi)))
def g83:IFn:=⟨17,[],[],c83,[true],false,none⟩
def Wh:IR:=(S (S (R [o 3 (mv 2),o 4 (mv 0),o 5 (len 4 45),o 6 (bo .lss (t 3) (t 5))])
(.cond (t 6)
.skip
(.exit 0 [])))
(S (.block 1 (R [o 9 (mv 0),o 10 (mv 2),o 11 (mv 0),o 12 (mv 2),o 13 (ia 45 11 12),o 14 (fa 99 13 1),o 15 (ld 3 14),o 16 (bo .xor (t 15) (n 90)),o 17 (ia 45 9 10),o 18 (fa 99 17 1),w (st 3 18 16)]))
(R [o 7 (mv 2),o 8 (bo .add (t 7) (n 1)),o 2 (av 8)])))
def c84:IR:=(S (R [o 2 (an 0)])
(.block 0 (.loop [0,2] Wh)))
def g84:IFn:=⟨19,[],[],c84,[true],false,none⟩
def Wg:IR:=(S (S (R [o 3 (mv 2),o 4 (mv 0),o 5 (len 4 25),o 6 (bo .lss (t 3) (t 5))])
(.cond (t 6)
.skip
(.exit 0 [])))
(S (.block 1 (R [o 9 (mv 0),o 10 (mv 2),o 11 (mv 0),o 12 (mv 2),o 13 (ia 25 11 12),o 14 (fa 44 13 1),o 15 (ld 3 14),o 16 (bo .xor (t 15) (n 90)),o 17 (ia 25 9 10),o 18 (fa 44 17 1),w (st 3 18 16)]))
(R [o 7 (mv 2),o 8 (bo .add (t 7) (n 1)),o 2 (av 8)])))
def c85:IR:=(S (R [o 2 (an 0)])
(.block 0 (.loop [0,2] Wg)))
def g85:IFn:=⟨19,[],[],c85,[true],false,none⟩
def yV:IR:=(S (S (R [o 3 (mv 2),o 4 (bo .lss (t 3) (n 4))])
(.cond (t 4)
.skip
(.exit 0 [])))
(S (.block 1 (R [o 7 (mv 2),o 8 (ia 30 1 7),o 9 (ld 29 8),o 10 (cl 137 #[(t 9)] #[29])]))
(R [o 5 (mv 2),o 6 (bo .add (t 5) (n 1)),o 2 (av 6)])))
def c86:IR:=(S (R [o 1 (bx 30 0)])
(S (R [o 2 (an 0)])
(.block 0 (.loop [1,2] yV))))
def g86:IFn:=⟨11,[],[],c86,[true],false,none⟩
def c87:IR:=(S (R [o 1 (bx 49 0)])
(S (R [o 2 (fa 49 1 3),o 3 (ld 45 2),o 4 (cl 84 #[(t 3)] #[45])])
(S (R [o 5 (fa 49 1 7),o 6 (ld 46 5),o 7 (cl 138 #[(t 6)] #[46])])
(R [o 8 (fa 49 1 8),o 9 (ld 47 8),o 10 (cl 139 #[(t 9)] #[47])]))))
def g87:IFn:=⟨11,[],[],c87,[true],false,none⟩
def Wf:IR:=(S (S (R [o 3 (mv 2),o 4 (mv 0),o 5 (len 4 33),o 6 (bo .lss (t 3) (t 5))])
(.cond (t 6)
.skip
(.exit 0 [])))
(S (.block 1 (R [o 9 (mv 0),o 10 (mv 2),o 11 (mv 0),o 12 (mv 2),o 13 (ia 33 11 12),o 14 (fa 67 13 0),o 15 (ld 3 14),o 16 (bo .xor (t 15) (n 90)),o 17 (ia 33 9 10),o 18 (fa 67 17 0),w (st 3 18 16)]))
(R [o 7 (mv 2),o 8 (bo .add (t 7) (n 1)),o 2 (av 8)])))
def c88:IR:=(S (R [o 2 (an 0)])
(.block 0 (.loop [0,2] Wf)))
def g88:IFn:=⟨19,[],[],c88,[true],false,none⟩
def RI:IR:=(S (R [o 8 (bo .lss (t 7) (t 6))])
(S (.cond (t 8)
.skip
(.exit 0 [0]))
(S (.block 1 (S (R [o 9 (mv 7),o 10 (ia 45 5 7),o 11 (ld 99 10),o 4 (al 99),o 3 (av 9),w (st 99 4 11)])
(S (R [o 12 (ld 99 4),o 13 (cl 140 #[(t 12)] #[99]),o 14 (.unOp .not 4 (.tmp 13)),o 15 (mv 14),oF 16 (fa 99 4 0) 15,oF 17 (ld 3 16) 15,oF 18 (bo .eql (t 17) (n 4)) 15,oF 19 (mv 18) 15,oT 20 (fa 99 4 2) 19,oT 21 (ld 3 20) 19,oT 22 (mv 3) 19,oT 23 (bo .leq (t 21) (t 22)) 19,oT 24 (mv 23) 19,oF 25 (fa 99 4 2) 24,oF 26 (ld 3 25) 24,oF 27 (mv 0) 24,oF 28 (len 27 45) 24,oF 29 (bo .gtr (t 26) (t 28)) 24,oT 30 (.pick (.tmp 24) (.const (.bool true)) (.tmp 29)) 19,oF 31 (.pick (.tmp 19) (.tmp 30) (.const (.bool false))) 15,o 32 (.pick (.tmp 15) (.const (.bool true)) (.tmp 31))])
(.cond (t 32)
(S (R [o 2 (ab false)])
(.ret [2]))
.skip))))
(R [o 33 (bo .add (t 7) (n 1)),o 7 (mv 33)]))))
def c89:IR:=(S (R [o 2 (ab false)])
(S (S (R [o 5 (mv 0),o 6 (len 5 45),o 7 (.move (.const (.int .i64 0)))])
(.block 0 (.loop [0,5,6,7] RI)))
(S (R [o 34 (mv 0),o 35 (len 34 45),o 36 (bo .leq (t 35) (n 16)),o 2 (av 36)])
(.ret [2]))))
def g89:IFn:=⟨37,[.tmp 2],[4],c89,[],false,none⟩
def c92:IR:=(S (R [o 2 (ab false)])
(S (R [o 3 (mv 0),o 4 (cl 141 #[(t 3),(n 254)] #[3,3]),o 2 (av 4)])
(.ret [2])))
def g92:IFn:=⟨5,[.tmp 2],[4],c92,[],false,none⟩
def ZB:IR:=D [o 32 (mv 5),o 33 (mv 5),o 34 (ia 30 4 33),o 35 (ld 29 34),o 36 (mv 5),o 37 (ia 23 1 36),o 38 (ld 22 37),o 39 (mv 6),o 40 (ia 22 38 39),o 41 (ld 3 40),o 42 (.build 55 #[(0,(.tmp 41))]),o 43 (.buildSlice 29 1 #[(0,(.tmp 42))]),o 44 (.call { callee:=(.builtin .append),args:=#[(.tmp 35),(.tmp 43)],argTypes:=#[29,29] }),o 45 (ia 30 4 32),w (st 29 45 44)] [[],[],[1],[2],[],[4],[5],[],[6,7],[8],[9],[10],[3,11],[0,0,1,2,3,4,5,6,7,8,9,10,11,12],[13,12,12,0,1,2,3,4,5,6,7,8,9,10,11,12]]
def PV:IR:=(S (S (R [o 11 (mv 6),o 12 (mv 5),o 13 (ia 23 1 12),o 14 (ld 22 13),o 15 (len 14 22),o 16 (bo .lss (t 11) (t 15))])
(.cond (t 16)
.skip
(.exit 2 [1,2,4,5])))
(S (.block 3 (S (S (R [o 19 (mv 6),o 20 (bo .geq (t 19) (n 4)),o 21 (mv 20),oF 22 (mv 5) 21,oF 23 (ia 23 1 22) 21,oF 24 (ld 22 23) 21,oF 25 (mv 6) 21,oF 26 (ia 22 24 25) 21,oF 27 (ld 3 26) 21,oF 28 (cl 142 #[(t 27)] #[3]) 21,oF 29 (.unOp .not 4 (.tmp 28)) 21,o 30 (.pick (.tmp 21) (.const (.bool true)) (.tmp 29))])
(.cond (t 30)
(S (R [o 31 (.build 30 #[]),w (st 30 2 31),o 3 (an 400)])
(.ret [2,3]))
.skip))
ZB))
(R [o 17 (mv 6),o 18 (bo .add (t 17) (n 1)),o 6 (av 18)])))
def RH:IR:=(S (S (R [o 7 (mv 5),o 8 (bo .lss (t 7) (n 4))])
(.cond (t 8)
.skip
(.exit 0 [2,4])))
(S (.block 1 (S (R [o 6 (an 0)])
(.block 2 (.loop [1,2,4,5,6] PV))))
(R [o 9 (mv 5),o 10 (bo .add (t 9) (n 1)),o 5 (av 10)])))
def c93:IR:=(S (R [z 1 (bx 23 0),o 2 (al 30),o 3 (an 0)])
(S (R [o 4 (al 30)])
(S (S (R [o 5 (an 0)])
(.block 0 (.loop [1,2,4,5] RH)))
(S (R [o 46 (ld 30 4),w (st 30 2 46),o 3 (an 0)])
(.ret [2,3])))))
def g93:IFn:=⟨47,[.cell 2 30,.tmp 3],[30,3],c93,[],false,none⟩
def ZA:IR:=D [o 8 (fa 53 1 0),o 9 (ld 3 8),o 10 (fa 53 1 1),o 11 (ld 3 10),o 12 (fa 53 1 2),o 13 (ld 3 12),o 14 (.buildSlice 45 0 #[]),o 15 (fa 53 1 3),o 16 (ld 45 15),o 17 (.call { callee:=(.builtin .append),args:=#[(.tmp 14),(.tmp 16)],argTypes:=#[45,45] }),o 18 (.build 49 #[(0,(.tmp 9)),(1,(.tmp 11)),(2,(.tmp 13)),(3,(.tmp 17))]),w (st 49 2 18),o 3 (an 0)] [[],[0],[],[2],[],[4],[],[],[7],[6,8],[1,3,5,9],[10,9,0,1,2,3,4,5,6,7,8,9,10],[11,0,1,2,3,4,5,6,7,8,9,10,11]]
def c94:IR:=(S (R [z 1 (bx 53 0),o 2 (al 49),o 3 (an 0)])
(S (S (R [o 4 (ld 53 1),o 5 (cl 143 #[(t 4)] #[53]),o 6 (.unOp .not 4 (.tmp 5))])
(.cond (t 6)
(S (R [o 7 (.build 49 #[]),w (st 49 2 7),o 3 (an 1100)])
(.ret [2,3]))
.skip))
(S ZA
(.ret [2,3]))))
def g94:IFn:=⟨19,[.cell 2 49,.tmp 3],[49,3],c94,[],false,none⟩
def Zz:IR:=D [o 32 (mv 3),o 33 (fa 35 1 1),o 34 (ia 31 33 32),o 35 (ld 3 34),o 36 (fa 35 1 2),o 37 (ld 3 36),o 38 (cl 97 #[(t 35),(n 0),(t 37)] #[3,3,3]),o 39 (.unOp .not 4 (.tmp 38))] [[],[],[1,0],[2],[],[4],[3,5],[6]]
def PU:IR:=(S (S (R [o 28 (mv 3),o 29 (bo .lss (t 28) (n 4))])
(.cond (t 29)
.skip
(.exit 0 [1])))
(S (.block 1 (S Zz
(.cond (t 39)
(S (R [o 2 (ab false)])
(.ret [2]))
.skip)))
(R [o 30 (mv 3),o 31 (bo .add (t 30) (n 1)),o 3 (av 31)])))
def Zy:IR:=D [o 47 (ld 35 1),o 48 (fa 35 1 3),o 49 (ld 32 48),o 50 (mv 4),o 51 (ia 32 49 50),o 52 (ld 49 51),o 53 (cl 144 #[(t 47),(t 52)] #[35,49]),o 54 (.unOp .not 4 (.tmp 53)),o 55 (mv 54),oF 56 (mv 4) 55,oF 57 (bo .gtr (t 56) (n 0)) 55,oF 58 (mv 57) 55,oT 59 (fa 35 1 3) 58,oT 60 (ld 32 59) 58,oT 61 (mv 4) 58,oT 62 (ia 32 60 61) 58,oT 63 (fa 49 62 0) 58,oT 64 (ld 3 63) 58,oT 65 (fa 35 1 3) 58,oT 66 (ld 32 65) 58,oT 67 (mv 4) 58,oT 68 (bo .sub (t 67) (n 1)) 58,oT 69 (ia 32 66 68) 58,oT 70 (fa 49 69 0) 58,oT 71 (ld 3 70) 58,oT 72 (bo .leq (t 64) (t 71)) 58,oF 73 (.pick (.tmp 58) (.tmp 72) (.const (.bool false))) 55,o 74 (.pick (.tmp 55) (.const (.bool true)) (.tmp 73))] [[],[],[1],[],[2,3],[4],[0,5],[6],[7,6],[8],[9,8],[10,8,8],[11],[12,11],[11],[13,14,11],[15,11],[16,11],[11],[18,11],[11],[20,11],[19,21,11],[22,11],[23,11],[17,24,11],[11,25,8],[8,26]]
def NT:IR:=(S (S (R [o 40 (mv 4),o 41 (fa 35 1 3),o 42 (ld 32 41),o 43 (len 42 32),o 44 (bo .lss (t 40) (t 43))])
(.cond (t 44)
.skip
(.exit 2 [1])))
(S (.block 3 (S Zy
(.cond (t 74)
(S (R [o 2 (ab false)])
(.ret [2]))
.skip)))
(R [o 45 (mv 4),o 46 (bo .add (t 45) (n 1)),o 4 (av 46)])))
def RG:IR:=(S (S (R [o 75 (mv 5),o 76 (fa 35 1 4),o 77 (ld 33 76),o 78 (len 77 33),o 79 (bo .lss (t 75) (t 78))])
(.cond (t 79)
.skip
(.exit 4 [])))
(S (.block 5 (S (R [o 82 (fa 35 1 4),o 83 (ld 33 82),o 84 (mv 5),o 85 (ia 33 83 84),o 86 (fa 67 85 1),o 87 (ld 3 86),o 88 (cl 96 #[(t 87)] #[3]),o 89 (.unOp .not 4 (.tmp 88))])
(.cond (t 89)
(S (R [o 2 (ab false)])
(.ret [2]))
.skip)))
(R [o 80 (mv 5),o 81 (bo .add (t 80) (n 1)),o 5 (av 81)])))
def c95:IR:=(S (R [z 1 (bx 35 0),o 2 (ab false)])
(S (S (R [o 6 (fa 35 1 0),o 7 (ld 30 6),o 8 (cl 52 #[(t 7)] #[30]),o 9 (.unOp .not 4 (.tmp 8)),o 10 (mv 9),oF 11 (fa 35 1 2) 10,oF 12 (ld 3 11) 10,oF 13 (cl 106 #[(t 12)] #[3]) 10,oF 14 (.unOp .not 4 (.tmp 13)) 10,o 15 (.pick (.tmp 10) (.const (.bool true)) (.tmp 14)),o 16 (mv 15),oF 17 (fa 35 1 3) 16,oF 18 (ld 32 17) 16,oF 19 (len 18 32) 16,oF 20 (bo .gtr (t 19) (n 4)) 16,o 21 (.pick (.tmp 16) (.const (.bool true)) (.tmp 20)),o 22 (mv 21),oF 23 (fa 35 1 4) 22,oF 24 (ld 33 23) 22,oF 25 (len 24 33) 22,oF 26 (bo .gtr (t 25) (n 512)) 22,o 27 (.pick (.tmp 22) (.const (.bool true)) (.tmp 26))])
(.cond (t 27)
(S (R [o 2 (ab false)])
(.ret [2]))
.skip))
(S (S (R [o 3 (an 0)])
(.block 0 (.loop [1,3] PU)))
(S (S (R [o 4 (an 0)])
(.block 2 (.loop [1,4] NT)))
(S (S (R [o 5 (an 0)])
(.block 4 (.loop [1,5] RG)))
(S (R [o 2 (ab true)])
(.ret [2])))))))
def g95:IFn:=⟨90,[.tmp 2],[4],c95,[],false,none⟩
def c96:IR:=(S (R [o 2 (ab false)])
(S (R [o 3 (mv 0),o 4 (cl 145 #[(t 3),(n 0),(n 3)] #[3,3,3]),o 2 (av 4)])
(.ret [2])))
def g96:IFn:=⟨5,[.tmp 2],[4],c96,[],false,none⟩
def c97:IR:=(S (R [o 6 (ab false)])
(S (R [o 7 (mv 0),o 8 (mv 1),o 9 (bo .geq (t 7) (t 8)),o 10 (mv 9),oT 11 (mv 0) 10,oT 12 (mv 2) 10,oT 13 (bo .leq (t 11) (t 12)) 10,o 14 (.pick (.tmp 10) (.tmp 13) (.const (.bool false))),o 6 (av 14)])
(.ret [6])))
def g97:IFn:=⟨15,[.tmp 6],[4],c97,[],false,none⟩
def Zx:IR:=D [o 17 (mv 0),o 18 (mv 5),o 19 (ia 29 17 18),o 20 (ld 55 19),o 21 (mv 1),o 22 (mv 5),o 23 (ia 29 21 22),o 24 (ld 55 23),o 25 (.binOp .neq 55 (.tmp 20) (.tmp 24) 55)] [[],[],[0,1],[2],[],[],[4,5],[6],[3,7]]
def RF:IR:=(S (S (R [o 11 (mv 5),o 12 (mv 0),o 13 (len 12 29),o 14 (bo .lss (t 11) (t 13))])
(.cond (t 14)
.skip
(.exit 0 [])))
(S (.block 1 (S Zx
(.cond (t 25)
(S (R [o 4 (ab false)])
(.ret [4]))
.skip)))
(R [o 15 (mv 5),o 16 (bo .add (t 15) (n 1)),o 5 (av 16)])))
def c98:IR:=(S (R [o 4 (ab false)])
(S (S (R [o 6 (mv 0),o 7 (len 6 29),o 8 (mv 1),o 9 (len 8 29),o 10 (bo .neq (t 7) (t 9))])
(.cond (t 10)
(S (R [o 4 (ab false)])
(.ret [4]))
.skip))
(S (S (R [o 5 (an 0)])
(.block 0 (.loop [0,1,5] RF)))
(S (R [o 4 (ab true)])
(.ret [4])))))
def g98:IFn:=⟨26,[.tmp 4],[4],c98,[],false,none⟩
def yU:IR:=(S (R [o 5 (bo .lss (t 4) (n 4))])
(S (.cond (t 5)
.skip
(.exit 0 [1,2]))
(S (.block 1 (S (R [o 6 (mv 4),o 3 (av 6)])
(R [o 7 (mv 3),o 8 (mv 3),o 9 (ia 30 1 8),o 10 (ld 29 9),o 11 (cl 146 #[(t 10)] #[29]),o 12 (ia 30 1 7),w (st 29 12 11)])))
(R [o 13 (bo .add (t 4) (n 1)),o 4 (mv 13)]))))
def c99:IR:=(S (R [o 1 (bx 30 0),o 2 (al 30)])
(S (S (R [o 4 (.move (.const (.int .i64 0)))])
(.block 0 (.loop [1,2,4] yU)))
(S (R [o 14 (ld 30 1),w (st 30 2 14)])
(.ret [2]))))
def g99:IFn:=⟨15,[.cell 2 30],[30],c99,[],false,none⟩
def c100:IR:=(S (R [o 2 (.assign (.const (.slice none 0 0)))])
(S (S (R [o 3 (mv 0),o 4 (.binOp .eql 32 (.tmp 3) (.const (.slice none 0 0)) 32)])
(.cond (t 4)
(S (R [o 2 (.assign (.const (.slice none 0 0)))])
(.ret [2]))
.skip))
(S (R [o 5 (.buildSlice 32 0 #[]),o 6 (mv 0),o 7 (.call { callee:=(.builtin .append),args:=#[(.tmp 5),(.tmp 6)],argTypes:=#[32,32] }),o 2 (av 7)])
(.ret [2]))))
def g100:IFn:=⟨8,[.tmp 2],[32],c100,[],false,some (17,184)⟩
def c101:IR:=(S (R [o 2 (.assign (.const (.slice none 0 0)))])
(S (S (R [o 3 (mv 0),o 4 (.binOp .eql 33 (.tmp 3) (.const (.slice none 0 0)) 33)])
(.cond (t 4)
(S (R [o 2 (.assign (.const (.slice none 0 0)))])
(.ret [2]))
.skip))
(S (R [o 5 (.buildSlice 33 0 #[]),o 6 (mv 0),o 7 (.call { callee:=(.builtin .append),args:=#[(.tmp 5),(.tmp 6)],argTypes:=#[33,33] }),o 2 (av 7)])
(.ret [2]))))
def g101:IFn:=⟨8,[.tmp 2],[33],c101,[],false,some (4,32)⟩
def Ua:IR:=D [o 3 (fa 49 1 3),o 4 (ld 45 3),o 5 (cl 78 #[(t 4)] #[45]),o 6 (fa 49 1 7),o 7 (ld 46 6),o 8 (cl 147 #[(t 7)] #[46]),o 9 (fa 49 1 8),o 10 (ld 47 9),o 11 (cl 148 #[(t 10)] #[47]),o 12 (fa 49 1 3),w (st 45 12 5),o 13 (fa 49 1 7),w (st 46 13 8),o 14 (fa 49 1 8),w (st 47 14 11)] [[],[0],[1],[],[3],[4,2],[],[6],[7,5],[0,1,2,3,4,6,7],[9,2,8,0,1,2,3,4,6,7],[0,1,2,3,4,5,6,7,9,10],[11,5,10,0,1,2,3,4,5,6,7,9,10],[0,1,2,3,4,5,6,7,8,9,10,11,12],[13,8,12,0,1,2,3,4,5,6,7,8,9,10,11,12]]
def c102:IR:=(S (R [o 1 (bx 49 0),o 2 (al 49)])
(S Ua
(S (R [o 15 (ld 49 1),w (st 49 2 15)])
(.ret [2]))))
def g102:IFn:=⟨16,[.cell 2 49],[49],c102,[],false,none⟩
def TZ:IR:=D [o 10 (mv 0),o 11 (mv 3),o 12 (ia 47 10 11),o 13 (fa 162 12 0),o 14 (ld 3 13),o 15 (mv 0),o 16 (mv 3),o 17 (ia 47 15 16),o 18 (fa 162 17 1),o 19 (ld 3 18),o 20 (cl 105 #[(t 14),(t 19)] #[3,3]),o 21 (.unOp .not 4 (.tmp 20)),o 22 (mv 21),oF 23 (mv 0) 22,oF 24 (mv 3) 22,oF 25 (ia 47 23 24) 22,oF 26 (fa 162 25 2) 22,oF 27 (ld 3 26) 22,oF 28 (cl 142 #[(t 27)] #[3]) 22,oF 29 (.unOp .not 4 (.tmp 28)) 22,o 30 (.pick (.tmp 22) (.const (.bool true)) (.tmp 29)),o 31 (mv 30),oF 32 (mv 3) 31,oF 33 (bo .gtr (t 32) (n 0)) 31,oF 34 (mv 33) 31,oT 35 (mv 0) 34,oT 36 (mv 3) 34,oT 37 (ia 47 35 36) 34,oT 38 (fa 162 37 0) 34,oT 39 (ld 3 38) 34,oT 40 (mv 0) 34,oT 41 (mv 3) 34,oT 42 (ia 47 40 41) 34,oT 43 (fa 162 42 1) 34,oT 44 (ld 3 43) 34,oT 45 (cl 149 #[(t 39),(t 44)] #[3,3]) 34,oT 46 (mv 0) 34,oT 47 (mv 3) 34,oT 48 (bo .sub (t 47) (n 1)) 34,oT 49 (ia 47 46 48) 34,oT 50 (fa 162 49 0) 34,oT 51 (ld 3 50) 34,oT 52 (mv 0) 34,oT 53 (mv 3) 34,oT 54 (bo .sub (t 53) (n 1)) 34,oT 55 (ia 47 52 54) 34,oT 56 (fa 162 55 1) 34,oT 57 (ld 3 56) 34,oT 58 (cl 149 #[(t 51),(t 57)] #[3,3]) 34,oT 59 (bo .leq (t 45) (t 58)) 34,oF 60 (.pick (.tmp 34) (.tmp 59) (.const (.bool false))) 31,o 61 (.pick (.tmp 31) (.const (.bool true)) (.tmp 60))] [[],[],[0,1],[2],[3],[],[],[5,6],[7],[8],[4,9],[10],[11,10],[12],[12],[13,14,12],[15,12],[16,12],[17,12,12],[18,12],[12,19],[20,18],[21],[22,21],[23,21,21],[24],[24],[25,26,24],[27,24],[28,24],[24],[24],[30,31,24],[32,24],[33,24],[29,34,24,24],[24],[24],[37,24],[36,38,24],[39,24],[40,24],[24],[24],[43,24],[42,44,24],[45,24],[46,24],[41,47,35,24],[35,48,24],[24,49,21],[21,50]]
def GA:IR:=(S (S (R [o 4 (mv 3),o 5 (mv 0),o 6 (len 5 47),o 7 (bo .lss (t 4) (t 6))])
(.cond (t 7)
.skip
(.exit 0 [0])))
(S (.block 1 (S TZ
(.cond (t 61)
(S (R [o 2 (ab false)])
(.ret [2]))
.skip)))
(R [o 8 (mv 3),o 9 (bo .add (t 8) (n 1)),o 3 (av 9)])))
def c103:IR:=(S (R [o 2 (ab false)])
(S (S (R [o 3 (an 0)])
(.block 0 (.loop [0,3] GA)))
(S (R [o 62 (mv 0),o 63 (len 62 47),o 64 (bo .leq (t 63) (n 16)),o 2 (av 64)])
(.ret [2]))))
def g103:IFn:=⟨65,[.tmp 2],[4],c103,[],false,none⟩
def c104:IR:=(S (R [z 1 (bx 55 0),o 2 (ab false)])
(S (R [o 3 (fa 55 1 0),o 4 (ld 3 3),o 5 (cl 142 #[(t 4)] #[3]),o 6 (mv 5),oT 7 (fa 55 1 1) 6,oT 8 (ld 3 7) 6,oT 9 (cl 106 #[(t 8)] #[3]) 6,o 10 (.pick (.tmp 6) (.tmp 9) (.const (.bool false))),o 11 (mv 10),oT 12 (fa 55 1 2) 11,oT 13 (ld 3 12) 11,oT 14 (cl 145 #[(t 13),(n 0),(n 255)] #[3,3,3]) 11,o 15 (.pick (.tmp 11) (.tmp 14) (.const (.bool false))),o 2 (av 15)])
(.ret [2])))
def g104:IFn:=⟨16,[.tmp 2],[4],c104,[],false,none⟩
def c105:IR:=(S (R [o 4 (ab false)])
(S (R [o 5 (mv 0),o 6 (cl 96 #[(t 5)] #[3]),o 7 (mv 6),oT 8 (mv 1) 7,oT 9 (cl 145 #[(t 8),(n 0),(n 3)] #[3,3,3]) 7,o 10 (.pick (.tmp 7) (.tmp 9) (.const (.bool false))),o 4 (av 10)])
(.ret [4])))
def g105:IFn:=⟨11,[.tmp 4],[4],c105,[],false,none⟩
def c106:IR:=(S (R [o 2 (ab false)])
(S (R [o 3 (mv 0),o 4 (cl 145 #[(t 3),(n 0),(n 65535)] #[3,3,3]),o 2 (av 4)])
(.ret [2])))
def g106:IFn:=⟨5,[.tmp 2],[4],c106,[],false,none⟩
def c107:IR:=(S (R [z 3 (bx 30 0),o 6 (ab false)])
(S (R [o 7 (mv 1),o 8 (cl 96 #[(t 7)] #[3]),o 9 (mv 8),oT 10 (mv 2) 9,oT 11 (bo .geq (t 10) (n 0)) 9,o 12 (.pick (.tmp 9) (.tmp 11) (.const (.bool false))),o 13 (mv 12),oT 14 (mv 2) 13,oT 15 (mv 1) 13,oT 16 (ia 30 3 15) 13,oT 17 (ld 29 16) 13,oT 18 (len 17 29) 13,oT 19 (bo .lss (t 14) (t 18)) 13,o 20 (.pick (.tmp 13) (.tmp 19) (.const (.bool false))),o 6 (av 20)])
(.ret [6])))
def g107:IFn:=⟨21,[.tmp 6],[4],c107,[],false,none⟩
def Ke:IR:=(S (R [o 1 (bx 113 0),o 2 (.assign (.const (.pointer none)))])
(S (R [o 3 (fa 113 1 0),o 4 (fa 35 3 3),o 5 (ld 32 4),o 6 (fa 113 1 1),o 7 (ld 3 6),o 8 (ia 32 5 7),o 2 (av 8)])
(.ret [2])))
def g108:IFn:=⟨9,[.tmp 2],[165],Ke,[],true,none⟩
def TY:IR:=D [o 8 (mv 4),o 9 (nc 8),o 10 (fa 49 9 5),o 11 (ld 3 10),o 12 (mv 4),o 13 (nc 12),o 14 (fa 49 13 3),o 15 (ld 45 14),o 16 (len 15 45),o 17 (bo .eql (t 11) (t 16))] [[],[0],[1],[2],[],[4],[5],[6],[7],[3,8]]
def TX:IR:=D [o 22 (mv 4),o 23 (nc 22),o 24 (fa 49 23 3),o 25 (ld 45 24),o 26 (mv 4),o 27 (nc 26),o 28 (fa 49 27 5),o 29 (ld 3 28),o 30 (ia 45 25 29),o 31 (ld 99 30),o 5 (al 99),w (st 99 5 31)] [[],[0],[1],[2],[],[4],[5],[6],[3,7],[8],[],[10,9,0,1,2,3,4,5,6,7,8,9,10]]
def Yd:IR:=(S (R [z 1 (bx 113 0),o 2 (al 35),o 3 (an 0)])
(S (R [o 6 (ld 113 1),o 7 (cl 108 #[(t 6)] #[113]),o 4 (av 7)])
(S (S TY
(.cond (t 17)
(S (R [o 18 (ld 113 1),o 19 (cl 150 #[(t 18)] #[113]),o 20 (xt 19 0),o 21 (xt 19 1),w (st 35 2 20),o 3 (av 21)])
(.ret [2,3]))
.skip))
(S (S TX
(S (R [o 32 (fa 99 5 0),o 33 (ld 3 32)])
(.block 0 (S (R [o 35 (bo .eql (t 33) (n 2)),o 34 (av 35)])
(.cond (t 34)
(S (R [o 36 (ld 113 1),o 37 (cl 151 #[(t 36)] #[113]),o 38 (xt 37 0),o 39 (xt 37 1),w (st 35 2 38),o 3 (av 39)])
(.ret [2,3]))
(S (R [o 41 (bo .eql (t 33) (n 3)),o 40 (av 41)])
(.cond (t 40)
(S (R [o 42 (fa 113 1 0),o 43 (ld 35 42),o 44 (fa 113 1 1),o 45 (ld 3 44),o 46 (cl 152 #[(t 43),(t 45)] #[35,3]),o 47 (xt 46 0),o 48 (xt 46 1),w (st 35 2 47),o 3 (av 48)])
(.ret [2,3]))
(S (R [o 50 (bo .eql (t 33) (n 5)),o 49 (av 50)])
(.cond (t 49)
(S (R [o 51 (fa 113 1 0),o 52 (ld 35 51),o 53 (fa 113 1 1),o 54 (ld 3 53),o 55 (cl 114 #[(t 52),(t 54)] #[35,3]),o 56 (xt 55 0),o 57 (xt 55 1),w (st 35 2 56),o 3 (av 57)])
(.ret [2,3]))
(S (R [o 59 (bo .eql (t 33) (n 6)),o 58 (av 59)])
(.cond (t 58)
(S (R [o 60 (ld 113 1),o 61 (fa 99 5 1),o 62 (ld 3 61),o 63 (cl 153 #[(t 60),(n 2),(t 62)] #[113,3,3]),o 64 (xt 63 0),o 65 (xt 63 1),w (st 35 2 64),o 3 (av 65)])
(.ret [2,3]))
.skip)))))))))))
(S (R [o 66 (fa 113 1 0),o 67 (ld 35 66),o 68 (fa 113 1 1),o 69 (ld 3 68),o 70 (cl 154 #[(t 67),(t 69)] #[35,3]),o 71 (xt 70 0),o 72 (xt 70 1),w (st 35 2 71),o 3 (av 72)])
(.ret [2,3]))))))
def g109:IFn:=⟨73,[.cell 2 35,.tmp 3],[35,36],Yd,[],false,none⟩
def TW:IR:=D [o 11 (mv 1),o 12 (cl 155 #[(t 2),(t 11),(n 1)] #[111,3,3]),o 13 (.unOp .not 4 (.tmp 12)),o 14 (mv 13),oF 15 (fa 35 2 3) 14,oF 16 (ld 32 15) 14,oF 17 (mv 1) 14,oF 18 (ia 32 16 17) 14,oF 19 (fa 49 18 9) 14,oF 20 (ld 3 19) 14,oF 21 (fa 35 2 3) 14,oF 22 (ld 32 21) 14,oF 23 (mv 1) 14,oF 24 (ia 32 22 23) 14,oF 25 (fa 49 24 8) 14,oF 26 (ld 47 25) 14,oF 27 (len 26 47) 14,oF 28 (bo .eql (t 20) (t 27)) 14,o 29 (.pick (.tmp 14) (.const (.bool true)) (.tmp 28))] [[],[0],[1],[2,1],[3],[4,3],[3],[5,6,3],[7,3],[8,3],[3],[10,3],[3],[11,12,3],[13,3],[14,3],[15,3],[9,16,3],[3,17]]
def TV:IR:=D [o 37 (mv 7),o 38 (nc 37),o 39 (fa 49 38 8),o 40 (ld 47 39),o 41 (mv 7),o 42 (nc 41),o 43 (fa 49 42 9),o 44 (ld 3 43),o 45 (ia 47 40 44),o 46 (ld 162 45),o 8 (al 162),w (st 162 8 46)] [[],[0],[1],[2],[],[4],[5],[6],[3,7],[8],[],[10,9,0,1,2,3,4,5,6,7,8,9,10]]
def TU:IR:=D [o 48 (fa 162 8 0),o 49 (ld 3 48),o 50 (fa 35 6 0),o 51 (ia 30 50 49),o 52 (ld 29 51),o 53 (fa 162 8 1),o 54 (ld 3 53),o 55 (ia 29 52 54),o 56 (ld 55 55),o 57 (mv 7),o 58 (nc 57),o 59 (fa 49 58 0),o 60 (ld 3 59),o 61 (cl 156 #[(t 56),(t 60)] #[55,3]),o 47 (mv 61),o 62 (xt 47 0),o 63 (xt 47 1),o 9 (al 55),w (st 55 9 62),o 10 (av 63)] [[],[0],[],[2,1],[3],[],[5],[4,6],[7],[],[9],[10],[11],[8,12],[13],[14],[14],[],[17,15,13,0,1,2,3,4,5,6,7,8,9,10,11,12,13,14,15,17],[16,18,0,1,2,3,4,5,6,7,8,9,10,11,12,13,14,15,16,17,18]]
def TT:IR:=D [o 71 (fa 162 8 0),o 72 (ld 3 71),o 73 (fa 35 6 0),o 74 (ia 30 73 72),o 75 (ld 29 74),o 76 (fa 162 8 1),o 77 (ld 3 76),o 78 (ld 55 9),o 79 (ia 29 75 77),w (st 55 79 78)] [[],[0],[],[2,1],[3],[],[5],[],[4,6,0,1,2,3,4,5,6,7],[8,7,0,1,2,3,4,5,6,7]]
def TS:IR:=D [o 87 (mv 7),o 88 (nc 87),o 89 (fa 49 88 9),o 90 (ld 3 89),o 91 (mv 7),o 92 (nc 91),o 93 (fa 49 92 8),o 94 (ld 47 93),o 95 (len 94 47),o 96 (bo .eql (t 90) (t 95))] [[],[0],[1],[2],[],[4],[5],[6],[7],[3,8]]
def Yc:IR:=(S (R [z 2 (bx 35 0),o 4 (al 35),o 5 (an 0)])
(S (S TW
(.cond (t 29)
(S (R [o 30 (.build 35 #[]),w (st 35 4 30),o 5 (an 1800)])
(.ret [4,5]))
.skip))
(S (R [o 31 (ld 35 2),o 32 (cl 49 #[(t 31)] #[35]),o 6 (al 35),w (st 35 6 32)])
(S (R [o 33 (fa 35 6 3),o 34 (ld 32 33),o 35 (mv 1),z 36 (ia 32 34 35),o 7 (av 36)])
(S TV
(S TU
(S (S (R [o 64 (mv 10),o 65 (.binOp .neq 36 (.tmp 64) (.const (.int .i64 0)) 36)])
(.cond (t 65)
(S (R [o 66 (ld 35 2),o 67 (mv 1),o 68 (cl 157 #[(t 66),(t 67),(n 3)] #[35,3,3]),o 69 (xt 68 0),o 70 (xt 68 1),w (st 35 4 69),o 5 (av 70)])
(.ret [4,5]))
.skip))
(S TT
(S (S (R [o 80 (mv 7),o 81 (nc 80),o 82 (fa 49 81 9),o 83 (ld 3 82),o 84 (bo .add (t 83) (n 1)),o 85 (nc 80),o 86 (fa 49 85 9),w (st 3 86 84)])
(S TS
(.cond (t 96)
(R [o 97 (mv 7),o 98 (nc 97),o 99 (fa 49 98 4),w (.store 3 (.tmp 99) (.const (.int .i64 2)))])
.skip)))
(S (R [o 100 (ld 35 6),w (st 35 4 100),o 5 (an 0)])
(.ret [4,5])))))))))))
def g110:IFn:=⟨101,[.cell 4 35,.tmp 5],[35,36],Yc,[],false,none⟩
def TR:IR:=D [o 16 (fa 35 2 1),o 17 (ld 31 16),o 18 (fa 35 2 3),o 19 (ld 32 18),o 20 (mv 1),o 21 (ia 32 19 20),o 22 (fa 49 21 1),o 23 (ld 3 22),o 24 (fa 35 2 2),o 25 (ld 3 24),o 26 (cl 158 #[(t 17),(t 23),(t 25)] #[31,3,3]),o 15 (mv 26),o 27 (xt 15 0),o 28 (xt 15 1),o 29 (xt 15 2),o 6 (al 31),w (st 31 6 27),o 7 (av 28),o 8 (av 29)] [[],[0],[],[2],[],[3,4],[5],[6],[],[8],[1,7,9],[10],[11],[11],[11],[],[15,12,10,0,1,2,3,4,5,6,7,8,9,10,11,12,15],[13,16,0,1,2,3,4,5,6,7,8,9,10,11,12,13,15,16],[14,17,0,1,2,3,4,5,6,7,8,9,10,11,12,13,14,15,16,17]]
def xB:IR:=(S (R [z 2 (bx 35 0),o 4 (al 35),o 5 (an 0)])
(S (S (R [o 11 (mv 1),o 12 (cl 155 #[(t 2),(t 11),(n 2)] #[111,3,3]),o 13 (.unOp .not 4 (.tmp 12))])
(.cond (t 13)
(S (R [o 14 (.build 35 #[]),w (st 35 4 14),o 5 (an 1900)])
(.ret [4,5]))
.skip))
(S TR
(S (S (R [o 30 (mv 8),o 31 (.binOp .neq 36 (.tmp 30) (.const (.int .i64 0)) 36)])
(.cond (t 31)
(S (R [o 32 (ld 35 2),o 33 (mv 1),o 34 (cl 159 #[(t 32),(t 33),(n 5),(n 0)] #[35,3,3,3]),o 35 (xt 34 0),o 36 (xt 34 1),w (st 35 4 35),o 5 (av 36)])
(.ret [4,5]))
.skip))
(S (R [o 37 (ld 35 2),o 38 (cl 49 #[(t 37)] #[35]),o 9 (al 35),w (st 35 9 38)])
(S (R [o 39 (fa 35 9 3),o 40 (ld 32 39),o 41 (mv 1),o 42 (ia 32 40 41),o 10 (av 42)])
(S (R [o 43 (mv 10),o 44 (mv 10),o 45 (ld 31 6),o 46 (mv 7),o 47 (fa 35 9 1),w (st 31 47 45),o 48 (nc 43),o 49 (fa 49 48 10),w (st 3 49 46),o 50 (nc 44),o 51 (fa 49 50 4),w (.store 3 (.tmp 51) (.const (.int .i64 3)))])
(S (R [o 52 (ld 35 9),w (st 35 4 52),o 5 (an 0)])
(.ret [4,5])))))))))
def g111:IFn:=⟨53,[.cell 4 35,.tmp 5],[35,36],xB,[],false,none⟩
def TQ:IR:=D [o 20 (fa 35 2 0),o 21 (ld 30 20),o 22 (mv 6),o 23 (nc 22),o 24 (fa 49 23 7),o 25 (ld 46 24),o 26 (mv 6),o 27 (nc 26),o 28 (fa 49 27 0),o 29 (ld 3 28),o 30 (cl 160 #[(t 21),(t 25),(t 29)] #[30,46,3]),o 19 (mv 30),o 31 (xt 19 0),o 32 (xt 19 1),o 7 (av 31),o 8 (av 32)] [[],[0],[],[2],[3],[4],[],[6],[7],[8],[1,5,9],[10],[11],[11],[12,10,0,1,2,3,4,5,6,7,8,9,10,11,12],[13,14,0,1,2,3,4,5,6,7,8,9,10,11,12,13,14]]
def oR:IR:=(S (R [z 2 (bx 35 0),o 4 (al 35),o 5 (an 0)])
(S (S (R [o 11 (mv 1),o 12 (cl 155 #[(t 2),(t 11),(n 3)] #[111,3,3]),o 13 (.unOp .not 4 (.tmp 12))])
(.cond (t 13)
(S (R [o 14 (.build 35 #[]),w (st 35 4 14),o 5 (an 2000)])
(.ret [4,5]))
.skip))
(S (R [o 15 (fa 35 2 3),o 16 (ld 32 15),o 17 (mv 1),o 18 (ia 32 16 17),o 6 (av 18)])
(S TQ
(S (.block 0 (S (R [o 34 (mv 7),o 35 (.unOp .not 4 (.tmp 34)),o 33 (av 35)])
(.cond (t 33)
(S (R [o 36 (ld 35 2),o 37 (mv 1),o 38 (cl 157 #[(t 36),(t 37),(n 3)] #[35,3,3]),o 39 (xt 38 0),o 40 (xt 38 1),w (st 35 4 39),o 5 (av 40)])
(.ret [4,5]))
(S (R [o 42 (mv 6),o 43 (nc 42),o 44 (fa 49 43 8),o 45 (ld 47 44),o 46 (len 45 47),o 47 (bo .eql (t 46) (n 0)),o 41 (av 47)])
(.cond (t 41)
(S (R [o 48 (ld 35 2),o 49 (mv 1),o 50 (cl 159 #[(t 48),(t 49),(n 1),(n 0)] #[35,3,3,3]),o 51 (xt 50 0),o 52 (xt 50 1),w (st 35 4 51),o 5 (av 52)])
(.ret [4,5]))
.skip)))))
(S (R [o 53 (ld 35 2),o 54 (cl 49 #[(t 53)] #[35]),o 9 (al 35),w (st 35 9 54)])
(S (R [o 55 (fa 35 9 3),o 56 (ld 32 55),o 57 (mv 1),o 58 (ia 32 56 57),o 10 (av 58)])
(S (R [o 59 (mv 10),o 60 (mv 10),o 61 (nc 59),o 62 (fa 49 61 9),w (.store 3 (.tmp 62) (.const (.int .i64 0))),o 63 (nc 60),o 64 (fa 49 63 4),w (.store 3 (.tmp 64) (.const (.int .i64 4)))])
(S (R [o 65 (ld 35 9),w (st 35 4 65),o 5 (an 0)])
(.ret [4,5]))))))))))
def g112:IFn:=⟨66,[.cell 4 35,.tmp 5],[35,36],oR,[],false,none⟩
def TP:IR:=D [o 10 (mv 1),o 11 (cl 155 #[(t 2),(t 10),(n 4)] #[111,3,3]),o 12 (.unOp .not 4 (.tmp 11)),o 13 (mv 12),oF 14 (fa 35 2 3) 13,oF 15 (ld 32 14) 13,oF 16 (mv 1) 13,oF 17 (ia 32 15 16) 13,oF 18 (fa 49 17 9) 13,oF 19 (ld 3 18) 13,oF 20 (fa 35 2 3) 13,oF 21 (ld 32 20) 13,oF 22 (mv 1) 13,oF 23 (ia 32 21 22) 13,oF 24 (fa 49 23 8) 13,oF 25 (ld 47 24) 13,oF 26 (len 25 47) 13,oF 27 (bo .eql (t 19) (t 26)) 13,o 28 (.pick (.tmp 13) (.const (.bool true)) (.tmp 27))] [[],[0],[1],[2,1],[3],[4,3],[3],[5,6,3],[7,3],[8,3],[3],[10,3],[3],[11,12,3],[13,3],[14,3],[15,3],[9,16,3],[3,17]]
def TO:IR:=D [o 36 (mv 7),o 37 (nc 36),o 38 (fa 49 37 8),o 39 (ld 47 38),o 40 (mv 7),o 41 (nc 40),o 42 (fa 49 41 9),o 43 (ld 3 42),o 44 (ia 47 39 43),o 45 (ld 162 44),o 8 (al 162),w (st 162 8 45)] [[],[0],[1],[2],[],[4],[5],[6],[3,7],[8],[],[10,9,0,1,2,3,4,5,6,7,8,9,10]]
def TN:IR:=D [o 46 (fa 162 8 0),o 47 (ld 3 46),o 48 (fa 35 6 0),o 49 (ia 30 48 47),o 50 (ld 29 49),o 51 (fa 162 8 1),o 52 (ld 3 51),o 53 (ia 29 50 52),o 9 (av 53)] [[],[0],[],[2,1],[3],[],[5],[4,6],[7,0,1,2,3,4,5,6,7]]
def TM:IR:=D [o 55 (mv 9),o 56 (mv 9),o 57 (nc 56),o 58 (ld 55 57),o 59 (fa 162 8 2),o 60 (ld 3 59),o 61 (mv 7),o 62 (nc 61),o 63 (fa 49 62 10),o 64 (ld 3 63),o 65 (cl 161 #[(t 58),(t 60),(t 64)] #[55,3,3]),o 54 (mv 65),o 66 (xt 54 0),o 67 (xt 54 1),o 68 (nc 55),w (st 55 68 66)] [[],[],[1],[2],[],[4],[],[6],[7],[8],[3,5,9],[10],[11],[11],[0,0,1,2,3,4,5,6,7,8,9,10,11,12],[14,12,10,0,1,2,3,4,5,6,7,8,9,10,11,12]]
def TL:IR:=D [o 76 (mv 7),o 77 (nc 76),o 78 (fa 49 77 9),o 79 (ld 3 78),o 80 (mv 7),o 81 (nc 80),o 82 (fa 49 81 8),o 83 (ld 47 82),o 84 (len 83 47),o 85 (bo .lss (t 79) (t 84))] [[],[0],[1],[2],[],[4],[5],[6],[7],[3,8]]
def fI:IR:=(S (R [z 2 (bx 35 0),o 4 (al 35),o 5 (an 0)])
(S (S TP
(.cond (t 28)
(S (R [o 29 (.build 35 #[]),w (st 35 4 29),o 5 (an 2100)])
(.ret [4,5]))
.skip))
(S (R [o 30 (ld 35 2),o 31 (cl 49 #[(t 30)] #[35]),o 6 (al 35),w (st 35 6 31)])
(S (R [o 32 (fa 35 6 3),o 33 (ld 32 32),o 34 (mv 1),z 35 (ia 32 33 34),o 7 (av 35)])
(S TO
(S TN
(S TM
(S (S (R [o 69 (mv 7),o 70 (nc 69),o 71 (fa 49 70 9),o 72 (ld 3 71),o 73 (bo .add (t 72) (n 1)),o 74 (nc 69),o 75 (fa 49 74 9),w (st 3 75 73)])
(S TL
(.cond (t 85)
(S (R [o 86 (ld 35 6),w (st 35 4 86),o 5 (an 0)])
(.ret [4,5]))
.skip)))
(S (R [o 87 (ld 35 6),o 88 (mv 1),o 89 (cl 159 #[(t 87),(t 88),(n 1),(n 0)] #[35,3,3,3]),o 90 (xt 89 0),o 91 (xt 89 1),w (st 35 4 90),o 5 (av 91)])
(.ret [4,5]))))))))))
def g113:IFn:=⟨92,[.cell 4 35,.tmp 5],[35,36],fI,[],false,none⟩
def TK:IR:=D [o 41 (fa 35 2 0),o 42 (ld 30 41),o 43 (fa 35 2 3),o 44 (ld 32 43),o 45 (mv 1),o 46 (ia 32 44 45),o 47 (fa 49 46 7),o 48 (ld 46 47),o 49 (cl 164 #[(t 42),(t 48)] #[30,46]),o 40 (mv 49),o 50 (xt 40 0),o 51 (xt 40 1),o 8 (av 50),o 9 (av 51)] [[],[0],[],[2],[],[3,4],[5],[6],[1,7],[8],[9],[9],[10,8,0,1,2,3,4,5,6,7,8,9,10],[11,12,0,1,2,3,4,5,6,7,8,9,10,11,12]]
def Ug:IR:=(S (R [z 2 (bx 35 0),o 4 (al 35),o 5 (an 0)])
(S (S (R [o 10 (mv 1),o 11 (.buildSlice 22 1 #[(0,(.const (.int .i64 5)))]),o 12 (cl 162 #[(t 2),(t 10),(t 11)] #[111,3,22])])
(.cond (t 12)
(S (R [o 13 (ld 35 2),o 14 (cl 49 #[(t 13)] #[35]),o 6 (al 35),w (st 35 6 14)])
(S (R [o 15 (fa 35 6 3),o 16 (ld 32 15),o 17 (mv 1),o 18 (ia 32 16 17),o 7 (av 18)])
(S (R [o 19 (mv 7),o 20 (mv 7),o 21 (mv 7),o 22 (nc 19),o 23 (fa 49 22 8),w (.store 47 (.tmp 23) (.const (.slice none 0 0))),o 24 (nc 20),o 25 (fa 49 24 9),w (.store 3 (.tmp 25) (.const (.int .i64 0))),o 26 (nc 21),o 27 (fa 49 26 4),w (.store 3 (.tmp 27) (.const (.int .i64 5)))])
(S (R [o 28 (mv 1),o 29 (mv 7),o 30 (nc 29),o 31 (fa 49 30 7),o 32 (ld 46 31),o 33 (len 32 46),o 34 (cl 163 #[(t 6),(t 28),(n 4),(t 33)] #[111,3,3,3])])
(S (R [o 35 (ld 35 6),w (st 35 4 35),o 5 (an 0)])
(.ret [4,5]))))))
.skip))
(S (S (R [o 36 (mv 1),o 37 (cl 155 #[(t 2),(t 36),(n 5)] #[111,3,3]),o 38 (.unOp .not 4 (.tmp 37))])
(.cond (t 38)
(S (R [o 39 (.build 35 #[]),w (st 35 4 39),o 5 (an 2200)])
(.ret [4,5]))
.skip))
(S (S TK
(S (R [o 52 (mv 8)])
(.cond (t 52)
(S (R [o 53 (ld 35 2),o 54 (mv 1),o 55 (cl 157 #[(t 53),(t 54),(n 5)] #[35,3,3]),o 56 (xt 55 0),o 57 (xt 55 1),w (st 35 4 56),o 5 (av 57)])
(.ret [4,5]))
.skip)))
(S (R [o 58 (ld 35 2),o 59 (cl 49 #[(t 58)] #[35]),w (st 35 4 59),o 5 (an 0)])
(.ret [4,5]))))))
def g114:IFn:=⟨60,[.cell 4 35,.tmp 5],[35,36],Ug,[],false,none⟩
def c115:IR:=(S (R [z 1 (bx 55 0),o 2 (ab false)])
(S (R [o 3 (ld 55 1),o 4 (cl 116 #[(t 3)] #[55]),o 5 (.unOp .not 4 (.tmp 4)),o 2 (av 5)])
(.ret [2])))
def g115:IFn:=⟨6,[.tmp 2],[4],c115,[],false,none⟩
def c116:IR:=(S (R [z 1 (bx 55 0),o 2 (ab false)])
(S (R [o 3 (fa 55 1 0),o 4 (ld 3 3),o 5 (cl 131 #[(t 4)] #[3]),o 6 (mv 5),oT 7 (fa 55 1 1) 6,oT 8 (ld 3 7) 6,oT 9 (cl 118 #[(t 8)] #[3]) 6,o 10 (.pick (.tmp 6) (.tmp 9) (.const (.bool false))),o 11 (mv 10),oT 12 (fa 55 1 2) 11,oT 13 (ld 3 12) 11,oT 14 (cl 141 #[(t 13),(n 255)] #[3,3]) 11,o 15 (.pick (.tmp 11) (.tmp 14) (.const (.bool false))),o 2 (av 15)])
(.ret [2])))
def g116:IFn:=⟨16,[.tmp 2],[4],c116,[],false,none⟩
def c117:IR:=(S (R [o 4 (ab false)])
(S (R [o 5 (mv 0),o 6 (mv 1),o 7 (cl 165 #[(t 5),(t 6)] #[29,163]),o 8 (bo .geq (t 7) (n 0)),o 4 (av 8)])
(.ret [4])))
def g117:IFn:=⟨9,[.tmp 4],[4],c117,[],false,none⟩
def c118:IR:=(S (R [o 2 (ab false)])
(S (R [o 3 (mv 0),o 4 (cl 141 #[(t 3),(n 65535)] #[3,3]),o 2 (av 4)])
(.ret [2])))
def g118:IFn:=⟨5,[.tmp 2],[4],c118,[],false,none⟩
def c119:IR:=(S (R [o 4 (ab false)])
(S (R [o 5 (mv 0),o 6 (mv 1),o 7 (cl 166 #[(t 5),(t 6)] #[32,121]),o 8 (bo .geq (t 7) (n 0)),o 4 (av 8)])
(.ret [4])))
def g119:IFn:=⟨9,[.tmp 4],[4],c119,[],false,none⟩
def c120:IR:=(S (R [z 2 (bx 49 0),o 3 (ab false)])
(S (R [o 4 (ld 121 1),o 5 (ld 49 2),o 6 (.call { callee:=(.value (.tmp 4)),args:=#[(.tmp 5)],argTypes:=#[49] }),o 7 (.unOp .not 4 (.tmp 6)),o 3 (av 7)])
(.ret [3])))
def g120:IFn:=⟨8,[.tmp 3],[4],c120,[],false,none⟩
def TJ:IR:=D [o 15 (fa 106 4 0),o 16 (ld 3 15),o 17 (cl 64 #[(t 16)] #[3]),o 18 (.unOp .not 4 (.tmp 17)),o 19 (mv 18),oF 20 (fa 106 4 1) 19,oF 21 (ld 3 20) 19,oF 22 (cl 167 #[(t 21)] #[3]) 19,oF 23 (.unOp .not 4 (.tmp 22)) 19,o 24 (.pick (.tmp 19) (.const (.bool true)) (.tmp 23)),o 25 (mv 24),oF 26 (fa 106 4 2) 25,oF 27 (ld 3 26) 25,oF 28 (cl 118 #[(t 27)] #[3]) 25,oF 29 (.unOp .not 4 (.tmp 28)) 25,o 30 (.pick (.tmp 25) (.const (.bool true)) (.tmp 29)),o 31 (mv 30),oF 32 (mv 0) 31,oF 33 (mv 3) 31,oF 34 (.slice 46 (.tmp 32) none (some (.tmp 33)) none) 31,oF 35 (ld 106 4) 31,oF 36 (cl 169 #[(t 35)] #[106]) 31,oF 37 (cl 168 #[(t 34),(t 36)] #[46,169]) 31,o 38 (.pick (.tmp 31) (.const (.bool true)) (.tmp 37))] [[],[0],[1],[2],[3,2],[4],[5,4],[6,4,4],[7,4],[4,8],[9,7],[10],[11,10],[12,10,10],[13,10],[10,14],[15,13],[16],[16],[17,18,16],[16],[20,16,16],[19,21,21,16],[16,22]]
def Kd:IR:=(S (R [o 11 (bo .lss (t 10) (t 9))])
(S (.cond (t 11)
.skip
(.exit 0 []))
(S (.block 1 (S (R [o 12 (mv 10),o 13 (ia 46 8 10),o 14 (ld 106 13),o 4 (al 106),o 3 (av 12),w (st 106 4 14)])
(S TJ
(.cond (t 38)
(S (R [o 2 (ab false)])
(.ret [2]))
.skip))))
(R [o 39 (bo .add (t 10) (n 1)),o 10 (mv 39)]))))
def c121:IR:=(S (R [o 2 (ab false)])
(S (S (R [o 5 (mv 0),o 6 (len 5 46),o 7 (bo .gtr (t 6) (n 16))])
(.cond (t 7)
(S (R [o 2 (ab false)])
(.ret [2]))
.skip))
(S (S (R [o 8 (mv 0),o 9 (len 8 46),o 10 (.move (.const (.int .i64 0)))])
(.block 0 (.loop [0,8,9,10] Kd)))
(S (R [o 2 (ab true)])
(.ret [2])))))
def g121:IFn:=⟨40,[.tmp 2],[4],c121,[],false,none⟩
def TH:IR:=D [o 12 (fa 162 4 0),o 13 (ld 3 12),o 14 (cl 64 #[(t 13)] #[3]),o 15 (.unOp .not 4 (.tmp 14)),o 16 (mv 15),oF 17 (fa 162 4 1) 16,oF 18 (ld 3 17) 16,oF 19 (cl 167 #[(t 18)] #[3]) 16,oF 20 (.unOp .not 4 (.tmp 19)) 16,o 21 (.pick (.tmp 16) (.const (.bool true)) (.tmp 20)),o 22 (mv 21),oF 23 (fa 162 4 2) 22,oF 24 (ld 3 23) 22,oF 25 (cl 131 #[(t 24)] #[3]) 22,oF 26 (.unOp .not 4 (.tmp 25)) 22,o 27 (.pick (.tmp 22) (.const (.bool true)) (.tmp 26)),o 28 (mv 27),oF 29 (mv 3) 28,oF 30 (bo .gtr (t 29) (n 0)) 28,oF 31 (mv 30) 28,oT 32 (mv 0) 31,oT 33 (mv 3) 31,oT 34 (bo .sub (t 33) (n 1)) 31,oT 35 (ia 47 32 34) 31,oT 36 (ld 162 35) 31,oT 37 (ld 162 4) 31,oT 38 (cl 170 #[(t 36),(t 37)] #[162,162]) 31,oT 39 (bo .geq (t 38) (n 0)) 31,oF 40 (.pick (.tmp 31) (.tmp 39) (.const (.bool false))) 28,o 41 (.pick (.tmp 28) (.const (.bool true)) (.tmp 40))] [[],[0],[1],[2],[3,2],[4],[5,4],[6,4,4],[7,4],[4,8],[9,7],[10],[11,10],[12,10,10],[13,10],[10,14],[15,13],[16],[17,16],[18,16,16],[19],[19],[21,19],[20,22,19],[23,19],[19],[24,25,19,19],[26,19],[19,27,16],[16,28]]
def Gz:IR:=(S (R [o 8 (bo .lss (t 7) (t 6))])
(S (.cond (t 8)
.skip
(.exit 0 [0]))
(S (.block 1 (S (R [o 9 (mv 7),o 10 (ia 47 5 7),o 11 (ld 162 10),o 4 (al 162),o 3 (av 9),w (st 162 4 11)])
(S TH
(.cond (t 41)
(S (R [o 2 (ab false)])
(.ret [2]))
.skip))))
(R [o 42 (bo .add (t 7) (n 1)),o 7 (mv 42)]))))
def c122:IR:=(S (R [o 2 (ab false)])
(S (S (R [o 5 (mv 0),o 6 (len 5 47),o 7 (.move (.const (.int .i64 0)))])
(.block 0 (.loop [0,5,6,7] Gz)))
(S (R [o 43 (mv 0),o 44 (len 43 47),o 45 (bo .leq (t 44) (n 16)),o 2 (av 45)])
(.ret [2]))))
def g122:IFn:=⟨46,[.tmp 2],[4],c122,[],false,none⟩
def c123:IR:=(S (R [z 3 (bx 169 1),o 4 (ab false)])
(S (R [o 5 (mv 0),o 6 (.makeFunc (Go.Fn.func 171) #[] #[(.tmp 3)]),o 7 (cl 168 #[(t 5),(t 6)] #[46,169]),o 8 (.unOp .not 4 (.tmp 7)),o 4 (av 8)])
(.ret [4])))
def g123:IFn:=⟨9,[.tmp 4],[4],c123,[],false,none⟩
def c124:IR:=(S (R [z 2 (bx 124 0),z 3 (bx 106 1),o 4 (ab false)])
(S (R [o 5 (fa 124 2 0),o 6 (ld 122 5),o 7 (fa 106 3 0),o 8 (ld 3 7),o 9 (fa 106 3 1),o 10 (ld 3 9),o 11 (cl 172 #[(t 6),(t 8),(t 10)] #[122,3,3]),o 4 (av 11)])
(.ret [4])))
def g124:IFn:=⟨12,[.tmp 4],[4],c124,[],false,none⟩
def c125:IR:=(S (R [z 3 (bx 171 1),o 4 (ab false)])
(S (R [o 5 (mv 0),o 6 (.makeFunc (Go.Fn.func 174) #[] #[(.tmp 3)]),o 7 (cl 173 #[(t 5),(t 6)] #[47,171]),o 8 (.unOp .not 4 (.tmp 7)),o 4 (av 8)])
(.ret [4])))
def g125:IFn:=⟨9,[.tmp 4],[4],c125,[],false,none⟩
def c126:IR:=(S (R [z 2 (bx 124 0),z 3 (bx 162 1),o 4 (ab false)])
(S (R [o 5 (fa 124 2 0),o 6 (ld 122 5),o 7 (fa 162 3 0),o 8 (ld 3 7),o 9 (fa 162 3 1),o 10 (ld 3 9),o 11 (cl 172 #[(t 6),(t 8),(t 10)] #[122,3,3]),o 4 (av 11)])
(.ret [4])))
def g126:IFn:=⟨12,[.tmp 4],[4],c126,[],false,none⟩
def c127:IR:=(S (R [z 3 (bx 173 1),o 4 (ab false)])
(S (R [o 5 (mv 0),o 6 (.makeFunc (Go.Fn.func 176) #[] #[(.tmp 3)]),o 7 (cl 175 #[(t 5),(t 6)] #[45,173]),o 8 (.unOp .not 4 (.tmp 7)),o 4 (av 8)])
(.ret [4])))
def g127:IFn:=⟨9,[.tmp 4],[4],c127,[],false,none⟩
def c128:IR:=(S (R [z 2 (bx 124 0),z 3 (bx 99 1),o 4 (ab false)])
(S (R [o 5 (ld 99 3),o 6 (cl 177 #[(t 5)] #[99]),o 7 (.unOp .not 4 (.tmp 6)),o 8 (mv 7),oF 9 (fa 124 2 0) 8,oF 10 (ld 122 9) 8,oF 11 (fa 99 3 2) 8,oF 12 (ld 3 11) 8,oF 13 (fa 99 3 3) 8,oF 14 (ld 3 13) 8,oF 15 (cl 172 #[(t 10),(t 12),(t 14)] #[122,3,3]) 8,o 16 (.pick (.tmp 8) (.const (.bool true)) (.tmp 15)),o 4 (av 16)])
(.ret [4])))
def g128:IFn:=⟨17,[.tmp 4],[4],c128,[],false,none⟩
def c129:IR:=(S (R [o 4 (ab false)])
(S (R [o 5 (mv 0),o 6 (bo .geq (t 5) (n 0)),o 7 (mv 6),oT 8 (mv 0) 7,oT 9 (mv 1) 7,oT 10 (bo .leq (t 8) (t 9)) 7,o 11 (.pick (.tmp 7) (.tmp 10) (.const (.bool false))),o 4 (av 11)])
(.ret [4])))
def g129:IFn:=⟨12,[.tmp 4],[4],c129,[],false,none⟩
def Yb:IR:=(S (R [o 7 (bo .lss (t 6) (n 4))])
(S (.cond (t 7)
.skip
(.exit 0 []))
(S (.block 1 (S (R [o 8 (nc 5),o 9 (ia 31 8 6),o 10 (ld 3 9),o 4 (av 10)])
(S (R [o 11 (mv 4),o 12 (cl 131 #[(t 11)] #[3]),o 13 (.unOp .not 4 (.tmp 12))])
(.cond (t 13)
(S (R [o 2 (ab false)])
(.ret [2]))
.skip))))
(R [o 14 (bo .add (t 6) (n 1)),o 6 (mv 14)]))))
def c130:IR:=(S (R [o 2 (ab false)])
(S (S (R [o 5 (mv 0),o 6 (.move (.const (.int .i64 0)))])
(.block 0 (.loop [5,6] Yb)))
(S (R [o 2 (ab true)])
(.ret [2]))))
def g130:IFn:=⟨15,[.tmp 2],[4],c130,[],false,none⟩
def c131:IR:=(S (R [o 2 (ab false)])
(S (R [o 3 (mv 0),o 4 (cl 141 #[(t 3),(n 255)] #[3,3]),o 2 (av 4)])
(.ret [2])))
def g131:IFn:=⟨5,[.tmp 2],[4],c131,[],false,none⟩
def c132:IR:=(S (R [o 4 (ab false)])
(S (R [o 5 (mv 0),o 6 (mv 1),o 7 (cl 178 #[(t 5),(t 6)] #[33,119]),o 8 (bo .geq (t 7) (n 0)),o 4 (av 8)])
(.ret [4])))
def g132:IFn:=⟨9,[.tmp 4],[4],c132,[],false,none⟩
def c133:IR:=(S (R [z 2 (bx 67 0),o 3 (ab false)])
(S (R [o 4 (ld 119 1),o 5 (ld 67 2),o 6 (.call { callee:=(.value (.tmp 4)),args:=#[(.tmp 5)],argTypes:=#[67] }),o 7 (.unOp .not 4 (.tmp 6)),o 3 (av 7)])
(.ret [3])))
def g133:IFn:=⟨8,[.tmp 3],[4],c133,[],false,none⟩
def c134:IR:=(S (R [o 4 (ab false)])
(S (R [o 5 (mv 0),o 6 (mv 1),o 7 (cl 179 #[(t 5),(t 6)] #[22,118]),o 8 (bo .geq (t 7) (n 0)),o 4 (av 8)])
(.ret [4])))
def g134:IFn:=⟨9,[.tmp 4],[4],c134,[],false,none⟩
def c135:IR:=(S (R [o 2 (ab false)])
(S (R [o 3 (mv 0),o 4 (cl 64 #[(t 3)] #[3]),o 5 (.unOp .not 4 (.tmp 4)),o 2 (av 5)])
(.ret [2])))
def g135:IFn:=⟨6,[.tmp 2],[4],c135,[],false,none⟩
def Qj:IR:=(S (R [o 9 (bo .lss (t 8) (t 7))])
(S (.cond (t 9)
.skip
(.exit 0 []))
(S (.block 1 (S (R [o 10 (mv 8),o 5 (av 10)])
(S (R [o 11 (mv 1),o 12 (mv 0),o 13 (mv 5),o 14 (ia 25 12 13),o 15 (ld 44 14),o 16 (.call { callee:=(.value (.tmp 11)),args:=#[(.tmp 15)],argTypes:=#[44] })])
(.cond (t 16)
(S (R [o 17 (mv 5),o 4 (av 17)])
(.ret [4]))
.skip))))
(R [o 18 (bo .add (t 8) (n 1)),o 8 (mv 18)]))))
def c136:IR:=(S (R [o 4 (an 0)])
(S (S (R [o 6 (mv 0),o 7 (len 6 25),o 8 (.move (.const (.int .i64 0)))])
(.block 0 (.loop [0,1,7,8] Qj)))
(S (R [o 4 (an (-1))])
(.ret [4]))))
def g136:IFn:=⟨19,[.tmp 4],[3],c136,[],false,none⟩
def Qi:IR:=(S (S (R [o 3 (mv 2),o 4 (mv 0),o 5 (len 4 29),o 6 (bo .lss (t 3) (t 5))])
(.cond (t 6)
.skip
(.exit 0 [])))
(S (.block 1 (R [o 9 (mv 0),o 10 (mv 2),o 11 (mv 0),o 12 (mv 2),o 13 (ia 29 11 12),o 14 (fa 55 13 0),o 15 (ld 3 14),o 16 (bo .xor (t 15) (n 90)),o 17 (ia 29 9 10),o 18 (fa 55 17 0),w (st 3 18 16)]))
(R [o 7 (mv 2),o 8 (bo .add (t 7) (n 1)),o 2 (av 8)])))
def c137:IR:=(S (R [o 2 (an 0)])
(.block 0 (.loop [0,2] Qi)))
def g137:IFn:=⟨19,[],[],c137,[true],false,none⟩
def Qh:IR:=(S (S (R [o 3 (mv 2),o 4 (mv 0),o 5 (len 4 46),o 6 (bo .lss (t 3) (t 5))])
(.cond (t 6)
.skip
(.exit 0 [])))
(S (.block 1 (R [o 9 (mv 0),o 10 (mv 2),o 11 (mv 0),o 12 (mv 2),o 13 (ia 46 11 12),o 14 (fa 106 13 1),o 15 (ld 3 14),o 16 (bo .xor (t 15) (n 90)),o 17 (ia 46 9 10),o 18 (fa 106 17 1),w (st 3 18 16)]))
(R [o 7 (mv 2),o 8 (bo .add (t 7) (n 1)),o 2 (av 8)])))
def c138:IR:=(S (R [o 2 (an 0)])
(.block 0 (.loop [0,2] Qh)))
def g138:IFn:=⟨19,[],[],c138,[true],false,none⟩
def Qg:IR:=(S (S (R [o 3 (mv 2),o 4 (mv 0),o 5 (len 4 47),o 6 (bo .lss (t 3) (t 5))])
(.cond (t 6)
.skip
(.exit 0 [])))
(S (.block 1 (R [o 9 (mv 0),o 10 (mv 2),o 11 (mv 0),o 12 (mv 2),o 13 (ia 47 11 12),o 14 (fa 162 13 1),o 15 (ld 3 14),o 16 (bo .xor (t 15) (n 90)),o 17 (ia 47 9 10),o 18 (fa 162 17 1),w (st 3 18 16)]))
(R [o 7 (mv 2),o 8 (bo .add (t 7) (n 1)),o 2 (av 8)])))
def c139:IR:=(S (R [o 2 (an 0)])
(.block 0 (.loop [0,2] Qg)))
def g139:IFn:=⟨19,[],[],c139,[true],false,none⟩
def TG:IR:=D [o 3 (ld 99 1),o 4 (cl 180 #[(t 3)] #[99]),o 5 (ld 99 1),o 6 (.binOp .neq 99 (.tmp 4) (.tmp 5) 99)] [[],[0],[],[1,2]]
def c140:IR:=(S (R [z 1 (bx 99 0),o 2 (ab false)])
(S (S TG
(.cond (t 6)
(S (R [o 2 (ab false)])
(.ret [2]))
.skip))
(S (S (R [o 7 (fa 99 1 0),o 8 (ld 3 7)])
(.block 0 (S (R [o 10 (bo .eql (t 8) (n 0)),o 9 (av 10)])
(.cond (t 9)
(S (R [o 11 (fa 99 1 1),o 12 (ld 3 11),o 13 (cl 181 #[(t 12)] #[3]),o 14 (mv 13),oT 15 (fa 99 1 2) 14,oT 16 (ld 3 15) 14,oT 17 (cl 131 #[(t 16)] #[3]) 14,o 18 (.pick (.tmp 14) (.tmp 17) (.const (.bool false))),o 2 (av 18)])
(.ret [2]))
(S (R [o 20 (bo .eql (t 8) (n 1)),o 19 (av 20)])
(.cond (t 19)
(S (R [o 21 (fa 99 1 1),o 22 (ld 3 21),o 23 (cl 181 #[(t 22)] #[3]),o 24 (mv 23),oT 25 (fa 99 1 2) 24,oT 26 (ld 3 25) 24,oT 27 (cl 181 #[(t 26)] #[3]) 24,o 28 (.pick (.tmp 24) (.tmp 27) (.const (.bool false))),o 2 (av 28)])
(.ret [2]))
(S (S (R [o 30 (bo .eql (t 8) (n 2)),o 29 (av 30)])
(.cond (t 29)
.skip
(R [o 31 (bo .eql (t 8) (n 3)),o 29 (av 31)])))
(.cond (t 29)
(S (R [o 32 (fa 99 1 1),o 33 (ld 3 32),o 34 (cl 181 #[(t 33)] #[3]),o 35 (mv 34),oT 36 (fa 99 1 2) 35,oT 37 (ld 3 36) 35,oT 38 (cl 64 #[(t 37)] #[3]) 35,o 39 (.pick (.tmp 35) (.tmp 38) (.const (.bool false))),o 40 (mv 39),oT 41 (fa 99 1 3) 40,oT 42 (ld 3 41) 40,oT 43 (bo .geq (t 42) (n 0)) 40,o 44 (.pick (.tmp 40) (.tmp 43) (.const (.bool false))),o 45 (mv 44),oT 46 (fa 99 1 3) 45,oT 47 (ld 3 46) 45,oT 48 (bo .lss (t 47) (n 4)) 45,o 49 (.pick (.tmp 45) (.tmp 48) (.const (.bool false))),o 2 (av 49)])
(.ret [2]))
(S (R [o 51 (bo .eql (t 8) (n 4)),o 50 (av 51)])
(.cond (t 50)
(S (R [o 52 (fa 99 1 1),o 53 (ld 3 52),o 54 (cl 181 #[(t 53)] #[3]),o 55 (mv 54),oT 56 (fa 99 1 2) 55,oT 57 (ld 3 56) 55,oT 58 (bo .geq (t 57) (n 0)) 55,o 59 (.pick (.tmp 55) (.tmp 58) (.const (.bool false))),o 60 (mv 59),oT 61 (fa 99 1 2) 60,oT 62 (ld 3 61) 60,oT 63 (bo .leq (t 62) (n 16)) 60,o 64 (.pick (.tmp 60) (.tmp 63) (.const (.bool false))),o 2 (av 64)])
(.ret [2]))
(S (R [o 66 (bo .eql (t 8) (n 5)),o 65 (av 66)])
(.cond (t 65)
(S (R [o 2 (ab true)])
(.ret [2]))
.skip))))))))))))
(S (R [o 67 (fa 99 1 0),o 68 (ld 3 67),o 69 (bo .eql (t 68) (n 6)),o 70 (mv 69),oT 71 (fa 99 1 1) 70,oT 72 (ld 3 71) 70,oT 73 (cl 131 #[(t 72)] #[3]) 70,o 74 (.pick (.tmp 70) (.tmp 73) (.const (.bool false))),o 2 (av 74)])
(.ret [2])))))
def g140:IFn:=⟨75,[.tmp 2],[4],c140,[],false,none⟩
def c141:IR:=(S (R [o 4 (ab false)])
(S (R [o 5 (mv 0),o 6 (bo .geq (t 5) (n 0)),o 7 (mv 6),oT 8 (mv 0) 7,oT 9 (mv 1) 7,oT 10 (bo .leq (t 8) (t 9)) 7,o 11 (.pick (.tmp 7) (.tmp 10) (.const (.bool false))),o 4 (av 11)])
(.ret [4])))
def g141:IFn:=⟨12,[.tmp 4],[4],c141,[],false,none⟩
def c142:IR:=(S (R [o 2 (ab false)])
(S (R [o 3 (mv 0),o 4 (cl 145 #[(t 3),(n 0),(n 255)] #[3,3,3]),o 2 (av 4)])
(.ret [2])))
def g142:IFn:=⟨5,[.tmp 2],[4],c142,[],false,none⟩
def c143:IR:=(S (R [z 1 (bx 53 0),o 2 (ab false)])
(S (R [o 3 (fa 53 1 0),o 4 (ld 3 3),o 5 (cl 182 #[(t 4)] #[3]),o 6 (mv 5),oT 7 (fa 53 1 1) 6,oT 8 (ld 3 7) 6,oT 9 (cl 96 #[(t 8)] #[3]) 6,o 10 (.pick (.tmp 6) (.tmp 9) (.const (.bool false))),o 11 (mv 10),oT 12 (fa 53 1 2) 11,oT 13 (ld 3 12) 11,oT 14 (cl 96 #[(t 13)] #[3]) 11,o 15 (.pick (.tmp 11) (.tmp 14) (.const (.bool false))),o 16 (mv 15),oT 17 (fa 53 1 1) 16,oT 18 (ld 3 17) 16,oT 19 (fa 53 1 2) 16,oT 20 (ld 3 19) 16,oT 21 (cl 31 #[(t 18),(t 20)] #[3,3]) 16,o 22 (.pick (.tmp 16) (.tmp 21) (.const (.bool false))),o 23 (mv 22),oT 24 (fa 53 1 3) 23,oT 25 (ld 45 24) 23,oT 26 (cl 183 #[(t 25)] #[45]) 23,o 27 (.pick (.tmp 23) (.tmp 26) (.const (.bool false))),o 2 (av 27)])
(.ret [2])))
def g143:IFn:=⟨28,[.tmp 2],[4],c143,[],false,none⟩
def c144:IR:=(S (R [z 2 (bx 35 0),z 3 (bx 49 1),o 4 (ab false)])
(S (S (R [o 5 (fa 49 3 0),o 6 (ld 3 5),o 7 (fa 49 3 1),o 8 (ld 3 7),o 9 (fa 49 3 2),o 10 (ld 3 9),o 11 (fa 49 3 3),o 12 (ld 45 11),o 13 (.build 53 #[(0,(.tmp 6)),(1,(.tmp 8)),(2,(.tmp 10)),(3,(.tmp 12))]),o 14 (cl 143 #[(t 13)] #[53]),o 15 (.unOp .not 4 (.tmp 14)),o 16 (mv 15),oF 17 (fa 35 2 0) 16,oF 18 (ld 30 17) 16,oF 19 (ld 49 3) 16,oF 20 (cl 184 #[(t 18),(t 19)] #[30,49]) 16,oF 21 (.unOp .not 4 (.tmp 20)) 16,o 22 (.pick (.tmp 16) (.const (.bool true)) (.tmp 21))])
(.cond (t 22)
(S (R [o 4 (ab false)])
(.ret [4]))
.skip))
(S (S (R [o 23 (fa 49 3 4),o 24 (ld 3 23),o 25 (cl 97 #[(t 24),(n 0),(n 6)] #[3,3,3]),o 26 (.unOp .not 4 (.tmp 25)),o 27 (mv 26),oF 28 (fa 49 3 5) 27,oF 29 (ld 3 28) 27,oF 30 (fa 49 3 3) 27,oF 31 (ld 45 30) 27,oF 32 (len 31 45) 27,oF 33 (cl 97 #[(t 29),(n 0),(t 32)] #[3,3,3]) 27,oF 34 (.unOp .not 4 (.tmp 33)) 27,o 35 (.pick (.tmp 27) (.const (.bool true)) (.tmp 34)),o 36 (mv 35),oF 37 (fa 49 3 6) 36,oF 38 (ld 31 37) 36,oF 39 (cl 185 #[(t 38)] #[31]) 36,oF 40 (.unOp .not 4 (.tmp 39)) 36,o 41 (.pick (.tmp 36) (.const (.bool true)) (.tmp 40)),o 42 (mv 41),oF 43 (fa 49 3 7) 42,oF 44 (ld 46 43) 42,oF 45 (cl 53 #[(t 44)] #[46]) 42,oF 46 (.unOp .not 4 (.tmp 45)) 42,o 47 (.pick (.tmp 42) (.const (.bool true)) (.tmp 46)),o 48 (mv 47),oF 49 (fa 49 3 8) 48,oF 50 (ld 47 49) 48,oF 51 (cl 103 #[(t 50)] #[47]) 48,oF 52 (.unOp .not 4 (.tmp 51)) 48,o 53 (.pick (.tmp 48) (.const (.bool true)) (.tmp 52))])
(.cond (t 53)
(S (R [o 4 (ab false)])
(.ret [4]))
.skip))
(S (R [o 54 (fa 49 3 9),o 55 (ld 3 54),o 56 (fa 49 3 8),o 57 (ld 47 56),o 58 (len 57 47),o 59 (cl 97 #[(t 55),(n 0),(t 58)] #[3,3,3]),o 60 (mv 59),oT 61 (fa 49 3 10) 60,oT 62 (ld 3 61) 60,oT 63 (cl 106 #[(t 62)] #[3]) 60,o 64 (.pick (.tmp 60) (.tmp 63) (.const (.bool false))),o 65 (mv 64),oT 66 (fa 49 3 11) 65,oT 67 (ld 3 66) 65,oT 68 (cl 106 #[(t 67)] #[3]) 65,o 69 (.pick (.tmp 65) (.tmp 68) (.const (.bool false))),o 70 (mv 69),oT 71 (fa 49 3 12) 70,oT 72 (ld 3 71) 70,oT 73 (cl 97 #[(t 72),(n 0),(n 5)] #[3,3,3]) 70,o 74 (.pick (.tmp 70) (.tmp 73) (.const (.bool false))),o 75 (mv 74),oT 76 (fa 49 3 13) 75,oT 77 (ld 3 76) 75,oT 78 (cl 142 #[(t 77)] #[3]) 75,o 79 (.pick (.tmp 75) (.tmp 78) (.const (.bool false))),o 4 (av 79)])
(.ret [4])))))
def g144:IFn:=⟨80,[.tmp 4],[4],c144,[],false,none⟩
def c145:IR:=(S (R [o 6 (ab false)])
(S (R [o 7 (mv 0),o 8 (mv 1),o 9 (bo .geq (t 7) (t 8)),o 10 (mv 9),oT 11 (mv 0) 10,oT 12 (mv 2) 10,oT 13 (bo .leq (t 11) (t 12)) 10,o 14 (.pick (.tmp 10) (.tmp 13) (.const (.bool false))),o 6 (av 14)])
(.ret [6])))
def g145:IFn:=⟨15,[.tmp 6],[4],c145,[],false,none⟩
def c146:IR:=(S (R [o 2 (.assign (.const (.slice none 0 0)))])
(S (S (R [o 3 (mv 0),o 4 (.binOp .eql 29 (.tmp 3) (.const (.slice none 0 0)) 29)])
(.cond (t 4)
(S (R [o 2 (.assign (.const (.slice none 0 0)))])
(.ret [2]))
.skip))
(S (R [o 5 (.buildSlice 29 0 #[]),o 6 (mv 0),o 7 (.call { callee:=(.builtin .append),args:=#[(.tmp 5),(.tmp 6)],argTypes:=#[29,29] }),o 2 (av 7)])
(.ret [2]))))
def g146:IFn:=⟨8,[.tmp 2],[29],c146,[],false,some (3,24)⟩
def c147:IR:=(S (R [o 2 (.assign (.const (.slice none 0 0)))])
(S (S (R [o 3 (mv 0),o 4 (.binOp .eql 46 (.tmp 3) (.const (.slice none 0 0)) 46)])
(.cond (t 4)
(S (R [o 2 (.assign (.const (.slice none 0 0)))])
(.ret [2]))
.skip))
(S (R [o 5 (.buildSlice 46 0 #[]),o 6 (mv 0),o 7 (.call { callee:=(.builtin .append),args:=#[(.tmp 5),(.tmp 6)],argTypes:=#[46,46] }),o 2 (av 7)])
(.ret [2]))))
def g147:IFn:=⟨8,[.tmp 2],[46],c147,[],false,some (3,24)⟩
def c148:IR:=(S (R [o 2 (.assign (.const (.slice none 0 0)))])
(S (S (R [o 3 (mv 0),o 4 (.binOp .eql 47 (.tmp 3) (.const (.slice none 0 0)) 47)])
(.cond (t 4)
(S (R [o 2 (.assign (.const (.slice none 0 0)))])
(.ret [2]))
.skip))
(S (R [o 5 (.buildSlice 47 0 #[]),o 6 (mv 0),o 7 (.call { callee:=(.builtin .append),args:=#[(.tmp 5),(.tmp 6)],argTypes:=#[47,47] }),o 2 (av 7)])
(.ret [2]))))
def g148:IFn:=⟨8,[.tmp 2],[47],c148,[],false,some (3,24)⟩
def c149:IR:=(S (R [o 4 (an 0)])
(S (R [o 5 (mv 0),o 6 (bo .mul (n 4) (t 5)),o 7 (mv 1),o 8 (bo .add (t 6) (t 7)),o 4 (av 8)])
(.ret [4])))
def g149:IFn:=⟨9,[.tmp 4],[3],c149,[],false,none⟩
def TF:IR:=D [o 9 (mv 4),o 10 (nc 9),o 11 (fa 49 10 8),o 12 (ld 47 11),o 13 (mv 4),o 14 (nc 13),o 15 (fa 49 14 1),o 16 (ld 3 15),o 17 (cl 186 #[(t 12),(t 16)] #[47,3]),o 18 (.unOp .not 4 (.tmp 17))] [[],[0],[1],[2],[],[4],[5],[6],[3,7],[8]]
def xA:IR:=(S (R [z 1 (bx 113 0),o 2 (al 35),o 3 (an 0)])
(S (S (R [o 7 (ld 113 1),o 8 (cl 108 #[(t 7)] #[113]),o 4 (av 8)])
(S TF
(.cond (t 18)
(S (R [o 19 (ld 113 1),o 20 (cl 153 #[(t 19),(n 3),(n 0)] #[113,3,3]),o 21 (xt 20 0),o 22 (xt 20 1),w (st 35 2 21),o 3 (av 22)])
(.ret [2,3]))
.skip)))
(S (R [o 23 (fa 113 1 0),o 24 (ld 35 23),o 25 (cl 49 #[(t 24)] #[35]),o 5 (al 35),w (st 35 5 25)])
(S (R [o 26 (fa 35 5 3),o 27 (ld 32 26),o 28 (fa 113 1 1),o 29 (ld 3 28),o 30 (ia 32 27 29),o 6 (av 30)])
(S (S (R [o 31 (mv 6),o 32 (mv 6),o 33 (nc 31),o 34 (fa 49 33 9),w (.store 3 (.tmp 34) (.const (.int .i64 0))),o 35 (nc 32),o 36 (fa 49 35 4),w (.store 3 (.tmp 36) (.const (.int .i64 1)))])
(S (R [o 37 (mv 6),o 38 (nc 37),o 39 (fa 49 38 8),o 40 (ld 47 39),o 41 (len 40 47),o 42 (bo .eql (t 41) (n 0))])
(.cond (t 42)
(R [o 43 (mv 6),o 44 (nc 43),o 45 (fa 49 44 4),w (.store 3 (.tmp 45) (.const (.int .i64 3)))])
.skip)))
(S (R [o 46 (ld 35 5),w (st 35 2 46),o 3 (an 0)])
(.ret [2,3])))))))
def g150:IFn:=⟨47,[.cell 2 35,.tmp 3],[35,36],xA,[],false,none⟩
def c151:IR:=(S (R [z 1 (bx 113 0),o 2 (al 35),o 3 (an 0)])
(S (S (R [o 7 (fa 113 1 0),o 8 (ld 35 7),o 9 (fa 113 1 1),o 10 (ld 3 9),o 11 (cl 187 #[(t 8),(t 10)] #[35,3]),o 6 (mv 11),o 12 (xt 6 0),o 13 (xt 6 1),o 4 (av 12),o 5 (av 13)])
(S (R [o 14 (mv 4)])
(.cond (t 14)
(S (R [o 15 (fa 113 1 0),o 16 (ld 35 15),o 17 (fa 113 1 1),o 18 (ld 3 17),o 19 (cl 188 #[(t 16),(t 18)] #[35,3]),o 20 (xt 19 0),o 21 (xt 19 1),w (st 35 2 20),o 3 (av 21)])
(.ret [2,3]))
.skip)))
(S (R [o 22 (fa 113 1 0),o 23 (ld 35 22),o 24 (fa 113 1 1),o 25 (ld 3 24),o 26 (cl 189 #[(t 23),(t 25)] #[35,3]),o 27 (xt 26 0),o 28 (xt 26 1),w (st 35 2 27),o 3 (av 28)])
(.ret [2,3]))))
def g151:IFn:=⟨29,[.cell 2 35,.tmp 3],[35,36],c151,[],false,none⟩
def TE:IR:=D [o 21 (mv 7),o 22 (nc 21),o 23 (fa 49 22 3),o 24 (ld 45 23),o 25 (mv 7),o 26 (nc 25),o 27 (fa 49 26 5),o 28 (ld 3 27),o 29 (ia 45 24 28),o 30 (ld 99 29),o 8 (al 99),w (st 99 8 30)] [[],[0],[1],[2],[],[4],[5],[6],[3,7],[8],[],[10,9,0,1,2,3,4,5,6,7,8,9,10]]
def TD:IR:=D [o 31 (mv 7),o 32 (fa 99 8 1),o 33 (ld 3 32),o 34 (nc 31),o 35 (fa 49 34 6),o 36 (ia 31 35 33),o 37 (ld 3 36),o 9 (av 37)] [[],[],[1],[0],[3],[4,2],[5],[6,0,1,2,3,4,5,6]]
def TC:IR:=D [o 39 (mv 7),o 40 (mv 7),o 41 (nc 40),o 42 (fa 49 41 8),o 43 (ld 47 42),o 44 (fa 99 8 2),o 45 (ld 3 44),o 46 (fa 99 8 3),o 47 (ld 3 46),o 48 (mv 9),o 49 (.build 162 #[(0,(.tmp 45)),(1,(.tmp 47)),(2,(.tmp 48))]),o 50 (cl 190 #[(t 43),(t 49)] #[47,162]),o 38 (mv 50),o 51 (xt 38 0),o 52 (xt 38 1),o 53 (nc 39),o 54 (fa 49 53 8),w (st 47 54 51)] [[],[],[1],[2],[3],[],[5],[],[7],[],[6,8,9],[4,10],[11],[12],[12],[0,0,1,2,3,4,5,6,7,8,9,10,11,12,13],[15,0,1,2,3,4,5,6,7,8,9,10,11,12,13],[16,13,11,0,1,2,3,4,5,6,7,8,9,10,11,12,13]]
def c152:IR:=(S (R [z 2 (bx 35 0),o 4 (al 35),o 5 (an 0)])
(S (S (R [o 10 (mv 1),o 11 (.buildSlice 22 1 #[(0,(.const (.int .i64 3)))]),o 12 (cl 162 #[(t 2),(t 10),(t 11)] #[111,3,22]),o 13 (.unOp .not 4 (.tmp 12))])
(.cond (t 13)
(S (R [o 14 (.build 35 #[]),w (st 35 4 14),o 5 (an 1600)])
(.ret [4,5]))
.skip))
(S (R [o 15 (ld 35 2),o 16 (cl 49 #[(t 15)] #[35]),o 6 (al 35),w (st 35 6 16)])
(S (R [o 17 (fa 35 6 3),o 18 (ld 32 17),o 19 (mv 1),z 20 (ia 32 18 19),o 7 (av 20)])
(S TE
(S TD
(S TC
(S (R [o 55 (mv 7),o 56 (nc 55),o 57 (fa 49 56 5),o 58 (ld 3 57),o 59 (bo .add (t 58) (n 1)),o 60 (nc 55),o 61 (fa 49 60 5),w (st 3 61 59)])
(S (R [o 62 (mv 1),o 63 (mv 9),o 64 (cl 163 #[(t 6),(t 62),(n 1),(t 63)] #[111,3,3,3])])
(S (R [o 65 (ld 35 6),w (st 35 4 65),o 5 (an 0)])
(.ret [4,5])))))))))))
def g152:IFn:=⟨66,[.cell 4 35,.tmp 5],[35,36],c152,[],false,none⟩
def c153:IR:=(S (R [z 3 (bx 113 0),o 6 (al 35),o 7 (an 0)])
(S (R [o 8 (fa 113 3 0),o 9 (ld 35 8),o 10 (fa 113 3 1),o 11 (ld 3 10),o 12 (mv 1),o 13 (mv 2),o 14 (cl 159 #[(t 9),(t 11),(t 12),(t 13)] #[35,3,3,3]),o 15 (xt 14 0),o 16 (xt 14 1),w (st 35 6 15),o 7 (av 16)])
(.ret [6,7])))
def g153:IFn:=⟨17,[.cell 6 35,.tmp 7],[35,36],c153,[],false,none⟩
def TB:IR:=D [o 20 (mv 7),o 21 (nc 20),o 22 (fa 49 21 3),o 23 (ld 45 22),o 24 (mv 7),o 25 (nc 24),o 26 (fa 49 25 5),o 27 (ld 3 26),o 28 (ia 45 23 27),o 29 (ld 99 28),o 8 (al 99),w (st 99 8 29)] [[],[0],[1],[2],[],[4],[5],[6],[3,7],[8],[],[10,9,0,1,2,3,4,5,6,7,8,9,10]]
def TA:IR:=D [o 55 (mv 7),o 56 (mv 7),o 57 (nc 56),o 58 (fa 49 57 6),o 59 (ld 31 58),o 60 (fa 99 8 1),o 61 (ld 3 60),o 62 (fa 99 8 2),o 63 (ld 3 62),o 64 (cl 191 #[(t 59),(t 61),(t 63)] #[31,3,3]),o 54 (mv 64),o 65 (xt 54 0),o 66 (xt 54 1),o 67 (nc 55),o 68 (fa 49 67 6),w (st 31 68 65)] [[],[],[1],[2],[3],[],[5],[],[7],[4,6,8],[9],[10],[10],[0,0,1,2,3,4,5,6,7,8,9,10,11],[13,0,1,2,3,4,5,6,7,8,9,10,11],[14,11,9,0,1,2,3,4,5,6,7,8,9,10,11]]
def Tz:IR:=D [o 72 (mv 7),o 73 (mv 7),o 74 (nc 73),o 75 (fa 49 74 6),o 76 (ld 31 75),o 77 (fa 99 8 1),o 78 (ld 3 77),o 79 (fa 99 8 2),o 80 (ld 3 79),o 81 (cl 192 #[(t 76),(t 78),(t 80)] #[31,3,3]),o 71 (mv 81),o 82 (xt 71 0),o 83 (xt 71 1),o 84 (nc 72),o 85 (fa 49 84 6),w (st 31 85 82)] [[],[],[1],[2],[3],[],[5],[],[7],[4,6,8],[9],[10],[10],[0,0,1,2,3,4,5,6,7,8,9,10,11],[13,0,1,2,3,4,5,6,7,8,9,10,11],[14,11,9,0,1,2,3,4,5,6,7,8,9,10,11]]
def Ty:IR:=D [o 39 (mv 7),o 40 (fa 99 8 1),o 41 (ld 3 40),o 42 (nc 39),o 43 (fa 49 42 6),o 44 (ia 31 43 41),o 45 (ld 3 44),o 46 (bo .eql (t 45) (n 0))] [[],[],[1],[0],[3],[4,2],[5],[6]]
def oQ:IR:=(S (R [z 2 (bx 35 0),o 4 (al 35),o 5 (an 0)])
(S (S (R [o 9 (mv 1),o 10 (.buildSlice 22 3 #[(0,(.const (.int .i64 0))),(1,(.const (.int .i64 1))),(2,(.const (.int .i64 4)))]),o 11 (cl 162 #[(t 2),(t 9),(t 10)] #[111,3,22]),o 12 (.unOp .not 4 (.tmp 11))])
(.cond (t 12)
(S (R [o 13 (.build 35 #[]),w (st 35 4 13),o 5 (an 1700)])
(.ret [4,5]))
.skip))
(S (R [o 14 (ld 35 2),o 15 (cl 49 #[(t 14)] #[35]),o 6 (al 35),w (st 35 6 15)])
(S (R [o 16 (fa 35 6 3),o 17 (ld 32 16),o 18 (mv 1),z 19 (ia 32 17 18),o 7 (av 19)])
(S TB
(S (R [o 30 (mv 7),o 31 (nc 30),o 32 (fa 49 31 5),o 33 (ld 3 32),o 34 (bo .add (t 33) (n 1)),o 35 (nc 30),o 36 (fa 49 35 5),w (st 3 36 34)])
(S (S (R [o 37 (fa 99 8 0),o 38 (ld 3 37)])
(.block 0 (S (R [o 53 (bo .eql (t 38) (n 0)),o 52 (av 53)])
(.cond (t 52)
TA
(S (R [o 70 (bo .eql (t 38) (n 1)),o 69 (av 70)])
(.cond (t 69)
Tz
(S Ty
(.cond (t 46)
(R [o 47 (mv 7),o 48 (fa 99 8 2),o 49 (ld 3 48),o 50 (nc 47),o 51 (fa 49 50 5),w (st 3 51 49)])
.skip))))))))
(S (R [o 86 (ld 35 6),w (st 35 4 86),o 5 (an 0)])
(.ret [4,5])))))))))
def g154:IFn:=⟨87,[.cell 4 35,.tmp 5],[35,36],oQ,[],false,none⟩
def oP:IR:=(S (R [o 6 (ab false)])
(S (R [o 7 (mv 0),o 8 (mv 1),o 9 (cl 58 #[(t 7),(t 8)] #[111,3]),o 10 (mv 9),oT 11 (mv 0) 10,oT 12 (nc 11) 10,oT 13 (fa 35 12 3) 10,oT 14 (ld 32 13) 10,oT 15 (mv 1) 10,oT 16 (ia 32 14 15) 10,oT 17 (fa 49 16 4) 10,oT 18 (ld 3 17) 10,oT 19 (mv 2) 10,oT 20 (bo .eql (t 18) (t 19)) 10,o 21 (.pick (.tmp 10) (.tmp 20) (.const (.bool false))),o 6 (av 21)])
(.ret [6])))
def g155:IFn:=⟨22,[.tmp 6],[4],oP,[],false,none⟩
def wZ:IR:=(S (R [o 2 (bx 55 0),o 4 (al 55),o 5 (an 0)])
(S (.block 0 (S (R [o 7 (ld 55 2),o 8 (cl 116 #[(t 7)] #[55]),o 9 (.unOp .not 4 (.tmp 8)),o 10 (mv 9),oF 11 (mv 1) 10,oF 12 (cl 92 #[(t 11)] #[3]) 10,oF 13 (.unOp .not 4 (.tmp 12)) 10,o 14 (.pick (.tmp 10) (.const (.bool true)) (.tmp 13)),o 6 (av 14)])
(.cond (t 6)
(S (R [o 15 (.build 55 #[]),w (st 55 4 15),o 5 (an 300)])
(.ret [4,5]))
(S (R [o 17 (fa 55 2 2),o 18 (ld 3 17),o 19 (bo .neq (t 18) (n 0)),o 16 (av 19)])
(.cond (t 16)
(S (R [o 20 (.build 55 #[]),w (st 55 4 20),o 5 (an 301)])
(.ret [4,5]))
.skip)))))
(S (R [o 21 (mv 1),o 22 (bo .add (t 21) (n 1)),o 23 (fa 55 2 2),w (st 3 23 22)])
(S (R [o 24 (ld 55 2),w (st 55 4 24),o 5 (an 0)])
(.ret [4,5])))))
def g156:IFn:=⟨25,[.cell 4 55,.tmp 5],[55,36],wZ,[],false,none⟩
def wY:IR:=(S (R [z 3 (bx 35 0),o 6 (al 35),o 7 (an 0)])
(S (S (R [o 10 (mv 1),o 11 (cl 58 #[(t 3),(t 10)] #[111,3]),o 12 (.unOp .not 4 (.tmp 11)),o 13 (mv 12),oF 14 (mv 2) 13,oF 15 (bo .neq (t 14) (n 3)) 13,oF 16 (mv 15) 13,oT 17 (mv 2) 16,oT 18 (bo .neq (t 17) (n 5)) 16,oF 19 (.pick (.tmp 16) (.tmp 18) (.const (.bool false))) 13,o 20 (.pick (.tmp 13) (.const (.bool true)) (.tmp 19))])
(.cond (t 20)
(S (R [o 21 (.build 35 #[]),w (st 35 6 21),o 7 (an 1300)])
(.ret [6,7]))
.skip))
(S (R [o 22 (ld 35 3),o 23 (cl 49 #[(t 22)] #[35]),o 8 (al 35),w (st 35 8 23)])
(S (R [o 24 (mv 1),o 25 (cl 193 #[(t 8),(t 24)] #[111,3]),o 9 (av 25)])
(S (R [o 26 (mv 9),o 27 (mv 9),o 28 (mv 9),o 29 (.build 31 #[]),o 30 (nc 26),o 31 (fa 49 30 5),w (.store 3 (.tmp 31) (.const (.int .i64 0))),o 32 (nc 27),o 33 (fa 49 32 6),w (st 31 33 29),o 34 (nc 28),o 35 (fa 49 34 4),w (.store 3 (.tmp 35) (.const (.int .i64 0)))])
(S (R [o 36 (mv 9),o 37 (mv 9),o 38 (nc 37),o 39 (fa 49 38 11),o 40 (ld 3 39),o 41 (bo .add (t 40) (n 1)),o 42 (.call { callee:=(.builtin .min),args:=#[(.tmp 41),(.const (.int .i64 65535))],argTypes:=#[3,3] }),o 43 (nc 36),o 44 (fa 49 43 11),w (st 3 44 42)])
(S (R [o 45 (mv 1),o 46 (mv 2),o 47 (mv 9),o 48 (nc 47),o 49 (fa 49 48 11),o 50 (ld 3 49),o 51 (cl 163 #[(t 8),(t 45),(t 46),(t 50)] #[111,3,3,3])])
(S (R [o 52 (ld 35 8),w (st 35 6 52),o 7 (an 0)])
(.ret [6,7])))))))))
def g157:IFn:=⟨53,[.cell 6 35,.tmp 7],[35,36],wY,[],false,none⟩
def Tx:IR:=D [o 29 (ld 31 3),o 30 (mv 1),o 31 (ia 31 3 30),o 32 (ld 3 31),w (st 31 6 29),o 7 (av 32),o 8 (an 0)] [[],[],[1],[2],[0,0],[3,4,0,1,2,3,4],[5,0,1,2,3,4,5]]
def wX:IR:=(S (R [o 3 (bx 31 0),o 6 (al 31),o 7 (an 0),o 8 (an 0)])
(S (S (R [o 9 (mv 2),o 10 (cl 61 #[(t 3),(t 9)] #[116,3]),o 11 (.unOp .not 4 (.tmp 10)),o 12 (mv 11),oF 13 (mv 1) 12,oF 14 (cl 64 #[(t 13)] #[3]) 12,oF 15 (.unOp .not 4 (.tmp 14)) 12,o 16 (.pick (.tmp 12) (.const (.bool true)) (.tmp 15))])
(.cond (t 16)
(S (R [o 17 (.build 31 #[]),w (st 31 6 17),o 7 (an 0),o 8 (an 500)])
(.ret [6,7,8]))
.skip))
(S (S (R [o 18 (mv 1),o 19 (ia 31 3 18),o 20 (ld 3 19),o 21 (mv 2),o 22 (bo .geq (t 20) (t 21))])
(.cond (t 22)
(S (R [o 23 (.build 31 #[]),w (st 31 6 23),o 7 (an 0),o 8 (an 501)])
(.ret [6,7,8]))
.skip))
(S (R [o 24 (mv 1),o 25 (ia 31 3 24),o 26 (ld 3 25),o 27 (bo .add (t 26) (n 1)),o 28 (ia 31 3 24),w (st 3 28 27)])
(S Tx
(.ret [6,7,8]))))))
def g158:IFn:=⟨33,[.cell 6 31,.tmp 7,.tmp 8],[31,3,36],wX,[],false,none⟩
def wW:IR:=(S (R [z 4 (bx 35 0),o 8 (al 35),o 9 (an 0)])
(S (S (R [o 12 (mv 1),o 13 (cl 58 #[(t 4),(t 12)] #[111,3]),o 14 (.unOp .not 4 (.tmp 13)),o 15 (mv 14),oF 16 (mv 2) 15,oF 17 (bo .lss (t 16) (n 0)) 15,o 18 (.pick (.tmp 15) (.const (.bool true)) (.tmp 17)),o 19 (mv 18),oF 20 (mv 2) 19,oF 21 (bo .gtr (t 20) (n 5)) 19,o 22 (.pick (.tmp 19) (.const (.bool true)) (.tmp 21)),o 23 (mv 22),oF 24 (mv 3) 23,oF 25 (cl 131 #[(t 24)] #[3]) 23,oF 26 (.unOp .not 4 (.tmp 25)) 23,o 27 (.pick (.tmp 23) (.const (.bool true)) (.tmp 26))])
(.cond (t 27)
(S (R [o 28 (.build 35 #[]),w (st 35 8 28),o 9 (an 1300)])
(.ret [8,9]))
.skip))
(S (R [o 29 (ld 35 4),o 30 (cl 49 #[(t 29)] #[35]),o 10 (al 35),w (st 35 10 30)])
(S (R [o 31 (mv 1),o 32 (cl 193 #[(t 10),(t 31)] #[111,3]),o 11 (av 32)])
(S (R [o 33 (mv 11),o 34 (mv 11),o 35 (mv 11),o 36 (mv 2),o 37 (mv 3),o 38 (nc 33),o 39 (fa 49 38 4),w (.store 3 (.tmp 39) (.const (.int .i64 6))),o 40 (nc 34),o 41 (fa 49 40 12),w (st 3 41 36),o 42 (nc 35),o 43 (fa 49 42 13),w (st 3 43 37)])
(S (R [o 44 (mv 1),o 45 (mv 2),o 46 (cl 163 #[(t 10),(t 44),(n 6),(t 45)] #[111,3,3,3])])
(S (R [o 47 (ld 35 10),w (st 35 8 47),o 9 (an 0)])
(.ret [8,9]))))))))
def g159:IFn:=⟨48,[.cell 8 35,.tmp 9],[35,36],wW,[],false,none⟩
def Tw:IR:=D [o 31 (fa 55 11 1),o 32 (ld 3 31),o 33 (mv 1),o 34 (mv 10),o 35 (ia 46 33 34),o 36 (fa 106 35 2),o 37 (ld 3 36),o 38 (bo .neq (t 32) (t 37)),o 39 (mv 38),oF 40 (fa 55 11 2) 39,oF 41 (ld 3 40) 39,oF 42 (bo .neq (t 41) (n 0)) 39,oF 43 (mv 42) 39,oT 44 (fa 55 11 2) 43,oT 45 (ld 3 44) 43,oT 46 (mv 2) 43,oT 47 (bo .add (t 46) (n 1)) 43,oT 48 (bo .neq (t 45) (t 47)) 43,oF 49 (.pick (.tmp 43) (.tmp 48) (.const (.bool false))) 39,o 50 (.pick (.tmp 39) (.const (.bool true)) (.tmp 49))] [[],[0],[],[],[2,3],[4],[5],[1,6],[7],[8],[9,8],[10,8],[11,8,8],[12],[13,12],[12],[15,12],[14,16,12],[12,17,8],[8,18]]
def Kc:IR:=(S (R [o 27 (bo .lss (t 26) (t 25))])
(S (.cond (t 27)
.skip
(.exit 0 []))
(S (.block 1 (S (R [o 28 (mv 26),o 29 (ia 29 24 26),o 30 (ld 55 29),o 11 (al 55),o 10 (av 28),w (st 55 11 30)])
(S Tw
(.cond (t 50)
(S (R [o 6 (ab false),o 7 (an 0)])
(.ret [6,7]))
.skip))))
(R [o 51 (bo .add (t 26) (n 1)),o 26 (mv 51)]))))
def wV:IR:=(S (R [z 3 (bx 30 0),o 6 (ab false),o 7 (an 0)])
(S (R [o 13 (mv 1),o 14 (cl 194 #[(t 3),(t 13)] #[122,46]),o 12 (mv 14),o 15 (xt 12 0),o 16 (xt 12 1),o 8 (av 15),o 9 (av 16)])
(S (S (R [o 17 (mv 9),o 18 (.unOp .not 4 (.tmp 17)),o 19 (mv 18),oF 20 (mv 2) 19,oF 21 (cl 92 #[(t 20)] #[3]) 19,oF 22 (.unOp .not 4 (.tmp 21)) 19,o 23 (.pick (.tmp 19) (.const (.bool true)) (.tmp 22))])
(.cond (t 23)
(S (R [o 6 (ab false),o 7 (an 900)])
(.ret [6,7]))
.skip))
(S (S (R [o 24 (mv 8),o 25 (len 24 29),o 26 (.move (.const (.int .i64 0)))])
(.block 0 (.loop [1,2,24,25,26] Kc)))
(S (R [o 6 (ab true),o 7 (an 0)])
(.ret [6,7]))))))
def g160:IFn:=⟨52,[.tmp 6,.tmp 7],[4,36],wV,[],false,none⟩
def c161:IR:=(S (R [z 3 (bx 55 0),o 6 (al 55),o 7 (an 0)])
(S (R [o 9 (mv 1),o 10 (mv 2),o 11 (.build 55 #[(0,(.tmp 9)),(1,(.tmp 10))]),o 8 (al 55),w (st 55 8 11)])
(S (S (R [o 12 (ld 55 3),o 13 (cl 116 #[(t 12)] #[55]),o 14 (.unOp .not 4 (.tmp 13)),o 15 (mv 14),oF 16 (ld 55 8) 15,oF 17 (cl 116 #[(t 16)] #[55]) 15,oF 18 (.unOp .not 4 (.tmp 17)) 15,o 19 (.pick (.tmp 15) (.const (.bool true)) (.tmp 18))])
(.cond (t 19)
(S (R [o 20 (.build 55 #[]),w (st 55 6 20),o 7 (an 300)])
(.ret [6,7]))
.skip))
(S (R [o 21 (ld 55 8),w (st 55 6 21),o 7 (an 0)])
(.ret [6,7])))))
def g161:IFn:=⟨22,[.cell 6 55,.tmp 7],[55,36],c161,[],false,none⟩
def Tv:IR:=D [o 18 (mv 7),o 19 (nc 18),o 20 (fa 49 19 4),o 21 (ld 3 20),o 22 (bo .eql (t 21) (n 0)),o 23 (mv 22),oT 24 (mv 7) 23,oT 25 (nc 24) 23,oT 26 (fa 49 25 5) 23,oT 27 (ld 3 26) 23,oT 28 (mv 7) 23,oT 29 (nc 28) 23,oT 30 (fa 49 29 3) 23,oT 31 (ld 45 30) 23,oT 32 (len 31 45) 23,oT 33 (bo .lss (t 27) (t 32)) 23,o 34 (.pick (.tmp 23) (.tmp 33) (.const (.bool false))),o 35 (mv 34),oT 36 (mv 2) 35,oT 37 (mv 7) 35,oT 38 (nc 37) 35,oT 39 (fa 49 38 3) 35,oT 40 (ld 45 39) 35,oT 41 (mv 7) 35,oT 42 (nc 41) 35,oT 43 (fa 49 42 5) 35,oT 44 (ld 3 43) 35,oT 45 (ia 45 40 44) 35,oT 46 (fa 99 45 0) 35,oT 47 (ld 3 46) 35,oT 48 (cl 195 #[(t 36),(t 47)] #[22,3]) 35,o 49 (.pick (.tmp 35) (.tmp 48) (.const (.bool false))),o 6 (av 49)] [[],[0],[1],[2],[3],[4],[5],[6,5],[7,5],[8,5],[5],[10,5],[11,5],[12,5],[13,5],[9,14,5],[5,15],[16,5],[17],[17],[19,17],[20,17],[21,17],[17],[23,17],[24,17],[25,17],[22,26,17],[27,17],[28,17],[18,29,17,17],[17,30],[31,30,0,1,2,3,4,5,6,7,8,9,10,11,12,13,14,15,16,17,18,19,20,21,22,23,24,25,26,27,28,29,30,31]]
def Uf:IR:=(S (R [o 6 (ab false)])
(S (S (R [o 8 (mv 0),o 9 (mv 1),o 10 (cl 58 #[(t 8),(t 9)] #[111,3]),o 11 (.unOp .not 4 (.tmp 10))])
(.cond (t 11)
(S (R [o 6 (ab false)])
(.ret [6]))
.skip))
(S (R [o 12 (mv 0),o 13 (nc 12),o 14 (fa 35 13 3),o 15 (ld 32 14),o 16 (mv 1),o 17 (ia 32 15 16),o 7 (av 17)])
(S Tv
(.ret [6])))))
def g162:IFn:=⟨50,[.tmp 6],[4],Uf,[],false,none⟩
def Tu:IR:=D [o 21 (mv 0),o 22 (mv 0),o 23 (nc 22),o 24 (fa 35 23 4),o 25 (ld 33 24),o 26 (mv 8),o 27 (nc 26),o 28 (fa 49 27 0),o 29 (ld 3 28),o 30 (mv 8),o 31 (nc 30),o 32 (fa 49 31 1),o 33 (ld 3 32),o 34 (mv 2),o 35 (mv 3),o 36 (.build 67 #[(0,(.tmp 29)),(1,(.tmp 33)),(2,(.tmp 34)),(3,(.tmp 35))]),o 37 (.buildSlice 33 1 #[(0,(.tmp 36))]),o 38 (.call { callee:=(.builtin .append),args:=#[(.tmp 25),(.tmp 37)],argTypes:=#[33,33] }),o 39 (nc 21),o 40 (fa 35 39 4),w (st 33 40 38)] [[],[],[1],[2],[3],[],[5],[6],[7],[],[9],[10],[11],[],[],[8,12,13,14],[15],[4,16],[0,0,1,2,3,4,5,6,7,8,9,10,11,12,13,14,15,16,17],[18,0,1,2,3,4,5,6,7,8,9,10,11,12,13,14,15,16,17],[19,17,17,0,1,2,3,4,5,6,7,8,9,10,11,12,13,14,15,16,17]]
def Ue:IR:=(S (R [o 9 (mv 0),o 10 (nc 9),o 11 (fa 35 10 4),o 12 (ld 33 11),o 13 (len 12 33),o 14 (bo .lss (t 13) (n 512))])
(.cond (t 14)
(S (R [o 15 (mv 0),o 16 (nc 15),o 17 (fa 35 16 3),o 18 (ld 32 17),o 19 (mv 1),o 20 (ia 32 18 19),o 8 (av 20)])
Tu)
.skip))
def g163:IFn:=⟨41,[],[],Ue,[],true,none⟩
def Tt:IR:=D [o 24 (fa 55 9 1),o 25 (ld 3 24),o 26 (mv 1),o 27 (mv 8),o 28 (ia 46 26 27),o 29 (fa 106 28 2),o 30 (ld 3 29),o 31 (bo .neq (t 25) (t 30))] [[],[0],[],[],[2,3],[4],[5],[1,6]]
def Nm:IR:=(S (R [o 20 (bo .lss (t 19) (t 18))])
(S (.cond (t 20)
.skip
(.exit 0 []))
(S (.block 1 (S (R [o 21 (mv 19),o 22 (ia 29 17 19),o 23 (ld 55 22),o 9 (al 55),o 8 (av 21),w (st 55 9 23)])
(S Tt
(.cond (t 31)
(S (R [o 4 (ab true),o 5 (an 0)])
(.ret [4,5]))
.skip))))
(R [o 32 (bo .add (t 19) (n 1)),o 19 (mv 32)]))))
def c164:IR:=(S (R [z 2 (bx 30 0),o 4 (ab false),o 5 (an 0)])
(S (R [o 11 (mv 1),o 12 (cl 194 #[(t 2),(t 11)] #[122,46]),o 10 (mv 12),o 13 (xt 10 0),o 14 (xt 10 1),o 6 (av 13),o 7 (av 14)])
(S (S (R [o 15 (mv 7),o 16 (.unOp .not 4 (.tmp 15))])
(.cond (t 16)
(S (R [o 4 (ab false),o 5 (an 900)])
(.ret [4,5]))
.skip))
(S (S (R [o 17 (mv 6),o 18 (len 17 29),o 19 (.move (.const (.int .i64 0)))])
(.block 0 (.loop [1,17,18,19] Nm)))
(S (R [o 4 (ab false),o 5 (an 0)])
(.ret [4,5]))))))
def g164:IFn:=⟨33,[.tmp 4,.tmp 5],[4,36],c164,[],false,none⟩
def Qf:IR:=(S (R [o 9 (bo .lss (t 8) (t 7))])
(S (.cond (t 9)
.skip
(.exit 0 []))
(S (.block 1 (S (R [o 10 (mv 8),o 5 (av 10)])
(S (R [o 11 (mv 1),o 12 (mv 0),o 13 (mv 5),o 14 (ia 29 12 13),o 15 (ld 55 14),o 16 (.call { callee:=(.value (.tmp 11)),args:=#[(.tmp 15)],argTypes:=#[55] })])
(.cond (t 16)
(S (R [o 17 (mv 5),o 4 (av 17)])
(.ret [4]))
.skip))))
(R [o 18 (bo .add (t 8) (n 1)),o 8 (mv 18)]))))
def c165:IR:=(S (R [o 4 (an 0)])
(S (S (R [o 6 (mv 0),o 7 (len 6 29),o 8 (.move (.const (.int .i64 0)))])
(.block 0 (.loop [0,1,7,8] Qf)))
(S (R [o 4 (an (-1))])
(.ret [4]))))
def g165:IFn:=⟨19,[.tmp 4],[3],c165,[],false,none⟩
def Qe:IR:=(S (R [o 9 (bo .lss (t 8) (t 7))])
(S (.cond (t 9)
.skip
(.exit 0 []))
(S (.block 1 (S (R [o 10 (mv 8),o 5 (av 10)])
(S (R [o 11 (mv 1),o 12 (mv 0),o 13 (mv 5),o 14 (ia 32 12 13),o 15 (ld 49 14),o 16 (.call { callee:=(.value (.tmp 11)),args:=#[(.tmp 15)],argTypes:=#[49] })])
(.cond (t 16)
(S (R [o 17 (mv 5),o 4 (av 17)])
(.ret [4]))
.skip))))
(R [o 18 (bo .add (t 8) (n 1)),o 8 (mv 18)]))))
def c166:IR:=(S (R [o 4 (an 0)])
(S (S (R [o 6 (mv 0),o 7 (len 6 32),o 8 (.move (.const (.int .i64 0)))])
(.block 0 (.loop [0,1,7,8] Qe)))
(S (R [o 4 (an (-1))])
(.ret [4]))))
def g166:IFn:=⟨19,[.tmp 4],[3],c166,[],false,none⟩
def c167:IR:=(S (R [o 2 (ab false)])
(S (R [o 3 (mv 0),o 4 (bo .geq (t 3) (n 0)),o 5 (mv 4),oT 6 (mv 0) 5,oT 7 (bo .lss (t 6) (n 4)) 5,o 8 (.pick (.tmp 5) (.tmp 7) (.const (.bool false))),o 2 (av 8)])
(.ret [2])))
def g167:IFn:=⟨9,[.tmp 2],[4],c167,[],false,none⟩
def c168:IR:=(S (R [o 4 (ab false)])
(S (R [o 5 (mv 0),o 6 (mv 1),o 7 (cl 196 #[(t 5),(t 6)] #[46,169]),o 8 (bo .geq (t 7) (n 0)),o 4 (av 8)])
(.ret [4])))
def g168:IFn:=⟨9,[.tmp 4],[4],c168,[],false,none⟩
def c169:IR:=(S (R [z 1 (bx 106 0),o 2 (.assign (.const .nilFunc))])
(S (R [o 3 (.makeFunc (Go.Fn.func 197) #[] #[(.tmp 1)]),o 2 (av 3)])
(.ret [2])))
def g169:IFn:=⟨4,[.tmp 2],[169],c169,[],false,none⟩
def c170:IR:=(S (R [z 2 (bx 162 0),z 3 (bx 162 1),o 4 (an 0)])
(S (R [o 5 (fa 162 2 0),o 6 (ld 3 5),o 7 (fa 162 3 0),o 8 (ld 3 7),o 9 (bo .sub (t 6) (t 8)),o 10 (fa 162 2 1),o 11 (ld 3 10),o 12 (fa 162 3 1),o 13 (ld 3 12),o 14 (bo .sub (t 11) (t 13)),o 15 (.buildSlice 22 2 #[(0,(.tmp 9)),(1,(.tmp 14))]),o 16 (cl 198 #[(t 15)] #[22]),o 4 (av 16)])
(.ret [4])))
def g170:IFn:=⟨17,[.tmp 4],[3],c170,[],false,none⟩
def c171:IR:=(S (R [z 2 (bx 106 0),o 3 (ab false)])
(S (R [o 4 (ld 169 1),o 5 (ld 106 2),o 6 (.call { callee:=(.value (.tmp 4)),args:=#[(.tmp 5)],argTypes:=#[106] }),o 7 (.unOp .not 4 (.tmp 6)),o 3 (av 7)])
(.ret [3])))
def g171:IFn:=⟨8,[.tmp 3],[4],c171,[],false,none⟩
def c172:IR:=(S (R [o 6 (ab false)])
(S (R [o 7 (mv 1),o 8 (cl 64 #[(t 7)] #[3]),o 9 (mv 8),oT 10 (mv 2) 9,oT 11 (bo .geq (t 10) (n 0)) 9,o 12 (.pick (.tmp 9) (.tmp 11) (.const (.bool false))),o 13 (mv 12),oT 14 (mv 2) 13,oT 15 (mv 0) 13,oT 16 (mv 1) 13,oT 17 (nc 15) 13,oT 18 (ia 30 17 16) 13,oT 19 (ld 29 18) 13,oT 20 (len 19 29) 13,oT 21 (bo .lss (t 14) (t 20)) 13,o 22 (.pick (.tmp 13) (.tmp 21) (.const (.bool false))),o 6 (av 22)])
(.ret [6])))
def g172:IFn:=⟨23,[.tmp 6],[4],c172,[],false,none⟩
def c173:IR:=(S (R [o 4 (ab false)])
(S (R [o 5 (mv 0),o 6 (mv 1),o 7 (cl 199 #[(t 5),(t 6)] #[47,171]),o 8 (bo .geq (t 7) (n 0)),o 4 (av 8)])
(.ret [4])))
def g173:IFn:=⟨9,[.tmp 4],[4],c173,[],false,none⟩
def c174:IR:=(S (R [z 2 (bx 162 0),o 3 (ab false)])
(S (R [o 4 (ld 171 1),o 5 (ld 162 2),o 6 (.call { callee:=(.value (.tmp 4)),args:=#[(.tmp 5)],argTypes:=#[162] }),o 7 (.unOp .not 4 (.tmp 6)),o 3 (av 7)])
(.ret [3])))
def g174:IFn:=⟨8,[.tmp 3],[4],c174,[],false,none⟩
def c175:IR:=(S (R [o 4 (ab false)])
(S (R [o 5 (mv 0),o 6 (mv 1),o 7 (cl 200 #[(t 5),(t 6)] #[45,173]),o 8 (bo .geq (t 7) (n 0)),o 4 (av 8)])
(.ret [4])))
def g175:IFn:=⟨9,[.tmp 4],[4],c175,[],false,none⟩
def c176:IR:=(S (R [z 2 (bx 99 0),o 3 (ab false)])
(S (R [o 4 (ld 173 1),o 5 (ld 99 2),o 6 (.call { callee:=(.value (.tmp 4)),args:=#[(.tmp 5)],argTypes:=#[99] }),o 7 (.unOp .not 4 (.tmp 6)),o 3 (av 7)])
(.ret [3])))
def g176:IFn:=⟨8,[.tmp 3],[4],c176,[],false,none⟩
def c177:IR:=(S (R [z 1 (bx 99 0),o 2 (ab false)])
(S (R [o 3 (fa 99 1 0),o 4 (ld 3 3),o 5 (bo .eql (t 4) (n 2)),o 6 (mv 5),oF 7 (fa 99 1 0) 6,oF 8 (ld 3 7) 6,oF 9 (bo .eql (t 8) (n 3)) 6,o 10 (.pick (.tmp 6) (.const (.bool true)) (.tmp 9)),o 2 (av 10)])
(.ret [2])))
def g177:IFn:=⟨11,[.tmp 2],[4],c177,[],false,none⟩
def Qd:IR:=(S (R [o 9 (bo .lss (t 8) (t 7))])
(S (.cond (t 9)
.skip
(.exit 0 []))
(S (.block 1 (S (R [o 10 (mv 8),o 5 (av 10)])
(S (R [o 11 (mv 1),o 12 (mv 0),o 13 (mv 5),o 14 (ia 33 12 13),o 15 (ld 67 14),o 16 (.call { callee:=(.value (.tmp 11)),args:=#[(.tmp 15)],argTypes:=#[67] })])
(.cond (t 16)
(S (R [o 17 (mv 5),o 4 (av 17)])
(.ret [4]))
.skip))))
(R [o 18 (bo .add (t 8) (n 1)),o 8 (mv 18)]))))
def c178:IR:=(S (R [o 4 (an 0)])
(S (S (R [o 6 (mv 0),o 7 (len 6 33),o 8 (.move (.const (.int .i64 0)))])
(.block 0 (.loop [0,1,7,8] Qd)))
(S (R [o 4 (an (-1))])
(.ret [4]))))
def g178:IFn:=⟨19,[.tmp 4],[3],c178,[],false,none⟩
def Qc:IR:=(S (R [o 9 (bo .lss (t 8) (t 7))])
(S (.cond (t 9)
.skip
(.exit 0 []))
(S (.block 1 (S (R [o 10 (mv 8),o 5 (av 10)])
(S (R [o 11 (mv 1),o 12 (mv 0),o 13 (mv 5),o 14 (ia 22 12 13),o 15 (ld 3 14),o 16 (.call { callee:=(.value (.tmp 11)),args:=#[(.tmp 15)],argTypes:=#[3] })])
(.cond (t 16)
(S (R [o 17 (mv 5),o 4 (av 17)])
(.ret [4]))
.skip))))
(R [o 18 (bo .add (t 8) (n 1)),o 8 (mv 18)]))))
def c179:IR:=(S (R [o 4 (an 0)])
(S (S (R [o 6 (mv 0),o 7 (len 6 22),o 8 (.move (.const (.int .i64 0)))])
(.block 0 (.loop [0,1,7,8] Qc)))
(S (R [o 4 (an (-1))])
(.ret [4]))))
def g179:IFn:=⟨19,[.tmp 4],[3],c179,[],false,none⟩
def Ts:IR:=D [o 13 (fa 99 1 1),o 14 (ld 3 13),o 15 (fa 99 1 2),o 16 (ld 3 15),o 17 (fa 99 3 1),w (st 3 17 14),o 18 (fa 99 3 2),w (st 3 18 16)] [[],[0],[],[2],[0,1],[4,1,0,1],[0,1,2,3,4,5],[6,3,5,0,1,2,3,4,5]]
def c180:IR:=(S (R [z 1 (bx 99 0),o 2 (al 99)])
(S (R [o 4 (fa 99 1 0),o 5 (ld 3 4),o 6 (.build 99 #[(0,(.tmp 5))]),o 3 (al 99),w (st 99 3 6)])
(S (S (R [o 7 (fa 99 1 0),o 8 (ld 3 7)])
(.block 0 (S (S (R [o 10 (bo .eql (t 8) (n 0)),o 9 (av 10)])
(.cond (t 9)
.skip
(S (R [o 11 (bo .eql (t 8) (n 1)),o 9 (av 11)])
(.cond (t 9)
.skip
(R [o 12 (bo .eql (t 8) (n 4)),o 9 (av 12)])))))
(.cond (t 9)
Ts
(S (S (R [o 20 (bo .eql (t 8) (n 2)),o 19 (av 20)])
(.cond (t 19)
.skip
(R [o 21 (bo .eql (t 8) (n 3)),o 19 (av 21)])))
(.cond (t 19)
(R [o 22 (ld 99 1),w (st 99 3 22)])
(S (R [o 24 (bo .eql (t 8) (n 6)),o 23 (av 24)])
(.cond (t 23)
(R [o 25 (fa 99 1 1),o 26 (ld 3 25),o 27 (fa 99 3 1),w (st 3 27 26)])
.skip))))))))
(S (R [o 28 (ld 99 3),w (st 99 2 28)])
(.ret [2])))))
def g180:IFn:=⟨29,[.cell 2 99],[99],c180,[],false,none⟩
def c181:IR:=(S (R [o 2 (ab false)])
(S (R [o 3 (mv 0),o 4 (bo .geq (t 3) (n 0)),o 5 (mv 4),oT 6 (mv 0) 5,oT 7 (bo .lss (t 6) (n 4)) 5,o 8 (.pick (.tmp 5) (.tmp 7) (.const (.bool false))),o 2 (av 8)])
(.ret [2])))
def g181:IFn:=⟨9,[.tmp 2],[4],c181,[],false,none⟩
def c182:IR:=(S (R [o 2 (ab false)])
(S (R [o 3 (mv 0),o 4 (cl 145 #[(t 3),(n 0),(n 254)] #[3,3,3]),o 2 (av 4)])
(.ret [2])))
def g182:IFn:=⟨5,[.tmp 2],[4],c182,[],false,none⟩
def IZ:IR:=(S (S (R [o 4 (mv 3),o 5 (mv 0),o 6 (len 5 45),o 7 (bo .lss (t 4) (t 6))])
(.cond (t 7)
.skip
(.exit 0 [0])))
(S (.block 1 (S (R [o 10 (mv 0),o 11 (mv 3),o 12 (ia 45 10 11),o 13 (ld 99 12),o 14 (cl 201 #[(t 13)] #[99]),o 15 (.unOp .not 4 (.tmp 14)),o 16 (mv 15),oF 17 (mv 0) 16,oF 18 (mv 3) 16,oF 19 (ia 45 17 18) 16,oF 20 (fa 99 19 0) 16,oF 21 (ld 3 20) 16,oF 22 (bo .eql (t 21) (n 4)) 16,oF 23 (mv 22) 16,oT 24 (mv 0) 23,oT 25 (mv 3) 23,oT 26 (ia 45 24 25) 23,oT 27 (fa 99 26 2) 23,oT 28 (ld 3 27) 23,oT 29 (mv 3) 23,oT 30 (bo .leq (t 28) (t 29)) 23,oT 31 (mv 30) 23,oF 32 (mv 0) 31,oF 33 (mv 3) 31,oF 34 (ia 45 32 33) 31,oF 35 (fa 99 34 2) 31,oF 36 (ld 3 35) 31,oF 37 (mv 0) 31,oF 38 (len 37 45) 31,oF 39 (bo .gtr (t 36) (t 38)) 31,oT 40 (.pick (.tmp 31) (.const (.bool true)) (.tmp 39)) 23,oF 41 (.pick (.tmp 23) (.tmp 40) (.const (.bool false))) 16,o 42 (.pick (.tmp 16) (.const (.bool true)) (.tmp 41))])
(.cond (t 42)
(S (R [o 2 (ab false)])
(.ret [2]))
.skip)))
(R [o 8 (mv 3),o 9 (bo .add (t 8) (n 1)),o 3 (av 9)])))
def c183:IR:=(S (R [o 2 (ab false)])
(S (S (R [o 3 (an 0)])
(.block 0 (.loop [0,3] IZ)))
(S (R [o 43 (mv 0),o 44 (len 43 45),o 45 (bo .leq (t 44) (n 16)),o 2 (av 45)])
(.ret [2]))))
def g183:IFn:=⟨46,[.tmp 2],[4],c183,[],false,none⟩
def Tr:IR:=D [o 21 (mv 6),o 22 (bo .eql (t 21) (n 2)),o 23 (mv 22),oF 24 (mv 6) 23,oF 25 (bo .eql (t 24) (n 3)) 23,o 26 (.pick (.tmp 23) (.const (.bool true)) (.tmp 25)),o 27 (mv 26),oT 28 (ld 30 2) 27,oT 29 (fa 49 3 3) 27,oT 30 (ld 45 29) 27,oT 31 (mv 5) 27,oT 32 (ia 45 30 31) 27,oT 33 (fa 99 32 2) 27,oT 34 (ld 3 33) 27,oT 35 (fa 49 3 3) 27,oT 36 (ld 45 35) 27,oT 37 (mv 5) 27,oT 38 (ia 45 36 37) 27,oT 39 (fa 99 38 3) 27,oT 40 (ld 3 39) 27,oT 41 (cl 107 #[(t 28),(t 34),(t 40)] #[30,3,3]) 27,oT 42 (.unOp .not 4 (.tmp 41)) 27,o 43 (.pick (.tmp 27) (.tmp 42) (.const (.bool false)))] [[],[0],[1],[2],[3,2],[2,4],[5,2],[6],[6],[8,6],[6],[9,10,6],[11,6],[12,6],[6],[14,6],[6],[15,16,6],[17,6],[18,6],[7,13,19,6,6],[20,6],[6,21]]
def Lr:IR:=(S (S (R [o 8 (mv 5),o 9 (fa 49 3 3),o 10 (ld 45 9),o 11 (len 10 45),o 12 (bo .lss (t 8) (t 11))])
(.cond (t 12)
.skip
(.exit 0 [2,3])))
(S (.block 1 (S (R [o 15 (fa 49 3 3),o 16 (ld 45 15),o 17 (mv 5),o 18 (ia 45 16 17),o 19 (fa 99 18 0),o 20 (ld 3 19),o 6 (av 20)])
(S Tr
(.cond (t 43)
(S (R [o 4 (ab false)])
(.ret [4]))
.skip))))
(R [o 13 (mv 5),o 14 (bo .add (t 13) (n 1)),o 5 (av 14)])))
def Tq:IR:=D [o 51 (ld 30 2),o 52 (fa 49 3 8),o 53 (ld 47 52),o 54 (mv 7),o 55 (ia 47 53 54),o 56 (fa 162 55 0),o 57 (ld 3 56),o 58 (fa 49 3 8),o 59 (ld 47 58),o 60 (mv 7),o 61 (ia 47 59 60),o 62 (fa 162 61 1),o 63 (ld 3 62),o 64 (cl 107 #[(t 51),(t 57),(t 63)] #[30,3,3]),o 65 (.unOp .not 4 (.tmp 64))] [[],[],[1],[],[2,3],[4],[5],[],[7],[],[8,9],[10],[11],[0,6,12],[13]]
def Nl:IR:=(S (S (R [o 44 (mv 7),o 45 (fa 49 3 8),o 46 (ld 47 45),o 47 (len 46 47),o 48 (bo .lss (t 44) (t 47))])
(.cond (t 48)
.skip
(.exit 2 [2,3])))
(S (.block 3 (S Tq
(.cond (t 65)
(S (R [o 4 (ab false)])
(.ret [4]))
.skip)))
(R [o 49 (mv 7),o 50 (bo .add (t 49) (n 1)),o 7 (av 50)])))
def c184:IR:=(S (R [z 2 (bx 30 0),z 3 (bx 49 1),o 4 (ab false)])
(S (S (R [o 5 (an 0)])
(.block 0 (.loop [2,3,5] Lr)))
(S (S (R [o 7 (an 0)])
(.block 2 (.loop [2,3,7] Nl)))
(S (R [o 66 (ld 30 2),o 67 (fa 49 3 7),o 68 (ld 46 67),o 69 (cl 54 #[(t 66),(t 68)] #[30,46]),o 4 (av 69)])
(.ret [4])))))
def g184:IFn:=⟨70,[.tmp 4],[4],c184,[],false,none⟩
def oO:IR:=(S (S (R [o 4 (mv 3),o 5 (bo .lss (t 4) (n 4))])
(.cond (t 5)
.skip
(.exit 0 [])))
(S (.block 1 (S (R [o 8 (mv 3),o 9 (ia 31 1 8),o 10 (ld 3 9),o 11 (cl 142 #[(t 10)] #[3]),o 12 (.unOp .not 4 (.tmp 11))])
(.cond (t 12)
(S (R [o 2 (ab false)])
(.ret [2]))
.skip)))
(R [o 6 (mv 3),o 7 (bo .add (t 6) (n 1)),o 3 (av 7)])))
def c185:IR:=(S (R [z 1 (bx 31 0),o 2 (ab false)])
(S (S (R [o 3 (an 0)])
(.block 0 (.loop [1,3] oO)))
(S (R [o 2 (ab true)])
(.ret [2]))))
def g185:IFn:=⟨13,[.tmp 2],[4],c185,[],false,none⟩
def c186:IR:=(S (R [z 3 (bx 3 1),o 4 (ab false)])
(S (R [o 6 (.makeFunc (Go.Fn.func 202) #[] #[(.tmp 3)]),o 5 (av 6)])
(S (R [o 7 (mv 0),o 8 (cl 122 #[(t 7)] #[47]),o 9 (mv 8),oT 10 (mv 0) 9,oT 11 (mv 5) 9,oT 12 (cl 173 #[(t 10),(t 11)] #[47,171]) 9,oT 13 (.unOp .not 4 (.tmp 12)) 9,o 14 (.pick (.tmp 9) (.tmp 13) (.const (.bool false))),o 4 (av 14)])
(.ret [4]))))
def g186:IFn:=⟨15,[.tmp 4],[4],c186,[],false,none⟩
def Tp:IR:=D [o 15 (mv 6),o 16 (nc 15),o 17 (fa 49 16 3),o 18 (ld 45 17),o 19 (mv 6),o 20 (nc 19),o 21 (fa 49 20 5),o 22 (ld 3 21),o 23 (ia 45 18 22),o 24 (fa 99 23 2),o 25 (ld 3 24),o 26 (mv 6),o 27 (nc 26),o 28 (fa 49 27 1),o 29 (ld 3 28),o 30 (cl 69 #[(t 25),(t 29)] #[3,3]),o 31 (.unOp .not 4 (.tmp 30)),o 4 (av 31),o 5 (an 0)] [[],[0],[1],[2],[],[4],[5],[6],[3,7],[8],[9],[],[11],[12],[13],[10,14],[15],[16,15,0,1,2,3,4,5,6,7,8,9,10,11,12,13,14,15,16],[17,0,1,2,3,4,5,6,7,8,9,10,11,12,13,14,15,16,17]]
def c187:IR:=(S (R [z 2 (bx 35 0),o 4 (ab false),o 5 (an 0)])
(S (S (R [o 7 (mv 1),o 8 (.buildSlice 22 1 #[(0,(.const (.int .i64 2)))]),o 9 (cl 162 #[(t 2),(t 7),(t 8)] #[111,3,22]),o 10 (.unOp .not 4 (.tmp 9))])
(.cond (t 10)
(S (R [o 4 (ab false),o 5 (an 1400)])
(.ret [4,5]))
.skip))
(S (R [o 11 (fa 35 2 3),o 12 (ld 32 11),o 13 (mv 1),o 14 (ia 32 12 13),o 6 (av 14)])
(S Tp
(.ret [4,5])))))
def g187:IFn:=⟨32,[.tmp 4,.tmp 5],[4,36],c187,[],false,none⟩
def To:IR:=D [o 30 (mv 8),o 31 (nc 30),o 32 (fa 49 31 1),o 33 (ld 3 32),o 34 (mv 8),o 35 (nc 34),o 36 (fa 49 35 3),o 37 (ld 45 36),o 38 (mv 8),o 39 (nc 38),o 40 (fa 49 39 5),o 41 (ld 3 40),o 42 (ia 45 37 41),o 43 (fa 99 42 2),o 44 (ld 3 43),o 45 (cl 203 #[(t 33),(t 44)] #[3,3]),o 29 (mv 45),o 46 (xt 29 0),o 47 (xt 29 1),o 9 (av 46),o 10 (av 47)] [[],[0],[1],[2],[],[4],[5],[6],[],[8],[9],[10],[7,11],[12],[13],[3,14],[15],[16],[16],[17,15,0,1,2,3,4,5,6,7,8,9,10,11,12,13,14,15,16,17],[18,19,0,1,2,3,4,5,6,7,8,9,10,11,12,13,14,15,16,17,18,19]]
def fH:IR:=(S (R [z 2 (bx 35 0),o 4 (al 35),o 5 (an 0)])
(S (S (R [o 13 (ld 35 2),o 14 (mv 1),o 15 (cl 187 #[(t 13),(t 14)] #[35,3]),o 12 (mv 15),o 16 (xt 12 0),o 17 (xt 12 1),o 6 (av 16),o 7 (av 17)])
(S (R [o 18 (mv 7),o 19 (.binOp .neq 36 (.tmp 18) (.const (.int .i64 0)) 36),o 20 (mv 19),oF 21 (mv 6) 20,oF 22 (.unOp .not 4 (.tmp 21)) 20,o 23 (.pick (.tmp 20) (.const (.bool true)) (.tmp 22))])
(.cond (t 23)
(S (R [o 24 (.build 35 #[]),w (st 35 4 24),o 5 (an 1400)])
(.ret [4,5]))
.skip)))
(S (R [o 25 (fa 35 2 3),o 26 (ld 32 25),o 27 (mv 1),o 28 (ia 32 26 27),o 8 (av 28)])
(S To
(S (S (R [o 48 (mv 9),o 49 (mv 8),o 50 (nc 49),o 51 (fa 49 50 2),o 52 (ld 3 51),o 53 (cl 69 #[(t 48),(t 52)] #[3,3]),o 54 (.unOp .not 4 (.tmp 53))])
(.cond (t 54)
(S (R [o 55 (ld 35 2),o 56 (mv 1),o 57 (cl 159 #[(t 55),(t 56),(n 4),(n 0)] #[35,3,3,3]),o 58 (xt 57 0),o 59 (xt 57 1),w (st 35 4 58),o 5 (av 59)])
(.ret [4,5]))
.skip))
(S (R [o 60 (ld 35 2),o 61 (cl 49 #[(t 60)] #[35]),o 11 (al 35),w (st 35 11 61)])
(S (R [o 62 (mv 1),o 63 (mv 9),o 64 (cl 163 #[(t 11),(t 62),(n 2),(t 63)] #[111,3,3,3])])
(S (R [o 65 (fa 35 11 3),o 66 (ld 32 65),o 67 (mv 1),o 68 (mv 9),o 69 (ia 32 66 67),o 70 (fa 49 69 1),w (st 3 70 68)])
(S (R [o 71 (ld 35 11),w (st 35 4 71),o 5 (an 0)])
(.ret [4,5]))))))))))
def g188:IFn:=⟨72,[.cell 4 35,.tmp 5],[35,36],fH,[],false,none⟩
def Tn:IR:=D [o 34 (mv 9),o 35 (nc 34),o 36 (fa 49 35 3),o 37 (ld 45 36),o 38 (mv 9),o 39 (nc 38),o 40 (fa 49 39 5),o 41 (ld 3 40),o 42 (ia 45 37 41),o 43 (ld 99 42),o 10 (al 99),w (st 99 10 43)] [[],[0],[1],[2],[],[4],[5],[6],[3,7],[8],[],[10,9,0,1,2,3,4,5,6,7,8,9,10]]
def Tm:IR:=D [o 45 (mv 9),o 46 (nc 45),o 47 (fa 49 46 8),o 48 (ld 47 47),o 49 (fa 99 10 2),o 50 (ld 3 49),o 51 (fa 99 10 3),o 52 (ld 3 51),o 53 (cl 204 #[(t 48),(t 50),(t 52)] #[47,3,3]),o 44 (mv 53),o 54 (xt 44 0),o 55 (xt 44 1),o 11 (av 54),o 12 (av 55)] [[],[0],[1],[2],[],[4],[],[6],[3,5,7],[8],[9],[9],[10,8,0,1,2,3,4,5,6,7,8,9,10],[11,12,0,1,2,3,4,5,6,7,8,9,10,11,12]]
def Tl:IR:=D [o 58 (fa 99 10 2),o 59 (ld 3 58),o 60 (fa 35 8 0),o 61 (ia 30 60 59),o 62 (ld 29 61),o 63 (fa 99 10 3),o 64 (ld 3 63),o 65 (ia 29 62 64),o 66 (ld 55 65),o 13 (al 55),w (st 55 13 66)] [[],[0],[],[2,1],[3],[],[5],[4,6],[7],[],[9,8,0,1,2,3,4,5,6,7,8,9]]
def Tk:IR:=D [o 68 (fa 35 8 0),o 69 (ld 30 68),o 70 (mv 9),o 71 (nc 70),o 72 (fa 49 71 7),o 73 (ld 46 72),o 74 (mv 9),o 75 (nc 74),o 76 (fa 49 75 0),o 77 (ld 3 76),o 78 (cl 160 #[(t 69),(t 73),(t 77)] #[30,46,3]),o 67 (mv 78),o 79 (xt 67 0),o 80 (xt 67 1),o 14 (av 79),o 15 (av 80)] [[],[0],[],[2],[3],[4],[],[6],[7],[8],[1,5,9],[10],[11],[11],[12,10,0,1,2,3,4,5,6,7,8,9,10,11,12],[13,14,0,1,2,3,4,5,6,7,8,9,10,11,12,13,14]]
def Tj:IR:=D [o 96 (mv 9),o 97 (mv 9),o 98 (nc 97),o 99 (fa 49 98 7),o 100 (ld 46 99),o 101 (fa 99 10 2),o 102 (ld 3 101),o 103 (fa 99 10 3),o 104 (ld 3 103),o 105 (fa 55 13 1),o 106 (ld 3 105),o 107 (.build 106 #[(0,(.tmp 102)),(1,(.tmp 104)),(2,(.tmp 106))]),o 108 (cl 205 #[(t 100),(t 107)] #[46,106]),o 95 (mv 108),o 109 (xt 95 0),o 110 (xt 95 1),o 111 (nc 96),o 112 (fa 49 111 7),w (st 46 112 109)] [[],[],[1],[2],[3],[],[5],[],[7],[],[9],[6,8,10],[4,11],[12],[13],[13],[0,0,1,2,3,4,5,6,7,8,9,10,11,12,13,14],[16,0,1,2,3,4,5,6,7,8,9,10,11,12,13,14],[17,14,12,0,1,2,3,4,5,6,7,8,9,10,11,12,13,14]]
def Ti:IR:=D [o 113 (mv 9),o 114 (fa 99 10 1),o 115 (ld 3 114),o 116 (mv 11),o 117 (nc 113),o 118 (fa 49 117 6),o 119 (ia 31 118 115),w (st 3 119 116)] [[],[],[1],[],[0],[4],[5,2,0,1,2,3],[6,3,0,1,2,3]]
def Ya:IR:=(S (R [z 2 (bx 35 0),o 4 (al 35),o 5 (an 0)])
(S (S (R [o 17 (ld 35 2),o 18 (mv 1),o 19 (cl 187 #[(t 17),(t 18)] #[35,3]),o 16 (mv 19),o 20 (xt 16 0),o 21 (xt 16 1),o 6 (av 20),o 7 (av 21)])
(S (R [o 22 (mv 7),o 23 (.binOp .neq 36 (.tmp 22) (.const (.int .i64 0)) 36),o 24 (mv 23),oF 25 (mv 6) 24,o 26 (.pick (.tmp 24) (.const (.bool true)) (.tmp 25))])
(.cond (t 26)
(S (R [o 27 (.build 35 #[]),w (st 35 4 27),o 5 (an 1500)])
(.ret [4,5]))
.skip)))
(S (R [o 28 (ld 35 2),o 29 (cl 49 #[(t 28)] #[35]),o 8 (al 35),w (st 35 8 29)])
(S (R [o 30 (fa 35 8 3),o 31 (ld 32 30),o 32 (mv 1),z 33 (ia 32 31 32),o 9 (av 33)])
(S Tn
(S Tm
(S (S (R [o 56 (mv 12),o 57 (.unOp .not 4 (.tmp 56))])
(.cond (t 57)
(S Tl
(S (S Tk
(S (R [o 81 (mv 14),o 82 (.unOp .not 4 (.tmp 81)),o 83 (mv 82),oF 84 (fa 55 13 2) 83,oF 85 (ld 3 84) 83,oF 86 (bo .neq (t 85) (n 0)) 83,o 87 (.pick (.tmp 83) (.const (.bool true)) (.tmp 86))])
(.cond (t 87)
(S (R [o 88 (ld 35 2),o 89 (mv 1),o 90 (cl 157 #[(t 88),(t 89),(n 3)] #[35,3,3]),o 91 (xt 90 0),o 92 (xt 90 1),w (st 35 4 91),o 5 (av 92)])
(.ret [4,5]))
.skip)))
(S (R [o 93 (fa 55 13 0),o 94 (ld 3 93),o 11 (av 94)])
Tj)))
.skip))
(S Ti
(S (R [o 120 (mv 9),o 121 (nc 120),o 122 (fa 49 121 5),o 123 (ld 3 122),o 124 (bo .add (t 123) (n 1)),o 125 (nc 120),o 126 (fa 49 125 5),w (st 3 126 124)])
(S (R [o 127 (mv 1),o 128 (mv 11),o 129 (cl 163 #[(t 8),(t 127),(n 0),(t 128)] #[111,3,3,3])])
(S (R [o 130 (ld 35 8),w (st 35 4 130),o 5 (an 0)])
(.ret [4,5]))))))))))))
def g189:IFn:=⟨131,[.cell 4 35,.tmp 5],[35,36],Ya,[],false,none⟩
def c190:IR:=(S (R [z 3 (bx 162 1),o 4 (.assign (.const (.slice none 0 0))),o 5 (an 0)])
(S (S (R [o 9 (mv 0),o 10 (cl 122 #[(t 9)] #[47]),o 11 (.unOp .not 4 (.tmp 10)),o 12 (mv 11),oF 13 (ld 162 3) 12,oF 14 (.buildSlice 47 1 #[(0,(.tmp 13))]) 12,oF 15 (cl 122 #[(t 14)] #[47]) 12,oF 16 (.unOp .not 4 (.tmp 15)) 12,o 17 (.pick (.tmp 12) (.const (.bool true)) (.tmp 16))])
(.cond (t 17)
(S (R [o 4 (.assign (.const (.slice none 0 0))),o 5 (an 1000)])
(.ret [4,5]))
.skip))
(S (R [o 18 (mv 0),o 19 (cl 148 #[(t 18)] #[47]),o 6 (av 19)])
(S (R [o 21 (mv 0),o 22 (ld 162 3),o 23 (cl 206 #[(t 21),(t 22),(f 170)] #[47,162,202]),o 20 (mv 23),o 24 (xt 20 0),o 25 (xt 20 1),o 7 (av 24),o 8 (av 25)])
(S (.block 0 (S (R [o 32 (mv 8),o 31 (av 32)])
(.cond (t 31)
(R [o 33 (mv 6),o 34 (mv 7),o 35 (ld 162 3),o 36 (ia 47 33 34),w (st 162 36 35)])
(S (R [o 38 (mv 0),o 39 (len 38 47),o 40 (bo .eql (t 39) (n 16)),o 37 (av 40)])
(.cond (t 37)
(S (R [o 4 (.assign (.const (.slice none 0 0))),o 5 (an 1000)])
(.ret [4,5]))
(R [o 26 (mv 6),o 27 (mv 7),o 28 (ld 162 3),o 29 (.buildSlice 47 1 #[(0,(.tmp 28))]),o 30 (cl 207 #[(t 26),(t 27),(t 29)] #[47,3,47]),o 6 (av 30)]))))))
(S (R [o 41 (mv 6),o 4 (av 41),o 5 (an 0)])
(.ret [4,5])))))))
def g190:IFn:=⟨42,[.tmp 4,.tmp 5],[47,36],c190,[],false,none⟩
def c191:IR:=(S (R [o 3 (bx 31 0),o 6 (al 31),o 7 (an 0)])
(S (S (R [o 8 (cl 130 #[(t 3)] #[116]),o 9 (.unOp .not 4 (.tmp 8)),o 10 (mv 9),oF 11 (mv 1) 10,oF 12 (cl 181 #[(t 11)] #[3]) 10,oF 13 (.unOp .not 4 (.tmp 12)) 10,o 14 (.pick (.tmp 10) (.const (.bool true)) (.tmp 13)),o 15 (mv 14),oF 16 (mv 2) 15,oF 17 (cl 131 #[(t 16)] #[3]) 15,oF 18 (.unOp .not 4 (.tmp 17)) 15,o 19 (.pick (.tmp 15) (.const (.bool true)) (.tmp 18))])
(.cond (t 19)
(S (R [o 20 (.build 31 #[]),w (st 31 6 20),o 7 (an 600)])
(.ret [6,7]))
.skip))
(S (R [o 21 (mv 1),o 22 (mv 2),o 23 (ia 31 3 21),w (st 3 23 22)])
(S (R [o 24 (ld 31 3),w (st 31 6 24),o 7 (an 0)])
(.ret [6,7])))))
def g191:IFn:=⟨25,[.cell 6 31,.tmp 7],[31,36],c191,[],false,none⟩
def Th:IR:=D [o 22 (mv 1),o 23 (ia 31 3 22),o 24 (ld 3 23),o 25 (.convert 3 230 (.tmp 24)),o 26 (mv 2),o 27 (ia 31 3 26),o 28 (ld 3 27),o 29 (.convert 3 230 (.tmp 28)),o 30 (.call { callee:=(.builtin .complex),args:=#[(.tmp 25),(.tmp 29)],argTypes:=#[230,230] }),o 8 (av 30)] [[],[0],[1],[2],[],[4],[5],[6],[3,7],[8,0,1,2,3,4,5,6,7,8]]
def c192:IR:=(S (R [z 3 (bx 31 0),o 6 (al 31),o 7 (an 0)])
(S (S (R [o 9 (cl 130 #[(t 3)] #[116]),o 10 (.unOp .not 4 (.tmp 9)),o 11 (mv 10),oF 12 (mv 1) 11,oF 13 (cl 181 #[(t 12)] #[3]) 11,oF 14 (.unOp .not 4 (.tmp 13)) 11,o 15 (.pick (.tmp 11) (.const (.bool true)) (.tmp 14)),o 16 (mv 15),oF 17 (mv 2) 16,oF 18 (cl 181 #[(t 17)] #[3]) 16,oF 19 (.unOp .not 4 (.tmp 18)) 16,o 20 (.pick (.tmp 16) (.const (.bool true)) (.tmp 19))])
(.cond (t 20)
(S (R [o 21 (.build 31 #[]),w (st 31 6 21),o 7 (an 600)])
(.ret [6,7]))
.skip))
(S Th
(S (R [o 31 (ld 31 3),o 32 (mv 1),o 33 (mv 8),o 34 (.call { callee:=(.builtin .real),args:=#[(.tmp 33)],argTypes:=#[229] }),o 35 (.convert 230 3 (.tmp 34)),o 36 (mv 8),o 37 (.call { callee:=(.builtin .imag),args:=#[(.tmp 36)],argTypes:=#[229] }),o 38 (.convert 230 3 (.tmp 37)),o 39 (bo .add (t 35) (t 38)),o 40 (bo .rem (t 39) (n 256)),o 41 (cl 191 #[(t 31),(t 32),(t 40)] #[31,3,3]),o 42 (xt 41 0),o 43 (xt 41 1),w (st 31 6 42),o 7 (av 43)])
(.ret [6,7])))))
def g192:IFn:=⟨44,[.cell 6 31,.tmp 7],[31,36],c192,[],false,none⟩
def c193:IR:=(S (R [o 4 (.assign (.const (.pointer none)))])
(S (R [o 6 (mv 0),o 7 (nc 6),o 8 (fa 35 7 3),o 9 (ld 32 8),o 10 (mv 1),o 11 (ia 32 9 10),o 5 (av 11)])
(S (R [o 12 (mv 0),o 13 (mv 5),o 14 (nc 13),o 15 (fa 49 14 0),o 16 (ld 3 15),o 17 (cl 208 #[(t 12),(t 16)] #[111,3])])
(S (R [o 18 (mv 5),o 19 (mv 5),o 20 (mv 5),o 21 (mv 5),o 22 (nc 18),o 23 (fa 49 22 7),w (.store 46 (.tmp 23) (.const (.slice none 0 0))),o 24 (nc 19),o 25 (fa 49 24 8),w (.store 47 (.tmp 25) (.const (.slice none 0 0))),o 26 (nc 20),o 27 (fa 49 26 9),w (.store 3 (.tmp 27) (.const (.int .i64 0))),o 28 (nc 21),o 29 (fa 49 28 10),w (.store 3 (.tmp 29) (.const (.int .i64 0)))])
(S (R [o 30 (mv 5),o 4 (av 30)])
(.ret [4]))))))
def g193:IFn:=⟨31,[.tmp 4],[165],c193,[],true,none⟩
def Tg:IR:=D [o 32 (mv 6),o 33 (mv 0),o 34 (fa 106 8 0),o 35 (ld 3 34),o 36 (nc 33),o 37 (ia 30 36 35),o 38 (ld 29 37),o 39 (fa 106 8 1),o 40 (ld 3 39),o 41 (ia 29 38 40),o 42 (ld 55 41),o 43 (.buildSlice 29 1 #[(0,(.tmp 42))]),o 44 (.call { callee:=(.builtin .append),args:=#[(.tmp 32),(.tmp 43)],argTypes:=#[29,29] }),o 6 (av 44)] [[],[],[],[2],[1],[4,3],[5],[],[7],[6,8],[9],[10],[0,11],[12,12,0,1,2,3,4,5,6,7,8,9,10,11,12]]
def IY:IR:=(S (R [o 22 (bo .lss (t 21) (t 20))])
(S (.cond (t 22)
.skip
(.exit 0 [6]))
(S (.block 1 (S (R [o 23 (ia 46 19 21),o 24 (ld 106 23),o 8 (al 106),w (st 106 8 24)])
(S (S (R [o 25 (mv 0),o 26 (fa 106 8 0),o 27 (ld 3 26),o 28 (fa 106 8 1),o 29 (ld 3 28),o 30 (cl 172 #[(t 25),(t 27),(t 29)] #[122,3,3]),o 31 (.unOp .not 4 (.tmp 30))])
(.cond (t 31)
(S (R [o 4 (.assign (.const (.slice none 0 0))),o 5 (ab false)])
(.ret [4,5]))
.skip))
Tg)))
(R [o 45 (bo .add (t 21) (n 1)),o 21 (mv 45)]))))
def oN:IR:=(S (R [o 4 (.assign (.const (.slice none 0 0))),o 5 (ab false)])
(S (S (R [o 9 (mv 0),o 10 (nc 9),o 11 (ld 30 10),o 12 (cl 60 #[(t 11)] #[30]),o 13 (.unOp .not 4 (.tmp 12)),o 14 (mv 13),oF 15 (mv 1) 14,oF 16 (cl 121 #[(t 15)] #[46]) 14,oF 17 (.unOp .not 4 (.tmp 16)) 14,o 18 (.pick (.tmp 14) (.const (.bool true)) (.tmp 17))])
(.cond (t 18)
(S (R [o 4 (.assign (.const (.slice none 0 0))),o 5 (ab false)])
(.ret [4,5]))
.skip))
(S (R [o 6 (.assign (.const (.slice none 0 0)))])
(S (S (R [o 19 (mv 1),o 20 (len 19 46),o 21 (.move (.const (.int .i64 0)))])
(.block 0 (.loop [0,6,19,20,21] IY)))
(S (R [o 46 (mv 6),o 4 (av 46),o 5 (ab true)])
(.ret [4,5]))))))
def g194:IFn:=⟨47,[.tmp 4,.tmp 5],[29,4],oN,[],false,none⟩
def c195:IR:=(S (R [o 4 (ab false)])
(S (R [o 5 (mv 0),o 6 (mv 1),o 7 (cl 209 #[(t 5),(t 6)] #[22,3]),o 8 (bo .geq (t 7) (n 0)),o 4 (av 8)])
(.ret [4])))
def g195:IFn:=⟨9,[.tmp 4],[4],c195,[],false,none⟩
def Qb:IR:=(S (R [o 9 (bo .lss (t 8) (t 7))])
(S (.cond (t 9)
.skip
(.exit 0 []))
(S (.block 1 (S (R [o 10 (mv 8),o 5 (av 10)])
(S (R [o 11 (mv 1),o 12 (mv 0),o 13 (mv 5),o 14 (ia 46 12 13),o 15 (ld 106 14),o 16 (.call { callee:=(.value (.tmp 11)),args:=#[(.tmp 15)],argTypes:=#[106] })])
(.cond (t 16)
(S (R [o 17 (mv 5),o 4 (av 17)])
(.ret [4]))
.skip))))
(R [o 18 (bo .add (t 8) (n 1)),o 8 (mv 18)]))))
def c196:IR:=(S (R [o 4 (an 0)])
(S (S (R [o 6 (mv 0),o 7 (len 6 46),o 8 (.move (.const (.int .i64 0)))])
(.block 0 (.loop [0,1,7,8] Qb)))
(S (R [o 4 (an (-1))])
(.ret [4]))))
def g196:IFn:=⟨19,[.tmp 4],[3],c196,[],false,none⟩
def c197:IR:=(S (R [z 2 (bx 106 0),o 3 (ab false)])
(S (R [o 4 (fa 106 2 0),o 5 (ld 3 4),o 6 (fa 106 1 0),o 7 (ld 3 6),o 8 (bo .eql (t 5) (t 7)),o 9 (mv 8),oT 10 (fa 106 2 1) 9,oT 11 (ld 3 10) 9,oT 12 (fa 106 1 1) 9,oT 13 (ld 3 12) 9,oT 14 (bo .eql (t 11) (t 13)) 9,o 15 (.pick (.tmp 9) (.tmp 14) (.const (.bool false))),o 3 (av 15)])
(.ret [3])))
def g197:IFn:=⟨16,[.tmp 3],[4],c197,[],false,none⟩
def Ud:IR:=(S (R [o 9 (bo .lss (t 8) (t 7))])
(S (.cond (t 9)
.skip
(.exit 0 [3]))
(S (.block 1 (S (R [o 10 (ia 22 6 8),o 11 (ld 3 10),o 5 (av 11)])
(S (R [o 12 (mv 5),o 13 (mv 3),o 14 (bo .neq (t 12) (t 13))])
(.cond (t 14)
(S (R [o 15 (mv 5),o 2 (av 15)])
(.ret [2]))
.skip))))
(R [o 16 (bo .add (t 8) (n 1)),o 8 (mv 16)]))))
def c198:IR:=(S (R [o 2 (an 0)])
(S (R [o 3 (an 0)])
(S (S (R [o 6 (mv 0),o 7 (len 6 22),o 8 (.move (.const (.int .i64 0)))])
(.block 0 (.loop [3,6,7,8] Ud)))
(S (R [o 17 (mv 3),o 2 (av 17)])
(.ret [2])))))
def g198:IFn:=⟨18,[.tmp 2],[3],c198,[],false,none⟩
def Qa:IR:=(S (R [o 9 (bo .lss (t 8) (t 7))])
(S (.cond (t 9)
.skip
(.exit 0 []))
(S (.block 1 (S (R [o 10 (mv 8),o 5 (av 10)])
(S (R [o 11 (mv 1),o 12 (mv 0),o 13 (mv 5),o 14 (ia 47 12 13),o 15 (ld 162 14),o 16 (.call { callee:=(.value (.tmp 11)),args:=#[(.tmp 15)],argTypes:=#[162] })])
(.cond (t 16)
(S (R [o 17 (mv 5),o 4 (av 17)])
(.ret [4]))
.skip))))
(R [o 18 (bo .add (t 8) (n 1)),o 8 (mv 18)]))))
def c199:IR:=(S (R [o 4 (an 0)])
(S (S (R [o 6 (mv 0),o 7 (len 6 47),o 8 (.move (.const (.int .i64 0)))])
(.block 0 (.loop [0,1,7,8] Qa)))
(S (R [o 4 (an (-1))])
(.ret [4]))))
def g199:IFn:=⟨19,[.tmp 4],[3],c199,[],false,none⟩
def PZ:IR:=(S (R [o 9 (bo .lss (t 8) (t 7))])
(S (.cond (t 9)
.skip
(.exit 0 []))
(S (.block 1 (S (R [o 10 (mv 8),o 5 (av 10)])
(S (R [o 11 (mv 1),o 12 (mv 0),o 13 (mv 5),o 14 (ia 45 12 13),o 15 (ld 99 14),o 16 (.call { callee:=(.value (.tmp 11)),args:=#[(.tmp 15)],argTypes:=#[99] })])
(.cond (t 16)
(S (R [o 17 (mv 5),o 4 (av 17)])
(.ret [4]))
.skip))))
(R [o 18 (bo .add (t 8) (n 1)),o 8 (mv 18)]))))
def c200:IR:=(S (R [o 4 (an 0)])
(S (S (R [o 6 (mv 0),o 7 (len 6 45),o 8 (.move (.const (.int .i64 0)))])
(.block 0 (.loop [0,1,7,8] PZ)))
(S (R [o 4 (an (-1))])
(.ret [4]))))
def g200:IFn:=⟨19,[.tmp 4],[3],c200,[],false,none⟩
def c201:IR:=(S (R [z 1 (bx 99 0),o 2 (ab false)])
(S (S (R [o 3 (fa 99 1 0),o 4 (ld 3 3)])
(.block 0 (S (R [o 6 (bo .eql (t 4) (n 0)),o 5 (av 6)])
(.cond (t 5)
(S (R [o 7 (fa 99 1 1),o 8 (ld 3 7),o 9 (cl 210 #[(t 8)] #[3]),o 10 (mv 9),oT 11 (fa 99 1 2) 10,oT 12 (ld 3 11) 10,oT 13 (cl 142 #[(t 12)] #[3]) 10,o 14 (.pick (.tmp 10) (.tmp 13) (.const (.bool false))),o 15 (mv 14),oT 16 (fa 99 1 3) 15,oT 17 (ld 3 16) 15,oT 18 (bo .eql (t 17) (n 0)) 15,o 19 (.pick (.tmp 15) (.tmp 18) (.const (.bool false))),o 2 (av 19)])
(.ret [2]))
(S (R [o 21 (bo .eql (t 4) (n 1)),o 20 (av 21)])
(.cond (t 20)
(S (R [o 22 (fa 99 1 1),o 23 (ld 3 22),o 24 (cl 210 #[(t 23)] #[3]),o 25 (mv 24),oT 26 (fa 99 1 2) 25,oT 27 (ld 3 26) 25,oT 28 (cl 210 #[(t 27)] #[3]) 25,o 29 (.pick (.tmp 25) (.tmp 28) (.const (.bool false))),o 30 (mv 29),oT 31 (fa 99 1 3) 30,oT 32 (ld 3 31) 30,oT 33 (bo .eql (t 32) (n 0)) 30,o 34 (.pick (.tmp 30) (.tmp 33) (.const (.bool false))),o 2 (av 34)])
(.ret [2]))
(S (S (R [o 36 (bo .eql (t 4) (n 2)),o 35 (av 36)])
(.cond (t 35)
.skip
(R [o 37 (bo .eql (t 4) (n 3)),o 35 (av 37)])))
(.cond (t 35)
(S (R [o 38 (fa 99 1 1),o 39 (ld 3 38),o 40 (cl 210 #[(t 39)] #[3]),o 41 (mv 40),oT 42 (fa 99 1 2) 41,oT 43 (ld 3 42) 41,oT 44 (cl 96 #[(t 43)] #[3]) 41,o 45 (.pick (.tmp 41) (.tmp 44) (.const (.bool false))),o 46 (mv 45),oT 47 (fa 99 1 3) 46,oT 48 (ld 3 47) 46,oT 49 (cl 145 #[(t 48),(n 0),(n 3)] #[3,3,3]) 46,o 50 (.pick (.tmp 46) (.tmp 49) (.const (.bool false))),o 2 (av 50)])
(.ret [2]))
(S (R [o 52 (bo .eql (t 4) (n 4)),o 51 (av 52)])
(.cond (t 51)
(S (R [o 53 (fa 99 1 1),o 54 (ld 3 53),o 55 (cl 210 #[(t 54)] #[3]),o 56 (mv 55),oT 57 (fa 99 1 2) 56,oT 58 (ld 3 57) 56,oT 59 (cl 145 #[(t 58),(n 0),(n 16)] #[3,3,3]) 56,o 60 (.pick (.tmp 56) (.tmp 59) (.const (.bool false))),o 61 (mv 60),oT 62 (fa 99 1 3) 61,oT 63 (ld 3 62) 61,oT 64 (bo .eql (t 63) (n 0)) 61,o 65 (.pick (.tmp 61) (.tmp 64) (.const (.bool false))),o 2 (av 65)])
(.ret [2]))
(S (R [o 67 (bo .eql (t 4) (n 5)),o 66 (av 67)])
(.cond (t 66)
(S (R [o 68 (ld 99 1),o 69 (.build 99 #[(0,(.const (.int .i64 5)))]),o 70 (.binOp .eql 99 (.tmp 68) (.tmp 69) 99),o 2 (av 70)])
(.ret [2]))
(S (R [o 72 (bo .eql (t 4) (n 6)),o 71 (av 72)])
(.cond (t 71)
(S (R [o 73 (fa 99 1 1),o 74 (ld 3 73),o 75 (cl 142 #[(t 74)] #[3]),o 76 (mv 75),oT 77 (fa 99 1 2) 76,oT 78 (ld 3 77) 76,oT 79 (bo .eql (t 78) (n 0)) 76,o 80 (.pick (.tmp 76) (.tmp 79) (.const (.bool false))),o 81 (mv 80),oT 82 (fa 99 1 3) 81,oT 83 (ld 3 82) 81,oT 84 (bo .eql (t 83) (n 0)) 81,o 85 (.pick (.tmp 81) (.tmp 84) (.const (.bool false))),o 2 (av 85)])
(.ret [2]))
.skip))))))))))))))
(S (R [o 2 (ab false)])
(.ret [2]))))
def g201:IFn:=⟨86,[.tmp 2],[4],c201,[],false,none⟩
def c202:IR:=(S (R [z 2 (bx 162 0),o 3 (ab false)])
(S (R [o 4 (fa 162 2 0),o 5 (ld 3 4),o 6 (ld 3 1),o 7 (bo .neq (t 5) (t 6)),o 3 (av 7)])
(.ret [3])))
def g202:IFn:=⟨8,[.tmp 3],[4],c202,[],false,none⟩
def c203:IR:=(S (R [o 4 (an 0),o 5 (an 0)])
(S (S (R [o 6 (mv 0),o 7 (cl 64 #[(t 6)] #[3]),o 8 (.unOp .not 4 (.tmp 7)),o 9 (mv 8),oF 10 (mv 1) 9,oF 11 (cl 64 #[(t 10)] #[3]) 9,oF 12 (.unOp .not 4 (.tmp 11)) 9,o 13 (.pick (.tmp 9) (.const (.bool true)) (.tmp 12))])
(.cond (t 13)
(S (R [o 4 (an 0),o 5 (an 100)])
(.ret [4,5]))
.skip))
(S (R [o 14 (mv 0),o 15 (mv 1),o 16 (bo .or (t 14) (t 15)),o 4 (av 16),o 5 (an 0)])
(.ret [4,5]))))
def g203:IFn:=⟨17,[.tmp 4,.tmp 5],[3,36],c203,[],false,none⟩
def c204:IR:=(S (R [o 6 (an 0),o 7 (ab false)])
(S (R [o 11 (mv 0),o 12 (mv 1),o 13 (mv 2),o 14 (.build 162 #[(0,(.tmp 12)),(1,(.tmp 13))]),o 15 (cl 206 #[(t 11),(t 14),(f 170)] #[47,162,202]),o 10 (mv 15),o 16 (xt 10 0),o 17 (xt 10 1),o 8 (av 16),o 9 (av 17)])
(S (S (R [o 18 (mv 0),o 19 (cl 122 #[(t 18)] #[47]),o 20 (.unOp .not 4 (.tmp 19)),o 21 (mv 20),oF 22 (mv 9) 21,oF 23 (.unOp .not 4 (.tmp 22)) 21,o 24 (.pick (.tmp 21) (.const (.bool true)) (.tmp 23))])
(.cond (t 24)
(S (R [o 6 (an 0),o 7 (ab false)])
(.ret [6,7]))
.skip))
(S (R [o 25 (mv 0),o 26 (mv 8),o 27 (ia 47 25 26),o 28 (fa 162 27 2),o 29 (ld 3 28),o 6 (av 29),o 7 (ab true)])
(.ret [6,7])))))
def g204:IFn:=⟨30,[.tmp 6,.tmp 7],[3,4],c204,[],false,none⟩
def fG:IR:=(S (R [z 3 (bx 106 1),o 4 (.assign (.const (.slice none 0 0))),o 5 (an 0)])
(S (S (R [o 7 (mv 0),o 8 (cl 121 #[(t 7)] #[46]),o 9 (.unOp .not 4 (.tmp 8)),o 10 (mv 9),oF 11 (ld 106 3) 10,oF 12 (.buildSlice 46 1 #[(0,(.tmp 11))]) 10,oF 13 (cl 121 #[(t 12)] #[46]) 10,oF 14 (.unOp .not 4 (.tmp 13)) 10,o 15 (.pick (.tmp 10) (.const (.bool true)) (.tmp 14))])
(.cond (t 15)
(S (R [o 4 (.assign (.const (.slice none 0 0))),o 5 (an 900)])
(.ret [4,5]))
.skip))
(S (R [o 16 (mv 0),o 17 (cl 147 #[(t 16)] #[46]),o 6 (av 17)])
(S (S (R [o 18 (mv 0),o 19 (ld 106 3),o 20 (cl 169 #[(t 19)] #[106]),o 21 (cl 168 #[(t 18),(t 20)] #[46,169])])
(.cond (t 21)
(S (R [o 22 (mv 6),o 4 (av 22),o 5 (an 0)])
(.ret [4,5]))
.skip))
(S (S (R [o 23 (mv 0),o 24 (len 23 46),o 25 (bo .eql (t 24) (n 16))])
(.cond (t 25)
(S (R [o 4 (.assign (.const (.slice none 0 0))),o 5 (an 900)])
(.ret [4,5]))
.skip))
(S (R [o 26 (mv 6),o 27 (ld 106 3),o 28 (.buildSlice 46 1 #[(0,(.tmp 27))]),o 29 (.call { callee:=(.builtin .append),args:=#[(.tmp 26),(.tmp 28)],argTypes:=#[46,46] }),o 4 (av 29),o 5 (an 0)])
(.ret [4,5])))))))
def g205:IFn:=⟨30,[.tmp 4,.tmp 5],[46,36],fG,[],false,none⟩
def Tf:IR:=D [o 24 (mv 2),o 25 (mv 0),o 26 (mv 11),o 27 (ia 47 25 26),o 28 (ld 162 27),o 29 (ld 162 4),o 30 (.call { callee:=(.value (.tmp 24)),args:=#[(.tmp 28),(.tmp 29)],argTypes:=#[162,162] }),o 31 (bo .lss (t 30) (n 0))] [[],[],[],[1,2],[3],[],[0,4,5],[6]]
def Nk:IR:=(S (S (R [o 15 (mv 9),o 16 (mv 10),o 17 (bo .lss (t 15) (t 16))])
(.cond (t 17)
.skip
(.exit 0 [0,2,4,8,9])))
(.block 1 (S (R [o 18 (mv 9),o 19 (mv 10),o 20 (bo .add (t 18) (t 19)),o 21 (.convert 3 62 (.tmp 20)),o 22 (.binOp .shr 62 (.tmp 21) (.const (.int .u64 1)) 62),o 23 (.convert 62 3 (.tmp 22)),o 11 (av 23)])
(S Tf
(.cond (t 31)
(R [o 32 (mv 11),o 33 (bo .add (t 32) (n 1)),o 9 (av 33)])
(R [o 34 (mv 11),o 10 (av 34)]))))))
def Te:IR:=D [o 35 (mv 9),o 36 (mv 9),o 37 (mv 8),o 38 (bo .lss (t 36) (t 37)),o 39 (mv 38),oT 40 (mv 2) 39,oT 41 (mv 0) 39,oT 42 (mv 9) 39,oT 43 (ia 47 41 42) 39,oT 44 (ld 162 43) 39,oT 45 (ld 162 4) 39,oT 46 (.call { callee:=(.value (.tmp 40)),args:=#[(.tmp 44),(.tmp 45)],argTypes:=#[162,162] }) 39,oT 47 (bo .eql (t 46) (n 0)) 39,o 48 (.pick (.tmp 39) (.tmp 47) (.const (.bool false))),o 6 (av 35),o 7 (av 48)] [[],[],[],[1,2],[3],[4],[4],[4],[6,7,4],[8,4],[4],[5,9,10,4,4],[11,4],[4,12],[0,11,0],[13,14,0,1,2,3,4,5,6,7,8,9,10,11,12,13,14]]
def c206:IR:=(S (R [z 4 (bx 162 1),o 6 (an 0),o 7 (ab false)])
(S (R [o 12 (mv 0),o 13 (len 12 47),o 8 (av 13)])
(S (R [o 14 (mv 8),o 9 (an 0),o 10 (av 14)])
(S (.block 0 (.loop [0,2,4,8,9,10] Nk))
(S Te
(.ret [6,7]))))))
def g206:IFn:=⟨49,[.tmp 6,.tmp 7],[3,4],c206,[],false,none⟩
def Td:IR:=D [o 46 (mv 9),o 47 (mv 1),o 48 (mv 7),o 49 (bo .add (t 47) (t 48)),o 50 (.slice 47 (.tmp 46) (some (.tmp 49)) none none),o 51 (mv 0),o 52 (mv 1),o 53 (.slice 47 (.tmp 51) (some (.tmp 52)) none none),o 54 (.call { callee:=(.builtin .copy),args:=#[(.tmp 50),(.tmp 53)],argTypes:=#[47,47] })] [[],[],[],[1,2],[0,3],[],[],[5,6],[4,7]]
def Tc:IR:=D [o 69 (mv 0),o 70 (mv 1),o 71 (mv 7),o 72 (bo .add (t 70) (t 71)),o 73 (.slice 47 (.tmp 69) (some (.tmp 72)) none none),o 74 (mv 0),o 75 (mv 1),o 76 (.slice 47 (.tmp 74) (some (.tmp 75)) none none),o 77 (.call { callee:=(.builtin .copy),args:=#[(.tmp 73),(.tmp 76)],argTypes:=#[47,47] })] [[],[],[],[1,2],[0,3],[],[],[5,6],[4,7]]
def c207:IR:=(S (R [o 6 (.assign (.const (.slice none 0 0)))])
(S (R [o 10 (mv 0),o 11 (mv 1),o 12 (.slice 47 (.tmp 10) (some (.tmp 11)) none none)])
(S (R [o 13 (mv 2),o 14 (len 13 47),o 7 (av 14)])
(S (S (R [o 15 (mv 7),o 16 (bo .eql (t 15) (n 0))])
(.cond (t 16)
(S (R [o 17 (mv 0),o 6 (av 17)])
(.ret [6]))
.skip))
(S (R [o 18 (mv 0),o 19 (len 18 47),o 8 (av 19)])
(S (S (R [o 20 (mv 1),o 21 (mv 8),o 22 (bo .eql (t 20) (t 21))])
(.cond (t 22)
(S (R [o 23 (mv 0),o 24 (mv 2),o 25 (.call { callee:=(.builtin .append),args:=#[(.tmp 23),(.tmp 24)],argTypes:=#[47,47] }),o 6 (av 25)])
(.ret [6]))
.skip))
(S (S (R [o 26 (mv 8),o 27 (mv 7),o 28 (bo .add (t 26) (t 27)),o 29 (mv 0),o 30 (.call { callee:=(.builtin .cap),args:=#[(.tmp 29)],argTypes:=#[47] }),o 31 (bo .gtr (t 28) (t 30))])
(.cond (t 31)
(S (R [o 32 (mv 0),o 33 (mv 1),o 34 (.slice 47 (.tmp 32) none (some (.tmp 33)) none),o 35 (mv 8),o 36 (mv 7),o 37 (bo .add (t 35) (t 36)),o 38 (mv 1),o 39 (bo .sub (t 37) (t 38)),o 40 (.call { callee:=(.builtin .append),args:=#[(.tmp 34),(.tmp 39)],argTypes:=#[47,3] }),o 9 (av 40)])
(S (R [o 41 (mv 9),o 42 (mv 1),o 43 (.slice 47 (.tmp 41) (some (.tmp 42)) none none),o 44 (mv 2),o 45 (.call { callee:=(.builtin .copy),args:=#[(.tmp 43),(.tmp 44)],argTypes:=#[47,47] })])
(S Td
(S (R [o 55 (mv 9),o 6 (av 55)])
(.ret [6])))))
.skip))
(S (R [o 56 (mv 0),o 57 (mv 8),o 58 (mv 7),o 59 (bo .add (t 57) (t 58)),o 60 (.slice 47 (.tmp 56) none (some (.tmp 59)) none),o 0 (av 60)])
(S (S (R [o 61 (mv 2),o 62 (mv 0),o 63 (mv 1),o 64 (mv 7),o 65 (bo .add (t 63) (t 64)),o 66 (.slice 47 (.tmp 62) (some (.tmp 65)) none none),o 67 (cl 211 #[(t 61),(t 66)] #[47,47]),o 68 (.unOp .not 4 (.tmp 67))])
(.cond (t 68)
(S Tc
(S (R [o 78 (mv 0),o 79 (mv 1),o 80 (.slice 47 (.tmp 78) (some (.tmp 79)) none none),o 81 (mv 2),o 82 (.call { callee:=(.builtin .copy),args:=#[(.tmp 80),(.tmp 81)],argTypes:=#[47,47] })])
(S (R [o 83 (mv 0),o 6 (av 83)])
(.ret [6]))))
.skip))
(S (R [o 84 (mv 0),o 85 (mv 8),o 86 (.slice 47 (.tmp 84) (some (.tmp 85)) none none),o 87 (mv 2),o 88 (.call { callee:=(.builtin .copy),args:=#[(.tmp 86),(.tmp 87)],argTypes:=#[47,47] })])
(S (R [o 89 (mv 0),o 90 (mv 1),o 91 (.slice 47 (.tmp 89) (some (.tmp 90)) none none),o 92 (mv 7),o 93 (cl 212 #[(t 91),(t 92)] #[47,3])])
(S (R [o 94 (mv 0),o 6 (av 94)])
(.ret [6])))))))))))))
def g207:IFn:=⟨95,[.tmp 6],[47],c207,[true],false,some (3,24)⟩
def Da:IR:=(S (S (R [o 7 (mv 5),o 8 (mv 0),o 9 (mv 4),o 10 (nc 8),o 11 (fa 35 10 0),o 12 (ia 30 11 9),o 13 (ld 29 12),o 14 (len 13 29),o 15 (bo .lss (t 7) (t 14))])
(.cond (t 15)
.skip
(.exit 0 [0,1,4])))
(.block 1 (S (S (R [o 16 (mv 0),o 17 (mv 4),o 18 (nc 16),o 19 (fa 35 18 0),o 20 (ia 30 19 17),o 21 (ld 29 20),o 22 (mv 5),o 23 (ia 29 21 22),o 6 (av 23)])
(S (R [o 24 (mv 6),o 25 (nc 24),o 26 (fa 55 25 2),o 27 (ld 3 26),o 28 (mv 1),o 29 (bo .add (t 28) (n 1)),o 30 (bo .eql (t 27) (t 29))])
(.cond (t 30)
(R [o 31 (mv 6),o 32 (nc 31),o 33 (fa 55 32 2),w (.store 3 (.tmp 33) (.const (.int .i64 0)))])
.skip)))
(R [o 34 (mv 5),o 35 (bo .add (t 34) (n 1)),o 5 (av 35)]))))
def Lq:IR:=(S (R [o 4 (an 0),o 5 (an 0)])
(S (.label 0)
(S (.block 0 (.loop [0,1,4,5] Da))
(S (R [o 36 (mv 4),o 37 (bo .add (t 36) (n 1)),o 4 (av 37)])
(S (R [o 38 (mv 4),o 39 (bo .lss (t 38) (n 4))])
(.cond (t 39)
(S (R [o 5 (an 0)])
(.goto 0))
.skip))))))
def c208:IR:=(.scope [0,1,4,5] Lq)
def g208:IFn:=⟨40,[],[],c208,[],true,none⟩
def Nj:IR:=(S (R [o 9 (bo .lss (t 8) (t 7))])
(S (.cond (t 9)
.skip
(.exit 0 []))
(S (.block 1 (S (R [o 10 (mv 8),o 5 (av 10)])
(S (R [o 11 (mv 1),o 12 (mv 0),o 13 (mv 5),o 14 (ia 22 12 13),o 15 (ld 3 14),o 16 (bo .eql (t 11) (t 15))])
(.cond (t 16)
(S (R [o 17 (mv 5),o 4 (av 17)])
(.ret [4]))
.skip))))
(R [o 18 (bo .add (t 8) (n 1)),o 8 (mv 18)]))))
def fF:IR:=(S (R [o 4 (an 0)])
(S (S (R [o 6 (mv 0),o 7 (len 6 22),o 8 (.move (.const (.int .i64 0)))])
(.block 0 (.loop [0,1,7,8] Nj)))
(S (R [o 4 (an (-1))])
(.ret [4]))))
def g209:IFn:=⟨19,[.tmp 4],[3],fF,[],false,none⟩
def c210:IR:=(S (R [o 2 (ab false)])
(S (R [o 3 (mv 0),o 4 (cl 145 #[(t 3),(n 0),(n 3)] #[3,3,3]),o 2 (av 4)])
(.ret [2])))
def g210:IFn:=⟨5,[.tmp 2],[4],c210,[],false,none⟩
def c212:IR:=(R [o 4 (mv 0),o 5 (mv 0),o 6 (len 5 47),o 7 (mv 1),o 8 (bo .sub (t 6) (t 7)),o 9 (cl 213 #[(t 4),(t 8)] #[47,3])])
def g212:IFn:=⟨10,[],[],c212,[],false,none⟩
def c213:IR:=(S (R [o 4 (mv 0),o 5 (mv 1),o 6 (.slice 47 (.tmp 4) none (some (.tmp 5)) none),o 7 (cl 214 #[(t 6)] #[47])])
(S (R [o 8 (mv 0),o 9 (mv 1),o 10 (.slice 47 (.tmp 8) (some (.tmp 9)) none none),o 11 (cl 214 #[(t 10)] #[47])])
(R [o 12 (mv 0),o 13 (cl 214 #[(t 12)] #[47])])))
def g213:IFn:=⟨14,[],[],c213,[],false,none⟩
def Tb:IR:=D [o 14 (mv 0),o 15 (mv 2),o 16 (mv 0),o 17 (mv 3),o 18 (mv 0),o 19 (mv 3),o 20 (ia 47 18 19),o 21 (ld 162 20),o 22 (mv 0),o 23 (mv 2),o 24 (ia 47 22 23),o 25 (ld 162 24),o 26 (ia 47 14 15),w (st 162 26 21),o 27 (ia 47 16 17),w (st 162 27 25)] [[],[],[],[],[],[],[4,5],[6],[],[],[8,9],[10],[0,1,0,1,4,5,6,7,11],[12,7,0,1,4,5,6,7,11],[2,3,0,1,2,3,4,5,6,7,8,9,10,11,12,13],[14,11,13,0,1,2,3,4,5,6,7,8,9,10,11,12,13]]
def a3x:IR:=(S (S (R [o 7 (mv 2),o 8 (mv 3),o 9 (bo .lss (t 7) (t 8))])
(.cond (t 9)
.skip
(.exit 0 [])))
(S (.block 1 Tb)
(R [o 10 (mv 2),o 11 (bo .add (t 10) (n 1)),o 12 (mv 3),o 13 (bo .sub (t 12) (n 1)),o 2 (av 11),o 3 (av 13)])))
def c214:IR:=(S (R [o 4 (mv 0),o 5 (len 4 47),o 6 (bo .sub (t 5) (n 1)),o 2 (an 0),o 3 (av 6)])
(.block 0 (.loop [0,2,3] a3x)))
def g214:IFn:=⟨28,[],[],c214,[],false,none⟩
def UA:List (Nat × IFn):=[(3,g3),(4,g4),(5,g5),(6,g6),(7,g7),(8,g8),(9,g9),(10,g10),(11,g11),(12,g12),(13,g13),(14,g14),(15,g15),(16,g16),(17,g17),(18,g18),(19,g19),(20,g20),(21,g21),(22,g22),(23,g23),(24,g24),(25,g25),(26,g26),(27,g27),(28,g28),(29,g29),(30,g30),(31,g31),(32,g32),(33,g33),(34,g34),(35,g35),(36,g36),(37,g37),(40,g40),(41,g41),(42,g42),(43,g43),(44,g44),(45,g45),(46,g46),(47,g47),(48,g48),(49,g49),(50,g50),(51,g51),(52,g52),(53,g53),(54,g54),(55,g55),(56,g56),(57,g57),(58,g58),(59,g59),(60,g60),(61,g61),(62,g62),(63,g63),(64,g64),(65,g65),(66,g66),(67,g67),(68,g68),(69,g69),(70,g70),(71,g71),(72,g72),(73,g73),(74,g74),(75,g75),(76,g76),(77,g77),(78,g78),(79,g79),(80,g80),(81,g81),(82,g82),(83,g83),(84,g84),(85,g85),(86,g86),(87,g87),(88,g88),(89,g89),(92,g92),(93,g93),(94,g94),(95,g95),(96,g96),(97,g97),(98,g98),(99,g99),(100,g100),(101,g101),(102,g102),(103,g103),(104,g104),(105,g105),(106,g106),(107,g107),(108,g108),(109,g109),(110,g110),(111,g111),(112,g112),(113,g113),(114,g114),(115,g115),(116,g116),(117,g117),(118,g118),(119,g119),(120,g120),(121,g121),(122,g122),(123,g123),(124,g124),(125,g125),(126,g126),(127,g127),(128,g128),(129,g129),(130,g130),(131,g131),(132,g132),(133,g133),(134,g134),(135,g135),(136,g136),(137,g137),(138,g138),(139,g139),(140,g140),(141,g141),(142,g142),(143,g143),(144,g144),(145,g145),(146,g146),(147,g147),(148,g148),(149,g149),(150,g150),(151,g151),(152,g152),(153,g153),(154,g154),(155,g155),(156,g156),(157,g157),(158,g158),(159,g159),(160,g160),(161,g161),(162,g162),(163,g163),(164,g164),(165,g165),(166,g166),(167,g167),(168,g168),(169,g169),(170,g170),(171,g171),(172,g172),(173,g173),(174,g174),(175,g175),(176,g176),(177,g177),(178,g178),(179,g179),(180,g180),(181,g181),(182,g182),(183,g183),(184,g184),(185,g185),(186,g186),(187,g187),(188,g188),(189,g189),(190,g190),(191,g191),(192,g192),(193,g193),(194,g194),(195,g195),(196,g196),(197,g197),(198,g198),(199,g199),(200,g200),(201,g201),(202,g202),(203,g203),(204,g204),(205,g205),(206,g206),(207,g207),(208,g208),(209,g209),(210,g210),(212,g212),(213,g213),(214,g214)]
def tbl:Tbl:=lk UA
def ctx:Ctx:=⟨lay,tbl⟩
@[go_sem] theorem ctx_L:ctx.L=lay:=rfl
@[go_sem] theorem ctx_T:ctx.T=tbl:=rfl
attribute [go_sem] y1 y2 y3 y4 y5 y6 y7 y8 y9 y10 y11 y12 y13 y22 y23 y24 y25 y27 y29 y30 y31 y32 y33 y35 y36 y44 y45 y46 y47 y49 y53 y55 y62 y67 y94 y99 fY qB qA pZ pY pX pW pV pU pT pS pR pQ aQ pP pN pM pL pK pJ pI pH
@[go_sem] theorem lay_1:lay 1=some y1:=rfl
@[go_sem] theorem lay_2:lay 2=some y2:=rfl
@[go_sem] theorem lay_3:lay 3=some y3:=rfl
@[go_sem] theorem lay_4:lay 4=some y4:=rfl
@[go_sem] theorem lay_5:lay 5=some y5:=rfl
@[go_sem] theorem lay_6:lay 6=some y6:=rfl
@[go_sem] theorem lay_7:lay 7=some y7:=rfl
@[go_sem] theorem lay_8:lay 8=some y8:=rfl
@[go_sem] theorem lay_9:lay 9=some y9:=rfl
@[go_sem] theorem lay_10:lay 10=some y10:=rfl
@[go_sem] theorem lay_11:lay 11=some y11:=rfl
@[go_sem] theorem lay_12:lay 12=some y12:=rfl
@[go_sem] theorem lay_13:lay 13=some y13:=rfl
@[go_sem] theorem lay_22:lay 22=some y22:=rfl
@[go_sem] theorem lay_23:lay 23=some y23:=rfl
@[go_sem] theorem lay_24:lay 24=some y24:=rfl
@[go_sem] theorem lay_25:lay 25=some y25:=rfl
@[go_sem] theorem lay_27:lay 27=some y27:=rfl
@[go_sem] theorem lay_29:lay 29=some y29:=rfl
@[go_sem] theorem lay_30:lay 30=some y30:=rfl
@[go_sem] theorem lay_31:lay 31=some y31:=rfl
@[go_sem] theorem lay_32:lay 32=some y32:=rfl
@[go_sem] theorem lay_33:lay 33=some y33:=rfl
@[go_sem] theorem lay_35:lay 35=some y35:=rfl
@[go_sem] theorem lay_36:lay 36=some y36:=rfl
@[go_sem] theorem lay_44:lay 44=some y44:=rfl
@[go_sem] theorem lay_45:lay 45=some y45:=rfl
@[go_sem] theorem lay_46:lay 46=some y46:=rfl
@[go_sem] theorem lay_47:lay 47=some y47:=rfl
@[go_sem] theorem lay_49:lay 49=some y49:=rfl
@[go_sem] theorem lay_53:lay 53=some y53:=rfl
@[go_sem] theorem lay_55:lay 55=some y55:=rfl
@[go_sem] theorem lay_62:lay 62=some y62:=rfl
@[go_sem] theorem lay_67:lay 67=some y67:=rfl
@[go_sem] theorem lay_94:lay 94=some y94:=rfl
@[go_sem] theorem lay_99:lay 99=some y99:=rfl
@[go_sem] theorem lay_106:lay 106=some fY:=rfl
@[go_sem] theorem lay_111:lay 111=some qB:=rfl
@[go_sem] theorem lay_113:lay 113=some qA:=rfl
@[go_sem] theorem lay_116:lay 116=some pZ:=rfl
@[go_sem] theorem lay_118:lay 118=some pY:=rfl
@[go_sem] theorem lay_119:lay 119=some pX:=rfl
@[go_sem] theorem lay_121:lay 121=some pW:=rfl
@[go_sem] theorem lay_122:lay 122=some pV:=rfl
@[go_sem] theorem lay_124:lay 124=some pU:=rfl
@[go_sem] theorem lay_128:lay 128=some pT:=rfl
@[go_sem] theorem lay_130:lay 130=some pS:=rfl
@[go_sem] theorem lay_132:lay 132=some pR:=rfl
@[go_sem] theorem lay_134:lay 134=some pQ:=rfl
@[go_sem] theorem lay_162:lay 162=some aQ:=rfl
@[go_sem] theorem lay_163:lay 163=some pP:=rfl
@[go_sem] theorem lay_165:lay 165=some pN:=rfl
@[go_sem] theorem lay_169:lay 169=some pM:=rfl
@[go_sem] theorem lay_171:lay 171=some pL:=rfl
@[go_sem] theorem lay_173:lay 173=some pK:=rfl
@[go_sem] theorem lay_202:lay 202=some pJ:=rfl
@[go_sem] theorem lay_229:lay 229=some pI:=rfl
@[go_sem] theorem lay_230:lay 230=some pH:=rfl
@[go_sem] theorem k3:Ak tbl 3 []:=fun _ _ _ _ _ _=>rfl
@[go_sem] theorem k4:Ak tbl 4 []:=fun _ _ _ _ _ _=>rfl
@[go_sem] theorem k5:Ak tbl 5 []:=fun _ _ _ _ _ _=>rfl
@[go_sem] theorem k6:Ak tbl 6 []:=fun _ _ _ _ _ _=>rfl
@[go_sem] theorem k7:Ak tbl 7 []:=fun _ _ _ _ _ _=>rfl
@[go_sem] theorem k8:Ak tbl 8 []:=fun _ _ _ _ _ _=>rfl
@[go_sem] theorem k9:Ak tbl 9 []:=fun _ _ _ _ _ _=>rfl
@[go_sem] theorem k10:Ak tbl 10 []:=fun _ _ _ _ _ _=>rfl
@[go_sem] theorem k11:Ak tbl 11 []:=fun _ _ _ _ _ _=>rfl
@[go_sem] theorem k12:Ak tbl 12 []:=fun _ _ _ _ _ _=>rfl
@[go_sem] theorem k13:Ak tbl 13 []:=fun _ _ _ _ _ _=>rfl
@[go_sem] theorem k14:Ak tbl 14 []:=fun _ _ _ _ _ _=>rfl
@[go_sem] theorem k15:Ak tbl 15 []:=fun _ _ _ _ _ _=>rfl
@[go_sem] theorem k16:Ak tbl 16 []:=fun _ _ _ _ _ _=>rfl
@[go_sem] theorem k17:Ak tbl 17 []:=fun _ _ _ _ _ _=>rfl
@[go_sem] theorem k18:Ak tbl 18 []:=fun _ _ _ _ _ _=>rfl
@[go_sem] theorem k19:Ak tbl 19 []:=fun _ _ _ _ _ _=>rfl
@[go_sem] theorem k20:Ak tbl 20 []:=fun _ _ _ _ _ _=>rfl
@[go_sem] theorem k21:Ak tbl 21 []:=fun _ _ _ _ _ _=>rfl
@[go_sem] theorem k22:Ak tbl 22 []:=fun _ _ _ _ _ _=>rfl
@[go_sem] theorem k23:Ak tbl 23 []:=fun _ _ _ _ _ _=>rfl
@[go_sem] theorem k24:Ak tbl 24 []:=fun _ _ _ _ _ _=>rfl
@[go_sem] theorem k25:Ak tbl 25 []:=fun _ _ _ _ _ _=>rfl
@[go_sem] theorem k26:Ak tbl 26 []:=fun _ _ _ _ _ _=>rfl
@[go_sem] theorem k27:Ak tbl 27 []:=fun _ _ _ _ _ _=>rfl
@[go_sem] theorem k28:Ak tbl 28 []:=fun _ _ _ _ _ _=>rfl
@[go_sem] theorem k29:Ak tbl 29 []:=fun _ _ _ _ _ _=>rfl
@[go_sem] theorem k30:Ak tbl 30 []:=fun _ _ _ _ _ _=>rfl
@[go_sem] theorem k31:Ak tbl 31 []:=fun _ _ _ _ _ _=>rfl
@[go_sem] theorem k32:Ak tbl 32 []:=fun _ _ _ _ _ _=>rfl
@[go_sem] theorem k33:Ak tbl 33 []:=fun _ _ _ _ _ _=>rfl
@[go_sem] theorem k34:Ak tbl 34 []:=fun _ _ _ _ _ _=>rfl
@[go_sem] theorem k35:Ak tbl 35 []:=fun _ _ _ _ _ _=>rfl
@[go_sem] theorem k36:Ak tbl 36 [true]:=fun _ _ _ _ _ _=>rfl
@[go_sem] theorem k37:Ak tbl 37 [true]:=fun _ _ _ _ _ _=>rfl
@[go_sem] theorem k40:Ak tbl 40 []:=fun _ _ _ _ _ _=>rfl
@[go_sem] theorem k41:Ak tbl 41 []:=fun _ _ _ _ _ _=>rfl
@[go_sem] theorem k42:Ak tbl 42 []:=fun _ _ _ _ _ _=>rfl
@[go_sem] theorem k43:Ak tbl 43 []:=fun _ _ _ _ _ _=>rfl
@[go_sem] theorem k44:Ak tbl 44 []:=fun _ _ _ _ _ _=>rfl
@[go_sem] theorem k45:Ak tbl 45 []:=fun _ _ _ _ _ _=>rfl
@[go_sem] theorem k46:Ak tbl 46 []:=fun _ _ _ _ _ _=>rfl
@[go_sem] theorem k47:Ak tbl 47 []:=fun _ _ _ _ _ _=>rfl
@[go_sem] theorem k48:Ak tbl 48 []:=fun _ _ _ _ _ _=>rfl
@[go_sem] theorem k49:Ak tbl 49 []:=fun _ _ _ _ _ _=>rfl
@[go_sem] theorem k50:Ak tbl 50 []:=fun _ _ _ _ _ _=>rfl
@[go_sem] theorem k51:Ak tbl 51 []:=fun _ _ _ _ _ _=>rfl
@[go_sem] theorem k52:Ak tbl 52 []:=fun _ _ _ _ _ _=>rfl
@[go_sem] theorem k53:Ak tbl 53 []:=fun _ _ _ _ _ _=>rfl
@[go_sem] theorem k54:Ak tbl 54 []:=fun _ _ _ _ _ _=>rfl
@[go_sem] theorem k55:Ak tbl 55 []:=fun _ _ _ _ _ _=>rfl
@[go_sem] theorem k56:Ak tbl 56 []:=fun _ _ _ _ _ _=>rfl
@[go_sem] theorem k57:Ak tbl 57 []:=fun _ _ _ _ _ _=>rfl
@[go_sem] theorem k58:Ak tbl 58 []:=fun _ _ _ _ _ _=>rfl
@[go_sem] theorem k59:Ak tbl 59 []:=fun _ _ _ _ _ _=>rfl
@[go_sem] theorem k60:Ak tbl 60 []:=fun _ _ _ _ _ _=>rfl
@[go_sem] theorem k61:Ak tbl 61 []:=fun _ _ _ _ _ _=>rfl
@[go_sem] theorem k62:Ak tbl 62 []:=fun _ _ _ _ _ _=>rfl
@[go_sem] theorem k63:Ak tbl 63 []:=fun _ _ _ _ _ _=>rfl
@[go_sem] theorem k64:Ak tbl 64 []:=fun _ _ _ _ _ _=>rfl
@[go_sem] theorem k65:Ak tbl 65 []:=fun _ _ _ _ _ _=>rfl
@[go_sem] theorem k66:Ak tbl 66 []:=fun _ _ _ _ _ _=>rfl
@[go_sem] theorem k67:Ak tbl 67 []:=fun _ _ _ _ _ _=>rfl
@[go_sem] theorem k68:Ak tbl 68 []:=fun _ _ _ _ _ _=>rfl
@[go_sem] theorem k69:Ak tbl 69 []:=fun _ _ _ _ _ _=>rfl
@[go_sem] theorem k70:Ak tbl 70 [true]:=fun _ _ _ _ _ _=>rfl
@[go_sem] theorem k71:Ak tbl 71 []:=fun _ _ _ _ _ _=>rfl
@[go_sem] theorem k72:Ak tbl 72 []:=fun _ _ _ _ _ _=>rfl
@[go_sem] theorem k73:Ak tbl 73 []:=fun _ _ _ _ _ _=>rfl
@[go_sem] theorem k74:Ak tbl 74 []:=fun _ _ _ _ _ _=>rfl
@[go_sem] theorem k75:Ak tbl 75 []:=fun _ _ _ _ _ _=>rfl
@[go_sem] theorem k76:Ak tbl 76 []:=fun _ _ _ _ _ _=>rfl
@[go_sem] theorem k77:Ak tbl 77 []:=fun _ _ _ _ _ _=>rfl
@[go_sem] theorem k78:Sa tbl 78 4 32:=fun _ _ _ _=>rfl
@[go_sem] theorem k79:Ak tbl 79 []:=fun _ _ _ _ _ _=>rfl
@[go_sem] theorem k80:Ak tbl 80 []:=fun _ _ _ _ _ _=>rfl
@[go_sem] theorem k81:Ak tbl 81 []:=fun _ _ _ _ _ _=>rfl
@[go_sem] theorem k82:Ak tbl 82 []:=fun _ _ _ _ _ _=>rfl
@[go_sem] theorem k83:Ak tbl 83 [true]:=fun _ _ _ _ _ _=>rfl
@[go_sem] theorem k84:Ak tbl 84 [true]:=fun _ _ _ _ _ _=>rfl
@[go_sem] theorem k85:Ak tbl 85 [true]:=fun _ _ _ _ _ _=>rfl
@[go_sem] theorem k86:Ak tbl 86 [true]:=fun _ _ _ _ _ _=>rfl
@[go_sem] theorem k87:Ak tbl 87 [true]:=fun _ _ _ _ _ _=>rfl
@[go_sem] theorem k88:Ak tbl 88 [true]:=fun _ _ _ _ _ _=>rfl
@[go_sem] theorem k89:Ak tbl 89 []:=fun _ _ _ _ _ _=>rfl
@[go_sem] theorem k92:Ak tbl 92 []:=fun _ _ _ _ _ _=>rfl
@[go_sem] theorem k93:Ak tbl 93 []:=fun _ _ _ _ _ _=>rfl
@[go_sem] theorem k94:Ak tbl 94 []:=fun _ _ _ _ _ _=>rfl
@[go_sem] theorem k95:Ak tbl 95 []:=fun _ _ _ _ _ _=>rfl
@[go_sem] theorem k96:Ak tbl 96 []:=fun _ _ _ _ _ _=>rfl
@[go_sem] theorem k97:Ak tbl 97 []:=fun _ _ _ _ _ _=>rfl
@[go_sem] theorem k98:Ak tbl 98 []:=fun _ _ _ _ _ _=>rfl
@[go_sem] theorem k99:Ak tbl 99 []:=fun _ _ _ _ _ _=>rfl
@[go_sem] theorem k100:Sa tbl 100 17 184:=fun _ _ _ _=>rfl
@[go_sem] theorem k101:Sa tbl 101 4 32:=fun _ _ _ _=>rfl
@[go_sem] theorem k102:Ak tbl 102 []:=fun _ _ _ _ _ _=>rfl
@[go_sem] theorem k103:Ak tbl 103 []:=fun _ _ _ _ _ _=>rfl
@[go_sem] theorem k104:Ak tbl 104 []:=fun _ _ _ _ _ _=>rfl
@[go_sem] theorem k105:Ak tbl 105 []:=fun _ _ _ _ _ _=>rfl
@[go_sem] theorem k106:Ak tbl 106 []:=fun _ _ _ _ _ _=>rfl
@[go_sem] theorem k107:Ak tbl 107 []:=fun _ _ _ _ _ _=>rfl
@[go_sem] theorem k108:aP tbl 108:=fun _ _ _ _ _ _=>rfl
@[go_sem] theorem k109:Ak tbl 109 []:=fun _ _ _ _ _ _=>rfl
@[go_sem] theorem k110:Ak tbl 110 []:=fun _ _ _ _ _ _=>rfl
@[go_sem] theorem k111:Ak tbl 111 []:=fun _ _ _ _ _ _=>rfl
@[go_sem] theorem k112:Ak tbl 112 []:=fun _ _ _ _ _ _=>rfl
@[go_sem] theorem k113:Ak tbl 113 []:=fun _ _ _ _ _ _=>rfl
@[go_sem] theorem k114:Ak tbl 114 []:=fun _ _ _ _ _ _=>rfl
@[go_sem] theorem k115:Ak tbl 115 []:=fun _ _ _ _ _ _=>rfl
@[go_sem] theorem k116:Ak tbl 116 []:=fun _ _ _ _ _ _=>rfl
@[go_sem] theorem k117:Ak tbl 117 []:=fun _ _ _ _ _ _=>rfl
@[go_sem] theorem k118:Ak tbl 118 []:=fun _ _ _ _ _ _=>rfl
@[go_sem] theorem k119:Ak tbl 119 []:=fun _ _ _ _ _ _=>rfl
@[go_sem] theorem k120:Ak tbl 120 []:=fun _ _ _ _ _ _=>rfl
@[go_sem] theorem k121:Ak tbl 121 []:=fun _ _ _ _ _ _=>rfl
@[go_sem] theorem k122:Ak tbl 122 []:=fun _ _ _ _ _ _=>rfl
@[go_sem] theorem k123:Ak tbl 123 []:=fun _ _ _ _ _ _=>rfl
@[go_sem] theorem k124:Ak tbl 124 []:=fun _ _ _ _ _ _=>rfl
@[go_sem] theorem k125:Ak tbl 125 []:=fun _ _ _ _ _ _=>rfl
@[go_sem] theorem k126:Ak tbl 126 []:=fun _ _ _ _ _ _=>rfl
@[go_sem] theorem k127:Ak tbl 127 []:=fun _ _ _ _ _ _=>rfl
@[go_sem] theorem k128:Ak tbl 128 []:=fun _ _ _ _ _ _=>rfl
@[go_sem] theorem k129:Ak tbl 129 []:=fun _ _ _ _ _ _=>rfl
@[go_sem] theorem k130:Ak tbl 130 []:=fun _ _ _ _ _ _=>rfl
@[go_sem] theorem k131:Ak tbl 131 []:=fun _ _ _ _ _ _=>rfl
@[go_sem] theorem k132:Ak tbl 132 []:=fun _ _ _ _ _ _=>rfl
@[go_sem] theorem k133:Ak tbl 133 []:=fun _ _ _ _ _ _=>rfl
@[go_sem] theorem k134:Ak tbl 134 []:=fun _ _ _ _ _ _=>rfl
@[go_sem] theorem k135:Ak tbl 135 []:=fun _ _ _ _ _ _=>rfl
@[go_sem] theorem k136:Ak tbl 136 []:=fun _ _ _ _ _ _=>rfl
@[go_sem] theorem k137:Ak tbl 137 [true]:=fun _ _ _ _ _ _=>rfl
@[go_sem] theorem k138:Ak tbl 138 [true]:=fun _ _ _ _ _ _=>rfl
@[go_sem] theorem k139:Ak tbl 139 [true]:=fun _ _ _ _ _ _=>rfl
@[go_sem] theorem k140:Ak tbl 140 []:=fun _ _ _ _ _ _=>rfl
@[go_sem] theorem k141:Ak tbl 141 []:=fun _ _ _ _ _ _=>rfl
@[go_sem] theorem k142:Ak tbl 142 []:=fun _ _ _ _ _ _=>rfl
@[go_sem] theorem k143:Ak tbl 143 []:=fun _ _ _ _ _ _=>rfl
@[go_sem] theorem k144:Ak tbl 144 []:=fun _ _ _ _ _ _=>rfl
@[go_sem] theorem k145:Ak tbl 145 []:=fun _ _ _ _ _ _=>rfl
@[go_sem] theorem k146:Sa tbl 146 3 24:=fun _ _ _ _=>rfl
@[go_sem] theorem k147:Sa tbl 147 3 24:=fun _ _ _ _=>rfl
@[go_sem] theorem k148:Sa tbl 148 3 24:=fun _ _ _ _=>rfl
@[go_sem] theorem k149:Ak tbl 149 []:=fun _ _ _ _ _ _=>rfl
@[go_sem] theorem k150:Ak tbl 150 []:=fun _ _ _ _ _ _=>rfl
@[go_sem] theorem k151:Ak tbl 151 []:=fun _ _ _ _ _ _=>rfl
@[go_sem] theorem k152:Ak tbl 152 []:=fun _ _ _ _ _ _=>rfl
@[go_sem] theorem k153:Ak tbl 153 []:=fun _ _ _ _ _ _=>rfl
@[go_sem] theorem k154:Ak tbl 154 []:=fun _ _ _ _ _ _=>rfl
@[go_sem] theorem k155:Ak tbl 155 []:=fun _ _ _ _ _ _=>rfl
@[go_sem] theorem k156:Ak tbl 156 []:=fun _ _ _ _ _ _=>rfl
@[go_sem] theorem k157:Ak tbl 157 []:=fun _ _ _ _ _ _=>rfl
@[go_sem] theorem k158:Ak tbl 158 []:=fun _ _ _ _ _ _=>rfl
@[go_sem] theorem k159:Ak tbl 159 []:=fun _ _ _ _ _ _=>rfl
@[go_sem] theorem k160:Ak tbl 160 []:=fun _ _ _ _ _ _=>rfl
@[go_sem] theorem k161:Ak tbl 161 []:=fun _ _ _ _ _ _=>rfl
@[go_sem] theorem k162:Ak tbl 162 []:=fun _ _ _ _ _ _=>rfl
@[go_sem] theorem k163:aP tbl 163:=fun _ _ _ _ _ _=>rfl
@[go_sem] theorem k164:Ak tbl 164 []:=fun _ _ _ _ _ _=>rfl
@[go_sem] theorem k165:Ak tbl 165 []:=fun _ _ _ _ _ _=>rfl
@[go_sem] theorem k166:Ak tbl 166 []:=fun _ _ _ _ _ _=>rfl
@[go_sem] theorem k167:Ak tbl 167 []:=fun _ _ _ _ _ _=>rfl
@[go_sem] theorem k168:Ak tbl 168 []:=fun _ _ _ _ _ _=>rfl
@[go_sem] theorem k169:Ak tbl 169 []:=fun _ _ _ _ _ _=>rfl
@[go_sem] theorem k170:Ak tbl 170 []:=fun _ _ _ _ _ _=>rfl
@[go_sem] theorem k171:Ak tbl 171 []:=fun _ _ _ _ _ _=>rfl
@[go_sem] theorem k172:Ak tbl 172 []:=fun _ _ _ _ _ _=>rfl
@[go_sem] theorem k173:Ak tbl 173 []:=fun _ _ _ _ _ _=>rfl
@[go_sem] theorem k174:Ak tbl 174 []:=fun _ _ _ _ _ _=>rfl
@[go_sem] theorem k175:Ak tbl 175 []:=fun _ _ _ _ _ _=>rfl
@[go_sem] theorem k176:Ak tbl 176 []:=fun _ _ _ _ _ _=>rfl
@[go_sem] theorem k177:Ak tbl 177 []:=fun _ _ _ _ _ _=>rfl
@[go_sem] theorem k178:Ak tbl 178 []:=fun _ _ _ _ _ _=>rfl
@[go_sem] theorem k179:Ak tbl 179 []:=fun _ _ _ _ _ _=>rfl
@[go_sem] theorem k180:Ak tbl 180 []:=fun _ _ _ _ _ _=>rfl
@[go_sem] theorem k181:Ak tbl 181 []:=fun _ _ _ _ _ _=>rfl
@[go_sem] theorem k182:Ak tbl 182 []:=fun _ _ _ _ _ _=>rfl
@[go_sem] theorem k183:Ak tbl 183 []:=fun _ _ _ _ _ _=>rfl
@[go_sem] theorem k184:Ak tbl 184 []:=fun _ _ _ _ _ _=>rfl
@[go_sem] theorem k185:Ak tbl 185 []:=fun _ _ _ _ _ _=>rfl
@[go_sem] theorem k186:Ak tbl 186 []:=fun _ _ _ _ _ _=>rfl
@[go_sem] theorem k187:Ak tbl 187 []:=fun _ _ _ _ _ _=>rfl
@[go_sem] theorem k188:Ak tbl 188 []:=fun _ _ _ _ _ _=>rfl
@[go_sem] theorem k189:Ak tbl 189 []:=fun _ _ _ _ _ _=>rfl
@[go_sem] theorem k190:Ak tbl 190 []:=fun _ _ _ _ _ _=>rfl
@[go_sem] theorem k191:Ak tbl 191 []:=fun _ _ _ _ _ _=>rfl
@[go_sem] theorem k192:Ak tbl 192 []:=fun _ _ _ _ _ _=>rfl
@[go_sem] theorem k193:aP tbl 193:=fun _ _ _ _ _ _=>rfl
@[go_sem] theorem k194:Ak tbl 194 []:=fun _ _ _ _ _ _=>rfl
@[go_sem] theorem k195:Ak tbl 195 []:=fun _ _ _ _ _ _=>rfl
@[go_sem] theorem k196:Ak tbl 196 []:=fun _ _ _ _ _ _=>rfl
@[go_sem] theorem k197:Ak tbl 197 []:=fun _ _ _ _ _ _=>rfl
@[go_sem] theorem k198:Ak tbl 198 []:=fun _ _ _ _ _ _=>rfl
@[go_sem] theorem k199:Ak tbl 199 []:=fun _ _ _ _ _ _=>rfl
@[go_sem] theorem k200:Ak tbl 200 []:=fun _ _ _ _ _ _=>rfl
@[go_sem] theorem k201:Ak tbl 201 []:=fun _ _ _ _ _ _=>rfl
@[go_sem] theorem k202:Ak tbl 202 []:=fun _ _ _ _ _ _=>rfl
@[go_sem] theorem k203:Ak tbl 203 []:=fun _ _ _ _ _ _=>rfl
@[go_sem] theorem k204:Ak tbl 204 []:=fun _ _ _ _ _ _=>rfl
@[go_sem] theorem k205:Ak tbl 205 []:=fun _ _ _ _ _ _=>rfl
@[go_sem] theorem k206:Ak tbl 206 []:=fun _ _ _ _ _ _=>rfl
@[go_sem] theorem k207:a8p tbl 207 3 24:=fun _ _ _ _ _ _=>rfl
@[go_sem] theorem k208:aP tbl 208:=fun _ _ _ _ _ _=>rfl
@[go_sem] theorem k209:Ak tbl 209 []:=fun _ _ _ _ _ _=>rfl
@[go_sem] theorem k210:Ak tbl 210 []:=fun _ _ _ _ _ _=>rfl
@[go_sem] theorem k212:Ak tbl 212 []:=fun _ _ _ _ _ _=>rfl
@[go_sem] theorem k213:Ak tbl 213 []:=fun _ _ _ _ _ _=>rfl
@[go_sem] theorem k214:Ak tbl 214 []:=fun _ _ _ _ _ _=>rfl
section
variable (O:Orc) (P:FuncId→List V→Option V) (k:Nat) (s:St) (q:Out→St→Option Ans) (Q:V→Hp→Nat→Prop)
@[go_sem ↓] theorem v3_1:Fin (evC ctx O P k wN s q) Q=GU wN ctx P s q Q ⟨⟩ ⟨⟩:=Bc _ _ _ _ _ _ _ (by kernel_rfl)
@[go_sem ↓] theorem v3_2:Fin (evC ctx O P k wM s q) Q=GU wM ctx P s q Q ⟨⟩ ⟨⟩:=Bc _ _ _ _ _ _ _ (by kernel_rfl)
@[go_sem ↓] theorem v3_3:Fin (evC ctx O P k wL s q) Q=GU wL ctx P s q Q ⟨⟩ ⟨⟩:=Bc _ _ _ _ _ _ _ (by kernel_rfl)
@[go_sem ↓] theorem v3_4:Fin (evC ctx O P k wK s q) Q=GU wK ctx P s q Q ⟨⟩ ⟨⟩:=Bc _ _ _ _ _ _ _ (by kernel_rfl)
@[go_sem ↓] theorem v3_5:Fin (evC ctx O P k wJ s q) Q=GU wJ ctx P s q Q ⟨⟩ ⟨⟩:=Bc _ _ _ _ _ _ _ (by kernel_rfl)
@[go_sem ↓] theorem v4_1:Fin (evC ctx O P k wI s q) Q=GU wI ctx P s q Q ⟨⟩ ⟨⟩:=Bc _ _ _ _ _ _ _ (by kernel_rfl)
@[go_sem ↓] theorem v4_2:Fin (evC ctx O P k wH s q) Q=GU wH ctx P s q Q ⟨⟩ ⟨⟩:=Bc _ _ _ _ _ _ _ (by kernel_rfl)
@[go_sem ↓] theorem v4_3:Fin (evC ctx O P k wG s q) Q=GU wG ctx P s q Q ⟨⟩ ⟨⟩:=Bc _ _ _ _ _ _ _ (by kernel_rfl)
@[go_sem ↓] theorem v4_4:Fin (evC ctx O P k wF s q) Q=GU wF ctx P s q Q ⟨⟩ ⟨⟩:=Bc _ _ _ _ _ _ _ (by kernel_rfl)
@[go_sem ↓] theorem v5_1:Fin (evC ctx O P k wE s q) Q=GU wE ctx P s q Q ⟨⟩ ⟨⟩:=Bc _ _ _ _ _ _ _ (by kernel_rfl)
@[go_sem ↓] theorem v5_2:Fin (evC ctx O P k wD s q) Q=GU wD ctx P s q Q ⟨⟩ ⟨⟩:=Bc _ _ _ _ _ _ _ (by kernel_rfl)
@[go_sem ↓] theorem v5_3:Fin (evC ctx O P k wC s q) Q=GU wC ctx P s q Q ⟨⟩ ⟨⟩:=Bc _ _ _ _ _ _ _ (by kernel_rfl)
@[go_sem ↓] theorem v6_1:Fin (evC ctx O P k wB s q) Q=GU wB ctx P s q Q ⟨⟩ ⟨⟩:=Bc _ _ _ _ _ _ _ (by kernel_rfl)
@[go_sem ↓] theorem v7_1:Fin (evC ctx O P k wA s q) Q=GU wA ctx P s q Q ⟨⟩ ⟨⟩:=Bc _ _ _ _ _ _ _ (by kernel_rfl)
@[go_sem ↓] theorem v7_2:Fin (evC ctx O P k vZ s q) Q=GU vZ ctx P s q Q ⟨⟩ ⟨⟩:=Bc _ _ _ _ _ _ _ (by kernel_rfl)
@[go_sem ↓] theorem v9_1:Fin (evC ctx O P k vY s q) Q=GU vY ctx P s q Q ⟨⟩ ⟨⟩:=Bc _ _ _ _ _ _ _ (by kernel_rfl)
@[go_sem ↓] theorem v9_2:Fin (evC ctx O P k vX s q) Q=GU vX ctx P s q Q ⟨⟩ ⟨⟩:=Bc _ _ _ _ _ _ _ (by kernel_rfl)
@[go_sem ↓] theorem v10_1:Fin (evC ctx O P k aF s q) Q=GU aF ctx P s q Q ⟨⟩ ⟨⟩:=Bc _ _ _ _ _ _ _ (by kernel_rfl)
@[go_sem ↓] theorem v12_1:Fin (evC ctx O P k aE s q) Q=GU aE ctx P s q Q ⟨⟩ ⟨⟩:=Bc _ _ _ _ _ _ _ (by kernel_rfl)
@[go_sem ↓] theorem v19_1:Fin (evC ctx O P k aD s q) Q=GU aD ctx P s q Q ⟨⟩ ⟨⟩:=Bc _ _ _ _ _ _ _ (by kernel_rfl)
@[go_sem ↓] theorem v21_1:Fin (evC ctx O P k aC s q) Q=GU aC ctx P s q Q ⟨⟩ ⟨⟩:=Bc _ _ _ _ _ _ _ (by kernel_rfl)
@[go_sem ↓] theorem v21_2:Fin (evC ctx O P k aB s q) Q=GU aB ctx P s q Q ⟨⟩ ⟨⟩:=Bc _ _ _ _ _ _ _ (by kernel_rfl)
@[go_sem ↓] theorem v21_3:Fin (evC ctx O P k aA s q) Q=GU aA ctx P s q Q ⟨⟩ ⟨⟩:=Bc _ _ _ _ _ _ _ (by kernel_rfl)
@[go_sem ↓] theorem v23_1:Fin (evC ctx O P k ZZ s q) Q=GU ZZ ctx P s q Q ⟨⟩ ⟨⟩:=Bc _ _ _ _ _ _ _ (by kernel_rfl)
@[go_sem ↓] theorem v24_1:Fin (evC ctx O P k ZY s q) Q=GU ZY ctx P s q Q ⟨⟩ ⟨⟩:=Bc _ _ _ _ _ _ _ (by kernel_rfl)
@[go_sem ↓] theorem v28_1:Fin (evC ctx O P k ZX s q) Q=GU ZX ctx P s q Q ⟨⟩ ⟨⟩:=Bc _ _ _ _ _ _ _ (by kernel_rfl)
@[go_sem ↓] theorem v28_2:Fin (evC ctx O P k ZW s q) Q=GU ZW ctx P s q Q ⟨⟩ ⟨⟩:=Bc _ _ _ _ _ _ _ (by kernel_rfl)
@[go_sem ↓] theorem v29_1:Fin (evC ctx O P k ZV s q) Q=GU ZV ctx P s q Q ⟨⟩ ⟨⟩:=Bc _ _ _ _ _ _ _ (by kernel_rfl)
@[go_sem ↓] theorem v30_1:Fin (evC ctx O P k ZU s q) Q=GU ZU ctx P s q Q ⟨⟩ ⟨⟩:=Bc _ _ _ _ _ _ _ (by kernel_rfl)
@[go_sem ↓] theorem v33_1:Fin (evC ctx O P k ZT s q) Q=GU ZT ctx P s q Q ⟨⟩ ⟨⟩:=Bc _ _ _ _ _ _ _ (by kernel_rfl)
@[go_sem ↓] theorem v34_1:Fin (evC ctx O P k ZS s q) Q=GU ZS ctx P s q Q ⟨⟩ ⟨⟩:=Bc _ _ _ _ _ _ _ (by kernel_rfl)
@[go_sem ↓] theorem v34_2:Fin (evC ctx O P k ZR s q) Q=GU ZR ctx P s q Q ⟨⟩ ⟨⟩:=Bc _ _ _ _ _ _ _ (by kernel_rfl)
@[go_sem ↓] theorem v36_1:Fin (evC ctx O P k ZQ s q) Q=GU ZQ ctx P s q Q ⟨⟩ ⟨⟩:=Bc _ _ _ _ _ _ _ (by kernel_rfl)
@[go_sem ↓] theorem v37_1:Fin (evC ctx O P k ZP s q) Q=GU ZP ctx P s q Q ⟨⟩ ⟨⟩:=Bc _ _ _ _ _ _ _ (by kernel_rfl)
@[go_sem ↓] theorem v44_1:Fin (evC ctx O P k ZO s q) Q=GU ZO ctx P s q Q ⟨⟩ ⟨⟩:=Bc _ _ _ _ _ _ _ (by kernel_rfl)
@[go_sem ↓] theorem v47_1:Fin (evC ctx O P k ZN s q) Q=GU ZN ctx P s q Q ⟨⟩ ⟨⟩:=Bc _ _ _ _ _ _ _ (by kernel_rfl)
@[go_sem ↓] theorem v48_1:Fin (evC ctx O P k ZM s q) Q=GU ZM ctx P s q Q ⟨⟩ ⟨⟩:=Bc _ _ _ _ _ _ _ (by kernel_rfl)
@[go_sem ↓] theorem v49_1:Fin (evC ctx O P k ZL s q) Q=GU ZL ctx P s q Q ⟨⟩ ⟨⟩:=Bc _ _ _ _ _ _ _ (by kernel_rfl)
@[go_sem ↓] theorem v49_2:Fin (evC ctx O P k ZK s q) Q=GU ZK ctx P s q Q ⟨⟩ ⟨⟩:=Bc _ _ _ _ _ _ _ (by kernel_rfl)
@[go_sem ↓] theorem v53_1:Fin (evC ctx O P k ZJ s q) Q=GU ZJ ctx P s q Q ⟨⟩ ⟨⟩:=Bc _ _ _ _ _ _ _ (by kernel_rfl)
@[go_sem ↓] theorem v53_2:Fin (evC ctx O P k ZI s q) Q=GU ZI ctx P s q Q ⟨⟩ ⟨⟩:=Bc _ _ _ _ _ _ _ (by kernel_rfl)
@[go_sem ↓] theorem v54_1:Fin (evC ctx O P k ZH s q) Q=GU ZH ctx P s q Q ⟨⟩ ⟨⟩:=Bc _ _ _ _ _ _ _ (by kernel_rfl)
@[go_sem ↓] theorem v55_1:Fin (evC ctx O P k ZG s q) Q=GU ZG ctx P s q Q ⟨⟩ ⟨⟩:=Bc _ _ _ _ _ _ _ (by kernel_rfl)
@[go_sem ↓] theorem v56_1:Fin (evC ctx O P k ZF s q) Q=GU ZF ctx P s q Q ⟨⟩ ⟨⟩:=Bc _ _ _ _ _ _ _ (by kernel_rfl)
@[go_sem ↓] theorem v57_1:Fin (evC ctx O P k ZE s q) Q=GU ZE ctx P s q Q ⟨⟩ ⟨⟩:=Bc _ _ _ _ _ _ _ (by kernel_rfl)
@[go_sem ↓] theorem v79_1:Fin (evC ctx O P k ZD s q) Q=GU ZD ctx P s q Q ⟨⟩ ⟨⟩:=Bc _ _ _ _ _ _ _ (by kernel_rfl)
@[go_sem ↓] theorem v80_1:Fin (evC ctx O P k ZC s q) Q=GU ZC ctx P s q Q ⟨⟩ ⟨⟩:=Bc _ _ _ _ _ _ _ (by kernel_rfl)
@[go_sem ↓] theorem v93_1:Fin (evC ctx O P k ZB s q) Q=GU ZB ctx P s q Q ⟨⟩ ⟨⟩:=Bc _ _ _ _ _ _ _ (by kernel_rfl)
@[go_sem ↓] theorem v94_1:Fin (evC ctx O P k ZA s q) Q=GU ZA ctx P s q Q ⟨⟩ ⟨⟩:=Bc _ _ _ _ _ _ _ (by kernel_rfl)
@[go_sem ↓] theorem v95_1:Fin (evC ctx O P k Zz s q) Q=GU Zz ctx P s q Q ⟨⟩ ⟨⟩:=Bc _ _ _ _ _ _ _ (by kernel_rfl)
@[go_sem ↓] theorem v95_2:Fin (evC ctx O P k Zy s q) Q=GU Zy ctx P s q Q ⟨⟩ ⟨⟩:=Bc _ _ _ _ _ _ _ (by kernel_rfl)
@[go_sem ↓] theorem v98_1:Fin (evC ctx O P k Zx s q) Q=GU Zx ctx P s q Q ⟨⟩ ⟨⟩:=Bc _ _ _ _ _ _ _ (by kernel_rfl)
@[go_sem ↓] theorem v102_1:Fin (evC ctx O P k Ua s q) Q=GU Ua ctx P s q Q ⟨⟩ ⟨⟩:=Bc _ _ _ _ _ _ _ (by kernel_rfl)
@[go_sem ↓] theorem v103_1:Fin (evC ctx O P k TZ s q) Q=GU TZ ctx P s q Q ⟨⟩ ⟨⟩:=Bc _ _ _ _ _ _ _ (by kernel_rfl)
@[go_sem ↓] theorem v109_1:Fin (evC ctx O P k TY s q) Q=GU TY ctx P s q Q ⟨⟩ ⟨⟩:=Bc _ _ _ _ _ _ _ (by kernel_rfl)
@[go_sem ↓] theorem v109_2:Fin (evC ctx O P k TX s q) Q=GU TX ctx P s q Q ⟨⟩ ⟨⟩:=Bc _ _ _ _ _ _ _ (by kernel_rfl)
@[go_sem ↓] theorem v110_1:Fin (evC ctx O P k TW s q) Q=GU TW ctx P s q Q ⟨⟩ ⟨⟩:=Bc _ _ _ _ _ _ _ (by kernel_rfl)
@[go_sem ↓] theorem v110_2:Fin (evC ctx O P k TV s q) Q=GU TV ctx P s q Q ⟨⟩ ⟨⟩:=Bc _ _ _ _ _ _ _ (by kernel_rfl)
@[go_sem ↓] theorem v110_3:Fin (evC ctx O P k TU s q) Q=GU TU ctx P s q Q ⟨⟩ ⟨⟩:=Bc _ _ _ _ _ _ _ (by kernel_rfl)
@[go_sem ↓] theorem v110_4:Fin (evC ctx O P k TT s q) Q=GU TT ctx P s q Q ⟨⟩ ⟨⟩:=Bc _ _ _ _ _ _ _ (by kernel_rfl)
@[go_sem ↓] theorem v110_5:Fin (evC ctx O P k TS s q) Q=GU TS ctx P s q Q ⟨⟩ ⟨⟩:=Bc _ _ _ _ _ _ _ (by kernel_rfl)
@[go_sem ↓] theorem v111_1:Fin (evC ctx O P k TR s q) Q=GU TR ctx P s q Q ⟨⟩ ⟨⟩:=Bc _ _ _ _ _ _ _ (by kernel_rfl)
@[go_sem ↓] theorem v112_1:Fin (evC ctx O P k TQ s q) Q=GU TQ ctx P s q Q ⟨⟩ ⟨⟩:=Bc _ _ _ _ _ _ _ (by kernel_rfl)
@[go_sem ↓] theorem v113_1:Fin (evC ctx O P k TP s q) Q=GU TP ctx P s q Q ⟨⟩ ⟨⟩:=Bc _ _ _ _ _ _ _ (by kernel_rfl)
@[go_sem ↓] theorem v113_2:Fin (evC ctx O P k TO s q) Q=GU TO ctx P s q Q ⟨⟩ ⟨⟩:=Bc _ _ _ _ _ _ _ (by kernel_rfl)
@[go_sem ↓] theorem v113_3:Fin (evC ctx O P k TN s q) Q=GU TN ctx P s q Q ⟨⟩ ⟨⟩:=Bc _ _ _ _ _ _ _ (by kernel_rfl)
@[go_sem ↓] theorem v113_4:Fin (evC ctx O P k TM s q) Q=GU TM ctx P s q Q ⟨⟩ ⟨⟩:=Bc _ _ _ _ _ _ _ (by kernel_rfl)
@[go_sem ↓] theorem v113_5:Fin (evC ctx O P k TL s q) Q=GU TL ctx P s q Q ⟨⟩ ⟨⟩:=Bc _ _ _ _ _ _ _ (by kernel_rfl)
@[go_sem ↓] theorem v114_1:Fin (evC ctx O P k TK s q) Q=GU TK ctx P s q Q ⟨⟩ ⟨⟩:=Bc _ _ _ _ _ _ _ (by kernel_rfl)
@[go_sem ↓] theorem v121_1:Fin (evC ctx O P k TJ s q) Q=GU TJ ctx P s q Q ⟨⟩ ⟨⟩:=Bc _ _ _ _ _ _ _ (by kernel_rfl)
@[go_sem ↓] theorem v122_1:Fin (evC ctx O P k TH s q) Q=GU TH ctx P s q Q ⟨⟩ ⟨⟩:=Bc _ _ _ _ _ _ _ (by kernel_rfl)
@[go_sem ↓] theorem v140_1:Fin (evC ctx O P k TG s q) Q=GU TG ctx P s q Q ⟨⟩ ⟨⟩:=Bc _ _ _ _ _ _ _ (by kernel_rfl)
@[go_sem ↓] theorem v150_1:Fin (evC ctx O P k TF s q) Q=GU TF ctx P s q Q ⟨⟩ ⟨⟩:=Bc _ _ _ _ _ _ _ (by kernel_rfl)
@[go_sem ↓] theorem v152_1:Fin (evC ctx O P k TE s q) Q=GU TE ctx P s q Q ⟨⟩ ⟨⟩:=Bc _ _ _ _ _ _ _ (by kernel_rfl)
@[go_sem ↓] theorem v152_2:Fin (evC ctx O P k TD s q) Q=GU TD ctx P s q Q ⟨⟩ ⟨⟩:=Bc _ _ _ _ _ _ _ (by kernel_rfl)
@[go_sem ↓] theorem v152_3:Fin (evC ctx O P k TC s q) Q=GU TC ctx P s q Q ⟨⟩ ⟨⟩:=Bc _ _ _ _ _ _ _ (by kernel_rfl)
@[go_sem ↓] theorem v154_1:Fin (evC ctx O P k TB s q) Q=GU TB ctx P s q Q ⟨⟩ ⟨⟩:=Bc _ _ _ _ _ _ _ (by kernel_rfl)
@[go_sem ↓] theorem v154_2:Fin (evC ctx O P k TA s q) Q=GU TA ctx P s q Q ⟨⟩ ⟨⟩:=Bc _ _ _ _ _ _ _ (by kernel_rfl)
@[go_sem ↓] theorem v154_3:Fin (evC ctx O P k Tz s q) Q=GU Tz ctx P s q Q ⟨⟩ ⟨⟩:=Bc _ _ _ _ _ _ _ (by kernel_rfl)
@[go_sem ↓] theorem v154_4:Fin (evC ctx O P k Ty s q) Q=GU Ty ctx P s q Q ⟨⟩ ⟨⟩:=Bc _ _ _ _ _ _ _ (by kernel_rfl)
@[go_sem ↓] theorem v158_1:Fin (evC ctx O P k Tx s q) Q=GU Tx ctx P s q Q ⟨⟩ ⟨⟩:=Bc _ _ _ _ _ _ _ (by kernel_rfl)
@[go_sem ↓] theorem v160_1:Fin (evC ctx O P k Tw s q) Q=GU Tw ctx P s q Q ⟨⟩ ⟨⟩:=Bc _ _ _ _ _ _ _ (by kernel_rfl)
@[go_sem ↓] theorem v162_1:Fin (evC ctx O P k Tv s q) Q=GU Tv ctx P s q Q ⟨⟩ ⟨⟩:=Bc _ _ _ _ _ _ _ (by kernel_rfl)
@[go_sem ↓] theorem v163_1:Fin (evC ctx O P k Tu s q) Q=GU Tu ctx P s q Q ⟨⟩ ⟨⟩:=Bc _ _ _ _ _ _ _ (by kernel_rfl)
@[go_sem ↓] theorem v164_1:Fin (evC ctx O P k Tt s q) Q=GU Tt ctx P s q Q ⟨⟩ ⟨⟩:=Bc _ _ _ _ _ _ _ (by kernel_rfl)
@[go_sem ↓] theorem v180_1:Fin (evC ctx O P k Ts s q) Q=GU Ts ctx P s q Q ⟨⟩ ⟨⟩:=Bc _ _ _ _ _ _ _ (by kernel_rfl)
@[go_sem ↓] theorem v184_1:Fin (evC ctx O P k Tr s q) Q=GU Tr ctx P s q Q ⟨⟩ ⟨⟩:=Bc _ _ _ _ _ _ _ (by kernel_rfl)
@[go_sem ↓] theorem v184_2:Fin (evC ctx O P k Tq s q) Q=GU Tq ctx P s q Q ⟨⟩ ⟨⟩:=Bc _ _ _ _ _ _ _ (by kernel_rfl)
@[go_sem ↓] theorem v187_1:Fin (evC ctx O P k Tp s q) Q=GU Tp ctx P s q Q ⟨⟩ ⟨⟩:=Bc _ _ _ _ _ _ _ (by kernel_rfl)
@[go_sem ↓] theorem v188_1:Fin (evC ctx O P k To s q) Q=GU To ctx P s q Q ⟨⟩ ⟨⟩:=Bc _ _ _ _ _ _ _ (by kernel_rfl)
@[go_sem ↓] theorem v189_1:Fin (evC ctx O P k Tn s q) Q=GU Tn ctx P s q Q ⟨⟩ ⟨⟩:=Bc _ _ _ _ _ _ _ (by kernel_rfl)
@[go_sem ↓] theorem v189_2:Fin (evC ctx O P k Tm s q) Q=GU Tm ctx P s q Q ⟨⟩ ⟨⟩:=Bc _ _ _ _ _ _ _ (by kernel_rfl)
@[go_sem ↓] theorem v189_3:Fin (evC ctx O P k Tl s q) Q=GU Tl ctx P s q Q ⟨⟩ ⟨⟩:=Bc _ _ _ _ _ _ _ (by kernel_rfl)
@[go_sem ↓] theorem v189_4:Fin (evC ctx O P k Tk s q) Q=GU Tk ctx P s q Q ⟨⟩ ⟨⟩:=Bc _ _ _ _ _ _ _ (by kernel_rfl)
@[go_sem ↓] theorem v189_5:Fin (evC ctx O P k Tj s q) Q=GU Tj ctx P s q Q ⟨⟩ ⟨⟩:=Bc _ _ _ _ _ _ _ (by kernel_rfl)
@[go_sem ↓] theorem v189_6:Fin (evC ctx O P k Ti s q) Q=GU Ti ctx P s q Q ⟨⟩ ⟨⟩:=Bc _ _ _ _ _ _ _ (by kernel_rfl)
@[go_sem ↓] theorem v192_1:Fin (evC ctx O P k Th s q) Q=GU Th ctx P s q Q ⟨⟩ ⟨⟩:=Bc _ _ _ _ _ _ _ (by kernel_rfl)
@[go_sem ↓] theorem v194_1:Fin (evC ctx O P k Tg s q) Q=GU Tg ctx P s q Q ⟨⟩ ⟨⟩:=Bc _ _ _ _ _ _ _ (by kernel_rfl)
@[go_sem ↓] theorem v206_1:Fin (evC ctx O P k Tf s q) Q=GU Tf ctx P s q Q ⟨⟩ ⟨⟩:=Bc _ _ _ _ _ _ _ (by kernel_rfl)
@[go_sem ↓] theorem v206_2:Fin (evC ctx O P k Te s q) Q=GU Te ctx P s q Q ⟨⟩ ⟨⟩:=Bc _ _ _ _ _ _ _ (by kernel_rfl)
@[go_sem ↓] theorem v207_1:Fin (evC ctx O P k Td s q) Q=GU Td ctx P s q Q ⟨⟩ ⟨⟩:=Bc _ _ _ _ _ _ _ (by kernel_rfl)
@[go_sem ↓] theorem v207_2:Fin (evC ctx O P k Tc s q) Q=GU Tc ctx P s q Q ⟨⟩ ⟨⟩:=Bc _ _ _ _ _ _ _ (by kernel_rfl)
@[go_sem ↓] theorem v214_1:Fin (evC ctx O P k Tb s q) Q=GU Tb ctx P s q Q ⟨⟩ ⟨⟩:=Bc _ _ _ _ _ _ _ (by kernel_rfl)
end
attribute [go_sem] wN wM wL wK wJ wI wH wG wF wE wD wC wB wA vZ vY vX aF aE aD aC aB aA ZZ ZY ZX ZW ZV ZU ZT ZS ZR ZQ ZP ZO ZN ZM ZL ZK ZJ ZI ZH ZG ZF ZE ZD ZC ZB ZA Zz Zy Zx Ua TZ TY TX TW TV TU TT TS TR TQ TP TO TN TM TL TK TJ TH TG TF TE TD TC TB TA Tz Ty Tx Tw Tv Tu Tt Ts Tr Tq Tp To Tn Tm Tl Tk Tj Ti Th Tg Tf Te Td Tc Tb
end Ve
